/- Functions,as pure functions; and that Go does just that. -/
import Derived.Test.YtmcbbifeekhmgaaGreatDoorPeFFnBoots2
namespace Go.Proofs.YtmcbbifeekhmgaaGreatDoor.Pe.FnBoots
open Go Go.RowKit
set_option linter.unusedVariables false
set_option linter.unusedSimpArgs false
set_option maxHeartbeats 40000000
set_option maxRecDepth 100000
def s_MergeShelf (N:Nat)(b:Disk)(a:Shelf)(d:Int)(f:Int)(g:List Int):Option (Shelf×(List Raw)×Bool):=
 (s_l09Clean N b a).bind λh=>
 (if(!h)then
 some ((Shelf.mk (Manifest.mk ([]) 0 0 0 ([])) ([]) 0),([]:List Raw),false)
 else
 (if(d !=a.Stamp)then
 some ((Shelf.mk (Manifest.mk ([]) 0 0 0 ([])) ([]) 0),([]:List Raw),false)
 else
 (s_ShelfMap N b a).bind λj=>
 (s_MapBatch N j.1 a.Stamp).bind λk=>
 (s_BatchText N k.1).bind λl=>
 (s_Frame N l.1).bind λm=>
 (s_l10New N b a m.1 d f g).bind λc=>
 some (c.1,c.2.1,c.2.2)))
instance i132 (N:Nat)(b:Disk)(c:Shelf)(d:Int)(g:Int)(h:List Int):JG 177 (s_MergeShelf N b c d g h) [.agg [RO 93 (b.Files.map encFile)],.agg (cShelf1 c []),VI d,VI g,RO 3 (h.map encI)] 0 [] (λr=>.tup [.agg (cShelf0 r.1 0 1 2 []),.sl 3 79 0 r.2.1.length,VB r.2.2]) (λr=>(rShelf0 r.1 0 1 2 [(3,.vec 79 (r.2.1.map encRaw))])):=.st e e Tryz.call177 λB r=>.q e (.q e (.c0 e i q λ_ _=>.a e e (.st e (Ev.bsW (ys:=([]:List Raw)) (f:=encRaw) e .nil e e e e e) e (.E e e (.n [0,1,2] [9208] [0] [] [10000000,10000001,10000002,9208]))) (.a e e (.st e (Ev.bsW (ys:=([]:List Raw)) (f:=encRaw) e .nil e e e e e) e (.E e e (.n [0,1,2] [9208] [0] [] [10000000,10000001,10000002,9208]))) (.c1 e i q λ_ _=>.f (hp:=(.cons (.borrow e (by decide) lw) (.d1 .nil))) (hcase:=λ_=>(.inr ⟨rfl,ownL_root ⟨own_rows (λ_=>e) _,trivial⟩⟩)) [] [13320] 1 e i q λ_ _=>.f (hp:=(.cons (.agg (.d1 (.cons (.borrow e (by decide) lw) .nil))) .nil)) (hcase:=λ_=>(.inr ⟨rfl,ownL_root trivial⟩)) [] [17432] 0 e i q λ_ _=>.c0 e i q λ_ _=>.f [] [] 4 e i q λ_ _=>.Ek [29768,29769,29770,29771] e e e))))
def s_Settle (N:Nat)(a:Node)(b:Int):Option (Node×Bool):=
 (s_NodeOk N a).bind λc=>
 (if(!c)then
 some ((Node.mk 0 0 0 0 0 ([]) (Log.mk 0 0 ([])) 0 0 0 ([]) ([])),false)
 else
 (s_l01In N b a.Log.Start a.Commit).bind λd=>
 (if(!d)then
 some ((Node.mk 0 0 0 0 0 ([]) (Log.mk 0 0 ([])) 0 0 0 ([]) ([])),false)
 else
 (s_l16Copy N a).bind λf=>
 (s_ConfAt N a b).bind λg=>
 (s_LogTerm N a.Log b).bind λh=>
 (s_LogBehind N a.Log b h).bind λj=>
 some (({ f with Conf:=g,Log:=j }),true)))
instance i133 (N:Nat)(b:Node)(c:Int):JG 179 (s_Settle N b c) [.agg (cNode0 b []),VI c] 0 [] (λr=>.tup [.agg (cNode1 r.1 0 1 2 3 []),VB r.2]) (λr=>(rNode0 r.1 0 1 2 3 [])):=.st e e Tryz.call179 λB r=>.q e (.q e (.c0 e i q λ_ _=>.a e e (.E e e (.n [0,1] [] [0] [] [10000000,10000001,10000002,10000003])) (.c0 e i q λ_ _=>.a e e (.E e e (.n [0,1] [] [0] [] [10000000,10000001,10000002,10000003])) (.f [] [] 4 e i q λ_ _=>.c1 e i q λ_ _=>.c0 e i q λ_ _=>.c1 e i q λ_ _=>.dn e (.Ek [17416,21592,13306,13307] e e e)))))
def s_l17Merge (N:Nat)(a:Tl17Run):Option (Tl17Run):=
 (if decide (a.s.Shelf.Stamp<=a.s.Shelf.Man.Base)then
 some a
 else
 (s_LogTerm N a.s.Node.Log a.s.Shelf.Stamp).bind λg=>
 (s_ConfAt N a.s.Node a.s.Shelf.Stamp).bind λh=>
 (s_MergeShelf N a.s.Disk a.s.Shelf a.s.Shelf.Stamp g h).bind λd=>
 (s_l17Write_i1 N a d.2.1 d.2.2).bind λb=>
 (s_Settle N b.s.Node a.s.Shelf.Stamp).bind λf=>
 (if b.bad then
 some ({ b with bad:=true })
 else
 (if(!f.2)then
 some ({ b with bad:=true })
 else
 (s_l17Log_i1 N ({ b with s:=(Server.mk b.s.Node b.s.Disk d.1 b.s.Stage b.s.StageAt b.s.StageTerm) }) b.s.Node.Log f.1.Log).bind λc=>
 some ({ c with s:=(Server.mk f.1 c.s.Disk c.s.Shelf c.s.Stage c.s.StageAt c.s.StageTerm) }))))
instance i134 (N:Nat)(b:Tl17Run):JG 88 (s_l17Merge N b) [.ptr 0 0] 4 [(0,.box (cTl17Run0 b 1 2 3 [])),(1,.vec 79 (b.raws.map encRaw)),(2,.vec 42 (b.told.map (encMessage false))),(3,.vec 253 (b.done.map encDone))] (λr=>.tup []) (λr=>[(0,.box (cTl17Run0 r 4 5 6 [])),(1,.gone),(2,.gone),(3,.gone),(4,.vec 79 (r.raws.map encRaw)),(5,.vec 42 (r.told.map (encMessage false))),(6,.vec 253 (r.done.map encDone))]):=.st e e Tryz.call88 λB r=>.q e (.a e e (.E e e (.g λhB=>(Gh.trans (Gh.trans (Gh.trans (gh_prn [] [0,1,2,3] hB e) (gh_ro [] [0] [] [] e)) (gh_mvE [] [1,2,3] hB e e)) (gh_pk [] [0,1,2,3,30000001,30000002,30000003] hB e e e e)))) (.c0 e i q λ_ _=>.c1 e i q λ_ _=>.f (hp:=(.cons (.agg (.d1 .nil)) (.cons (.agg (.d4 (.d2 (.d1 .nil)))) (.d2 (.cons (.borrow e (by decide) lw) .nil))))) (hcase:=λ_=>(.inr ⟨rfl,ownL_root ⟨own_rows (λ_=>e) _,own_rows (λ_=>e) _,own_rows (λ_=>e) _,own_rows (λ_=>e) _,trivial⟩⟩)) [] [9592] 4 e i q λ_ _=>.dn e (.f [0,9611,1,2,3] [] 3 e i q λ_ _=>.f [] [] 4 e i q λc _=>.q e (.q e (.a e e (.E e e (.ro [] [0,1,2,3,13336,13337,13338] [0] [] [] [0,1,2,3,13336,13337,13338])) (.a e e (.E e e (.ro [] [0,1,2,3,13336,13337,13338] [0] [] [] [0,1,2,3,13336,13337,13338])) (.B λd h=>.stz e (EvZ.frz (f:=encEntry) (g:=encEntry) (xs:=c.1.Log.Entries) 17481 (λ_=>e) e (.mk (Ev.call [0,9608,9609,9610,13336,13337,13338] [] 6 (sy h) e e (.cons (.ptr e) (.cons (.agg (.d2 (.d1 .nil))) (.cons (.agg (.d2 (.cons (.share e (shareW _ e)) .nil))) .nil))) e (.inl e) e e))) e (.dn e (.E e e (.t (Gh.frz (f:=encI) (g:=encI) (xs:=c.1.Conf) 17480 (λ_=>e) e) (.t (Gh.frz (f:=encI) (g:=encI) (xs:=c.1.Votes) 17482 (λ_=>e) e) (.t (Gh.frz (f:=encPeer) (g:=encPeer) (xs:=c.1.Peers) 17483 (λ_=>e) e) (.t (Gh.frz (f:=encI) (g:=encI) (xs:=d.s.Shelf.Man.Segs) 33912 (λ_=>e) e) (.t (Gh.frz (f:=encI) (g:=encI) (xs:=d.s.Shelf.Man.Conf) 33913 (λ_=>e) e) (.t (Gh.frz (f:=encSpot) (g:=encSpot) (xs:=d.s.Shelf.Dir) 33914 (λ_=>e) e) (.ro [] [0,1,2,3,17480,17481,17482,17483,33912,33913,33914,33915,33916,33917] [0] [17480,17481,17482,17483,33912,33913,33914] [] [0,1,2,3,33915,33916,33917]))))))))))))))))
def s_SnapText (N:Nat)(c:Disk)(a:Shelf):Option (BA×Bool):=
 (s_OpenShelf N c).bind λd=>
 (if(d.2.2 !=0)then
 some ((⟨#[]⟩:BA),false)
 else
 (s_l09Same N a d.1).bind λh=>
 (if(!h)then
 some ((⟨#[]⟩:BA),false)
 else
 (if(a.Man.Base==0)then
 some ((⟨#[]⟩:BA),false)
 else
 (at? a.Man.Segs 0).bind λj=>
 (s_SegName N j).bind λk=>
 (s_l03Text N c k).bind λl=>
 (s_Unframe N l).bind λb=>
 (if((b.1.length:Int)==0)then
 some ((⟨#[]⟩:BA),false)
 else
 (at? b.1 0).bind λm=>
 (s_ReadBatch N m).bind λf=>
 (if(!f.2)then
 some ((⟨#[]⟩:BA),false)
 else
 (if(f.1.Stamp !=a.Man.Base)then
 some ((⟨#[]⟩:BA),false)
 else
 (at? b.1 0).bind λn=>
 (s_Frame N n).bind λg=>
 some (g.1,g.2)))))))
instance i135 (N:Nat)(b:Disk)(c:Shelf):JG 184 (s_SnapText N b c) [.agg [RO 93 (b.Files.map encFile)],.agg (cShelf1 c [])] 0 [] (λr=>.tup [VS r.1,VB r.2]) (λr=>[]):=.st e e Tryz.call184 λB r=>.f [] [] 4 e i q λ_ _=>.q e (.q e (.a e e (.Ek [] e e e) (.f (hp:=(.cons (.agg (.d4 (.d2 (.d1 .nil)))) (.cons (.agg (.cons (.borrow e (by decide) lw) (.d2 (.d1 (.cons (.borrow e (by decide) lw) (.cons (.borrow e (by decide) lw) (.d1 .nil))))))) .nil))) (hcase:=λ_=>(.inr ⟨rfl,ownL_root trivial⟩)) [] [5112,5113,5114] 0 e i q λ_ _=>.a e e (.Ek [] e e e) (.a e e (.Ek [] e e e) (.B λ_ h=>.st e (Ev.iaF e e h) e (.c0 e i q λ_ _=>.c0 e i q λ_ _=>.c1 e i q λ_ _=>.dn e (.q e (.a e e (.Ek [] e e e) (.B λ_ d=>.st e (Ev.iaW e e e d) e (.st e (Ev.ldE (f:=encS) e e (at_some d).2 e e e) e (.c1 e i q λ_ _=>.q e (.q e (.a e e (.Ek [] e e e) (.a e e (.Ek [] e e e) (.B λ_ g=>.st e (Ev.iaW e e e g) e (.st e (Ev.ldE (f:=encS) e e (at_some g).2 e e e) e (.c0 e i q λ_ _=>.Ek [] e e e)))))))))))))))))
def s_l17Ship_l1 (N:Nat)(f:Tl17Run)(a:BA×Bool):Nat->Int->(List Message)->Option ((List Message))
 |0,_,_=>none
 |m+1,g,c=>
 (if decide (g<(f.told.length:Int))then
 joinP (λ(n:List Message)=>
 s_l17Ship_l1 N f a m (w64 (g+1)) n) λh=>
 (at? f.told g).bind λb=>
 (if(b.Kind !=5)then
 (cat? c ([b]:List Message)).bind λo=>
 h o
 else
 (if(!a.2)then
 h c
 else
 joinP (λ(d:Int)=>
 joinP (λ(j:Int)=>
 (scut? a.1 d j).bind λp=>
 (cat? c ([({ b with Commit:=d,Data:=p,Last:=(j==(a.1.size:Int)) })]:List Message)).bind λs=>
 h s) λk=>
 (if decide ((w64 (d+60))>(a.1.size:Int))then
 k (a.1.size:Int)
 else
 k (w64 (d+60)))) λl=>
 (if decide (b.Commit>=(a.1.size:Int))then
 l 0
 else
 l b.Commit)))
 else
 some c)
def s_l17Ship (N:Nat)(a:Tl17Run):Option (Tl17Run):=
 (s_SnapText N a.s.Disk a.s.Shelf).bind λb=>
 joinP (λ(c:List Message)=>
 some ({ a with told:=c })) λd=>
 (s_l17Ship_l1 N a b N 0 ([]:List Message)).bind (λf=>d f)
instance i136 (N:Nat)(b:Tl17Run):JG 90 (s_l17Ship N b) [.ptr 0 0] 4 [(0,.box (cTl17Run0 b 1 2 3 [])),(1,.vec 79 (b.raws.map encRaw)),(2,.vec 42 (b.told.map (encMessage false))),(3,.vec 253 (b.done.map encDone))] (λr=>.tup []) (λr=>[(0,.box (cServer1 r.s [.sl 1 79 0 b.raws.length,.sl 4 42 0 r.told.length,.sl 3 253 0 b.done.length,VB r.bad])),(1,.vec 79 (b.raws.map encRaw)),(2,.gone),(3,.vec 253 (b.done.map encDone)),(4,.vec 42 (r.told.map (encMessage false)))]):=.st e e Tryz.call90 λB r=>.st e (Ev.bsW (ys:=([]:List Message)) (f:=(encMessage false)) e .nil e e e e e) e (.c0 e i q λu _=>.dn e (.jk e [0,2] [0,1,2,3,1000] (λd=>[.f 2 (.sl 4 42 0 d.length),.r 4 (.vec 42 (d.map (encMessage false)))]) (λ_=>e) (λ_=>.K2 e [0,2,3,4,5] [0,1,2,3,1000] (λo g=>[.f 2 (.sl 4 42 0 g.length),.f 5 (VI o),.r 4 (.vec 42 (g.map (encMessage false)))]) (λ_ _=>e) λ_ o g _ w=>.q e (.a e e (.jk e [0,2,3,4,5] [0,1,2,3,4] (λj=>[.f 2 (.sl 4 42 0 j.length),.r 4 (.vec 42 (j.map (encMessage false)))]) (λ_=>e) (λ_=>.B λp t=>.st e (Ev.iaW e e e t) e (.st e (Ev.ldE (f:=(encMessage false)) e e (at_some t).2 e e e) e (.q e (.a e e (.st e (Ev.bsW (ys:=([p]:List Message)) (f:=(encMessage false)) e (.d4 (.d4 (.d4 .nil))) e e e e e) e (.B λ_ x=>.st e (Ev.apW (f:=(encMessage false)) (ontoW e e e) (addsW e e e (λ_=>e)) e bt42 e x) e (.J e (.k [0,2,3,4,5] [0,1,2,3,29720])))) (.q e (.a e e (.J e (.k [0,2,3,4,5] [0,1,2,3,4])) (.jk e [0,2,3,4,5,6] [0,1,2,3,4,21592] (λl=>[.c 5 6 (VI l)]) (λ_=>e) (λ_=>.a e e (.J e (.k [0,2,3,4,5,6] [0,1,2,3,4,21592])) (.J e (.k [0,2,3,4,5,6] [0,1,2,3,4,21592]))) λl=>.jk e [0,2,3,4,5,6,7] [0,1,2,3,4,5] (λm=>[.f 7 (VI m)]) (λ_=>e) (λ_=>.a e e (.J e (.k [0,2,3,4,5,6,7] [0,1,2,3,4,5])) (.J e (.k [0,2,3,4,5,6,7] [0,1,2,3,4,5]))) λm=>.B λy v=>.st e (Ev.ssB e e e v) e (.st e (Ev.bsW (ys:=([({ p with Commit:=l,Data:=y,Last:=(m==(u.1.size:Int)) })]:List Message)) (f:=(encMessage false)) e (.d4 (.d4 (.d4 .nil))) e e e e e) e (.B λ_ z=>.st e (Ev.apW (f:=(encMessage false)) (ontoW e e e) (addsW e e e (λ_=>e)) e bt42 e z) e (.J e (.k [0,2,3,4,5] [0,1,2,3,66584]))))))))))) λj=>.R e (λh=>⟨_,_,h,e,e⟩) (.k [0,2,3,4,5] [0,1,2,3,4])) (.X w e e (.n e (.J e (.k [0,2] [0,1,2,3,4])))))) λd=>.E e e (.mv [] [0,1,2,3,4] [2] [0,1,2,3,4])))
def s_EntryAt (N:Nat)(a:Log)(b:Int):Option (Entry×Bool):=
 (s_LogOk N a).bind λc=>
 (if(!c)then
 some ((Entry.mk 0 0 (⟨#[]⟩:BA)),false)
 else
 (if decide (b<=a.Start)then
 some ((Entry.mk 0 0 (⟨#[]⟩:BA)),false)
 else
 (s_l12Last N a).bind λd=>
 (if decide (b>d)then
 some ((Entry.mk 0 0 (⟨#[]⟩:BA)),false)
 else
 (at? a.Entries (w64 ((w64 (b-a.Start))-1))).bind λf=>
 some (f,true))))
instance i137 (N:Nat)(b:Log)(c:Int):JG 180 (s_EntryAt N b c) [.agg [VI b.Start,VI b.StartTerm,RO 91 (b.Entries.map encEntry)],VI c] 0 [] (λr=>.tup [.agg [VI r.1.Term,VI r.1.Kind,VS r.1.Data],VB r.2]) (λr=>[]):=.st e e Tryz.call180 λB r=>.q e (.q e (.c0 e i q λ_ _=>.a e e (.Ek [] e e e) (.a e e (.Ek [] e e e) (.c0 e i q λ_ _=>.a e e (.Ek [] e e e) (.B λ_ d=>.st e (Ev.iaF e e d) e (.Ek [] e e e))))))
def s_ReadCommand (N:Nat)(h:BA):Option (Command×Bool):=
 (s_l05Take N (Tl05Cur.mk h 0 false) 1).bind λa=>
 (if a.2.bad then
 some ((Command.mk 0 0 0 (⟨#[]⟩:BA) (⟨#[]⟩:BA) (⟨#[]⟩:BA)),false)
 else
 (sat? a.1 0).bind λj=>
 (s_l05Var N a.2).bind λb=>
 (s_l05Var N b.2).bind λc=>
 (s_l05ReadShort N c.2).bind λd=>
 (s_l05ReadShort N d.2).bind λf=>
 (s_l05ReadShort N f.2).bind λg=>
 (s_CommandText N (Command.mk (w64 (j)) b.1 c.1 d.1 f.1 g.1)).bind λk=>
 (if g.2.bad then
 some ((Command.mk 0 0 0 (⟨#[]⟩:BA) (⟨#[]⟩:BA) (⟨#[]⟩:BA)),false)
 else
 (if(!k.2)then
 some ((Command.mk 0 0 0 (⟨#[]⟩:BA) (⟨#[]⟩:BA) (⟨#[]⟩:BA)),false)
 else
 (if(!decide (k.1=h))then
 some ((Command.mk 0 0 0 (⟨#[]⟩:BA) (⟨#[]⟩:BA) (⟨#[]⟩:BA)),false)
 else
 some ((Command.mk (w64 (j)) b.1 c.1 d.1 f.1 g.1),true)))))
instance i138 (N:Nat)(b:BA):JG 232 (s_ReadCommand N b) [VS b] 0 [] (λr=>.tup [.agg (cCommand0 r.1 []),VB r.2]) (λr=>[]):=.st e e Tryz.call232 λB r=>.f [5128] [] 0 e i q λ_ _=>.q e (.a e e (.Ek [] e e e) (.B λ_ c=>.st e (Ev.ixS e e c) e (.f [5128] [] 0 e i q λ_ _=>.f [5128] [] 0 e i q λ_ _=>.f [5128] [] 0 e i q λ_ _=>.f [5128] [] 0 e i q λ_ _=>.f [5128] [] 0 e i q λ_ _=>.c0 e i q λ_ _=>.q e (.q e (.a e e (.Ek [] e e e) (.a e e (.Ek [] e e e) (.a e e (.Ek [] e e e) (.Ek [] e e e))))))))
def s_l06At_l1 (N:Nat)(b:List Pair)(c:BA):Nat->Int->Option ((Int)⊕(Unit))
 |0,_=>none
 |m+1,a=>
 (if decide (a<(b.length:Int))then
 (at? b a).bind λd=>
 (if decide (d.Key=c)then
 some (Sum.inl a)
 else
 s_l06At_l1 N b c m (w64 (a+1)))
 else
 some (Sum.inr ()))
def s_l06At (N:Nat)(a:List Pair)(b:BA):Option (Int):=
 joinP (λ(f:Unit)=>
 some (-1:Int)) λc=>
 (s_l06At_l1 N a b N 0).bind (Sum.elim (λd=>some d) (λ(g:Unit)=>c ()))
instance i139 (N:Nat)(b:List Pair)(c:BA):JI 269 (s_l06At N b c) [RO 89 (b.map encPair),VS c]:=.st e e Tryz.call269 λB r=>.j e (λ_=>[]) (λ_=>[]) (λ_=>.K1 e [0,1,5] [] (λd=>[.f 5 (VI d)]) (λ_=>e) λ_ d _ g=>.q e (.st e (Ev.lnF e) e (.a e e (.q e (.B λ_ l=>.st e (Ev.iaF e e l) e (.a e e (.Xr g e e (.il (.e e (.Ek [] e e e)))) (.R e (λh=>⟨_,h,e,e⟩) (.k [0,1,5] []))))) (.X g e e (.ir (.n e (.J e (.k [] [])))))))) λ_=>.Ek [] e e e
def s_l06Get (N:Nat)(a:List Pair)(c:BA):Option (BA):=
 (s_l06At N a c).bind λb=>
 (if decide (b<0)then
 some (⟨#[]⟩:BA)
 else
 (at? a b).bind λd=>
 some d.Value)
instance i140 (N:Nat)(b:List Pair)(c:BA):JS 270 (s_l06Get N b c) [RO 89 (b.map encPair),VS c]:=.st e e Tryz.call270 λB r=>.c0 e i q λ_ _=>.q e (.a e e (.Ek [] e e e) (.B λ_ d=>.st e (Ev.iaF e e d) e (.Ek [] e e e)))
def s_l15Next (N:Nat)(a:List Pair):Option (Int×Bool):=
 (s_l06At N a (⟨#[110]⟩:BA)).bind λc=>
 (if decide (c<0)then
 some (1,true)
 else
 (s_l06Get N a (⟨#[110]⟩:BA)).bind λd=>
 (s_ReadDecimal N d).bind λb=>
 some (b.1,b.2))
instance i141 (N:Nat)(b:List Pair):JG 267 (s_l15Next N b) [RO 89 (b.map encPair)] 0 [] (λr=>.tup [VI r.1,VB r.2]) (λr=>[]):=.st e e Tryz.call267 λB r=>.q e (.c0 e i q λ_ _=>.a e e (.Ek [] e e e) (.c0 e i q λ_ _=>.c0 e i q λ_ _=>.Ek [] e e e))
def s_l15Key (N:Nat)(a:Int):Option (BA):=
 (s_Decimal N a).bind λb=>
 (scat? (⟨#[115]⟩:BA) b).bind λc=>
 some c
instance i142 (N:Nat)(a:Int):JS 259 (s_l15Key N a) [VI a]:=.st e e Tryz.call259 λB r=>.c0 e i q λ_ _=>.B λ_ b=>.st e (Ev.addS e e b) e (.Ek [] e e e)
def s_l06Cut_l1 (N:Nat)(a:List Pair)(d:BA):Nat->Int->(List Pair)->Option ((List Pair))
 |0,_,_=>none
 |m+1,b,c=>
 (if decide (b<(a.length:Int))then
 joinP (λ(g:List Pair)=>
 s_l06Cut_l1 N a d m (w64 (b+1)) g) λf=>
 (at? a b).bind λh=>
 (if(!decide (h.Key=d))then
 (at? a b).bind λj=>
 (cat? c ([j]:List Pair)).bind λk=>
 f k
 else
 f c)
 else
 some c)
def s_l06Cut (N:Nat)(a:List Pair)(b:BA):Option ((List Pair)):=
 joinP (λ(c:List Pair)=>
 some c) λd=>
 (s_l06Cut_l1 N a b N 0 ([]:List Pair)).bind (λf=>d f)
instance i143 (N:Nat)(g:List Pair)(l:BA):JG 268 (s_l06Cut N g l) [RO 89 (g.map encPair),VS l] 0 [] (λr=>.sl 0 89 0 r.length) (λr=>[(0,.vec 89 (r.map encPair))]):=.st e e Tryz.call268 λB r=>.st e (Ev.bsW (ys:=([]:List Pair)) (f:=encPair) e .nil e e e e e) e (.j e (λb=>[(5,.sl 0 89 0 b.length)]) (λb=>[(0,.vec 89 (b.map encPair))]) (λ_=>.K2 e [0,1,5,6] [5096] (λm c=>[.f 5 (.sl 0 89 0 c.length),.f 6 (VI m),.r 0 (.vec 89 (c.map encPair))]) (λ_ _=>e) λ_ m c _ o=>.q e (.st e (Ev.lnF e) e (.a e e (.jk e [0,1,5,6] [0] (λd=>[.f 5 (.sl 0 89 0 d.length),.r 0 (.vec 89 (d.map encPair))]) (λ_=>e) (λ_=>.B λ_ p=>.st e (Ev.iaF e e p) e (.a e e (.B λs t=>.st e (Ev.iaF e e t) e (.st e (Ev.bsW (ys:=([s]:List Pair)) (f:=encPair) e (.d2 .nil) e e e e e) e (.B λ_ u=>.st e (Ev.apW (f:=encPair) (ontoW e e e) (addsW e e e (λ_=>e)) e bt89 e u) e (.J e (.k [0,1,5,6] [25672]))))) (.J e (.k [0,1,5,6] [0])))) λd=>.R e (λh=>⟨_,_,h,e,e⟩) (.k [0,1,5,6] [0])) (.X o e e (.n e (.J e (.k [5] [0]))))))) λb=>.Ek [0] e e e)
def s_l15Text (N:Nat)(a:Tl15State):Option (BA):=
 (s_Decimal N a.seq).bind λb=>
 (scat? b (⟨#[32]⟩:BA)).bind λc=>
 (s_Decimal N a.at').bind λd=>
 (scat? c d).bind λf=>
 (scat? f (⟨#[32]⟩:BA)).bind λg=>
 (scat? g a.reply).bind λh=>
 some h
instance i144 (N:Nat)(a:Tl15State):JS 260 (s_l15Text N a) [.agg (cTl15State0 a [])]:=.st e e Tryz.call260 λB r=>.c0 e i q λ_ _=>.B λ_ b=>.st e (Ev.addS e e b) e (.c0 e i q λ_ _=>.B λ_ c=>.st e (Ev.addS e e c) e (.B λ_ d=>.st e (Ev.addS e e d) e (.B λ_ f=>.st e (Ev.addS e e f) e (.dn e (.Ek [] e e e)))))
def s_l06Put_l1 (N:Nat)(a:List Pair)(d:BA):Nat->Int->(List Pair)->Option ((List Pair))
 |0,_,_=>none
 |m+1,b,c=>
 (if decide (b<(a.length:Int))then
 joinP (λ(g:List Pair)=>
 s_l06Put_l1 N a d m (w64 (b+1)) g) λf=>
 (at? a b).bind λh=>
 (if(Op.bytesLess h.Key.toList d.toList)then
 (at? a b).bind λj=>
 (cat? c ([j]:List Pair)).bind λk=>
 f k
 else
 f c)
 else
 some c)
def s_l06Put_l2 (N:Nat)(a:List Pair)(c:BA):Nat->Int->(List Pair)->Option ((List Pair))
 |0,_,_=>none
 |m+1,b,d=>
 (if decide (b<(a.length:Int))then
 joinP (λ(h:List Pair)=>
 s_l06Put_l2 N a c m (w64 (b+1)) h) λf=>
 (at? a b).bind λg=>
 (if(!(Op.bytesLess g.Key.toList c.toList||decide (g.Key=c)))then
 (at? a b).bind λj=>
 (cat? d ([j]:List Pair)).bind λk=>
 f k
 else
 f d)
 else
 some d)
def s_l06Put (N:Nat)(b:List Pair)(a:BA)(c:BA):Option ((List Pair)):=
 joinP (λ(d:List Pair)=>
 (cat? d ([(Pair.mk a c)]:List Pair)).bind λf=>
 joinP (λ(g:List Pair)=>
 some g) λh=>
 (s_l06Put_l2 N b a N 0 f).bind (λj=>h j)) λk=>
 (s_l06Put_l1 N b a N 0 ([]:List Pair)).bind (λl=>k l)
instance i145 (N:Nat)(s:List Pair)(c:BA)(d:BA):JG 258 (s_l06Put N s c d) [RO 89 (s.map encPair),VS c,VS d] 0 [] (λr=>.sl 0 89 0 r.length) (λr=>[(0,.vec 89 (r.map encPair))]):=.st e e Tryz.call258 λB r=>.st e (Ev.bsW (ys:=([]:List Pair)) (f:=encPair) e .nil e e e e e) e (.jk e [0,1,2,7] [5096] (λg=>[.f 7 (.sl 0 89 0 g.length),.r 0 (.vec 89 (g.map encPair))]) (λ_=>e) (λ_=>.K2 e [0,1,2,7,8] [5096] (λt l=>[.f 7 (.sl 0 89 0 l.length),.f 8 (VI t),.r 0 (.vec 89 (l.map encPair))]) (λ_ _=>e) λ_ t l _ w=>.q e (.st e (Ev.lnF e) e (.a e e (.jk e [0,1,2,7,8] [0] (λm=>[.f 7 (.sl 0 89 0 m.length),.r 0 (.vec 89 (m.map encPair))]) (λ_=>e) (λ_=>.B λ_ x=>.st e (Ev.iaF e e x) e (.a e e (.B λy v=>.st e (Ev.iaF e e v) e (.st e (Ev.bsW (ys:=([y]:List Pair)) (f:=encPair) e (.d2 .nil) e e e e e) e (.B λ_ z=>.st e (Ev.apW (f:=encPair) (ontoW e e e) (addsW e e e (λ_=>e)) e bt89 e z) e (.J e (.k [0,1,2,7,8] [25672]))))) (.J e (.k [0,1,2,7,8] [0])))) λm=>.R e (λh=>⟨_,_,h,e,e⟩) (.k [0,1,2,7,8] [0])) (.X w e e (.n e (.J e (.k [0,1,2,7] [0]))))))) λg=>.st e (Ev.bsW (ys:=([(Pair.mk c d)]:List Pair)) (f:=encPair) e (.d2 .nil) e e e e e) e (.B λ_ a0=>.st e (Ev.apW (f:=encPair) (ontoW e e e) (addsW e e e (λ_=>e)) e bt89 e a0) e (.j e (λb=>[(7,.sl 0 89 0 b.length)]) (λb=>[(0,.vec 89 (b.map encPair))]) (λ_=>.K2 e [0,1,7,9] [29752] (λu o=>[.f 7 (.sl 0 89 0 o.length),.f 9 (VI u),.r 0 (.vec 89 (o.map encPair))]) (λ_ _=>e) λ_ u o _ a1=>.q e (.st e (Ev.lnF e) e (.a e e (.jk e [0,1,7,9] [0] (λp=>[.f 7 (.sl 0 89 0 p.length),.r 0 (.vec 89 (p.map encPair))]) (λ_=>e) (λ_=>.B λ_ a2=>.st e (Ev.iaF e e a2) e (.a e e (.B λa3 a4=>.st e (Ev.iaF e e a4) e (.st e (Ev.bsW (ys:=([a3]:List Pair)) (f:=encPair) e (.d2 .nil) e e e e e) e (.B λ_ a5=>.st e (Ev.apW (f:=encPair) (ontoW e e e) (addsW e e e (λ_=>e)) e bt89 e a5) e (.J e (.k [0,1,7,9] [50248]))))) (.J e (.k [0,1,7,9] [0])))) λp=>.R e (λh=>⟨_,_,h,e,e⟩) (.k [0,1,7,9] [0])) (.X a1 e e (.n e (.J e (.k [7] [0]))))))) λb=>.Ek [0] e e e)))
def s_l15Open_l1 (N:Nat)(a:List Tl15State):Nat->Int->Int->Option (Int)
 |0,_,_=>none
 |m+1,c,b=>
 (if decide (b<(a.length:Int))then
 joinP (λ(f:Int)=>
 s_l15Open_l1 N a m f (w64 (b+1))) λd=>
 (at? a b).bind λg=>
 (at? a c).bind λh=>
 (if decide (g.at'<h.at')then
 d b
 else
 d c)
 else
 some c)
def s_l15Open_i1_l1 (N:Nat)(a:List Tl15State):Nat->Int->Int->Option (Int)
 |0,_,_=>none
 |m+1,c,b=>
 (if decide (b<(a.length:Int))then
 joinP (λ(f:Int)=>
 s_l15Open_i1_l1 N a m f (w64 (b+1))) λd=>
 (at? a b).bind λg=>
 (at? a c).bind λh=>
 (if decide (g.at'<h.at')then
 d b
 else
 d c)
 else
 some c)
def s_l15Open_i1 (N:Nat)(a:List Pair)(f:Int)(c:List Tl15State):Option ((List Pair)×BA×Bool):=
 (s_l15Next N a).bind λb=>
 (if(!b.2)then
 some (a,(⟨#[]⟩:BA),false)
 else
 joinP (λ(g:List Pair)=>
 (s_l15Key N b.1).bind λh=>
 (s_l15Text N (Tl15State.mk 0 0 f (⟨#[]⟩:BA))).bind λj=>
 (s_l06Put N g h j).bind λk=>
 (s_Decimal N (w64 (b.1+1))).bind λl=>
 (s_l06Put N k (⟨#[110]⟩:BA) l).bind λm=>
 (s_Decimal N b.1).bind λn=>
 (scat? (⟨#[111,112,101,110,32]⟩:BA) n).bind λo=>
 some (m,o,true)) λd=>
 (if decide ((c.length:Int)>=3)then
 joinP (λ(p:Int)=>
 (at? c p).bind λs=>
 (s_l15Key N s.id).bind λt=>
 (s_l06Cut N a t).bind λu=>
 d u) λw=>
 (s_l15Open_i1_l1 N c N 0 1).bind (λx=>w x)
 else
 d a))
instance i147 (N:Nat)(c:List Pair)(d:Int)(b:List Tl15State):JG 256 (s_l15Open_i1 N c d b) [RO 89 (c.map encPair),VI d,.sl 0 222 0 b.length] 1 [(0,.vec 222 (b.map encTl15State))] (λr=>.tup [RO 89 (r.1.map encPair),VS r.2.1,VB r.2.2]) (λr=>[(0,.vec 222 (b.map encTl15State))]):=.st e e Tryz.call256 λB r=>.c0 e i q λ_ _=>.q e (.a e e (.E e e (.ro [0,1,2] [0] [] [] [0] [0])) (.jk e [0,1,9] [0] (λj=>[.f 0 (RO 89 (j.map encPair))]) (λ_=>e) (λ_=>.a e e (.jk e [0,1,2,9,11] [0] (λl=>[.f 11 (VI l)]) (λ_=>e) (λ_=>.K2 e [0,1,2,9,11,12] [0] (λm o=>[.f 11 (VI m),.f 12 (VI o)]) (λ_ _=>e) λ_ m o _ x=>.q e (.a e e (.jk e [0,1,2,9,11,12] [0] (λp=>[.f 11 (VI p)]) (λ_=>e) (λ_=>.B λ_ s=>.st e (Ev.iaW e e e s) e (.st e (Ev.ldE (f:=encTl15State) e e (at_some s).2 e e e) e (.B λ_ u=>.st e (Ev.iaW e e e u) e (.st e (Ev.ldE (f:=encTl15State) e e (at_some u).2 e e e) e (.dn e (.a e e (.J e (.k [0,1,2,9,11,12] [0])) (.J e (.k [0,1,2,9,11,12] [0])))))))) λp=>.R e (λh=>⟨_,_,h,e,e⟩) (.k [0,1,2,9,11,12] [0])) (.X x e e (.n e (.J e (.k [0,1,2,9,11] [0])))))) λl=>.B λ_ w=>.st e (Ev.iaW e e e w) e (.st e (Ev.ldE (f:=encTl15State) e e (at_some w).2 e e e) e (.c0 e i q λ_ _=>.c1 e i q λy _=>.J e (.t (Gh.frz (f:=encPair) (g:=encPair) (xs:=y) 46168 (λ_=>e) e) (.ro [0,1,9] [0,46168] [] [46168] [0] [0]))))) (.J e (.ro [0,1,9] [0] [] [] [0] [0]))) λj=>.c0 e i q λ_ _=>.c0 e i q λ_ _=>.c1 e i q λ_ _=>.c0 e i q λ_ _=>.f (hp:=(.cons (.borrow e (by decide) lw) (.d2 .nil))) (hcase:=λ_=>(.inr ⟨rfl,ownL_root ⟨own_rows (λ_=>e) _,trivial⟩⟩)) [] [50248] 1 e i q λv _=>.c0 e i q λ_ _=>.B λ_ z=>.st e (Ev.addS e e z) e (.E e e (.t (Gh.frz (f:=encPair) (g:=encPair) (xs:=v) 54312 (λ_=>e) e) (.ro [0,1,2] [0,54312] [] [54312] [0] [0])))))
def s_l15Op_i1 (N:Nat)(a:List Pair)(b:Command):Option ((List Pair)×BA):=
 (scat? (⟨#[107]⟩:BA) b.Key).bind λc=>
 (s_l06At N a c).bind λd=>
 (s_l06Get N a c).bind λf=>
 (if(b.Op==2)then
 (if decide (d>=0)then
 (scat? (⟨#[103,111,116,32]⟩:BA) f).bind λg=>
 some (a,g)
 else
 some (a,(⟨#[110,111,110,101]⟩:BA)))
 else
 (if(b.Op==3)then
 (s_l06Put N a c b.Value).bind λh=>
 some (h,(⟨#[112,117,116]⟩:BA))
 else
 (if(b.Op==4)then
 (if decide (d>=0)then
 (s_l06Cut N a c).bind λj=>
 some (j,(⟨#[99,117,116]⟩:BA))
 else
 some (a,(⟨#[110,111,110,101]⟩:BA)))
 else
 (if(!decide (f=b.Old))then
 some (a,(⟨#[107,101,112,116]⟩:BA))
 else
 (s_l06Put N a c b.Value).bind λk=>
 some (k,(⟨#[115,119,97,112,112,101,100]⟩:BA))))))
instance i149 (N:Nat)(b:List Pair)(c:Command):JG 257 (s_l15Op_i1 N b c) [.sl 0 89 0 b.length,.agg (cCommand0 c [])] 1 [(0,.vec 89 (b.map encPair))] (λr=>.tup [.sl 1 89 0 r.1.length,VS r.2]) (λr=>[(0,.gone),(1,.vec 89 (r.1.map encPair))]):=.st e e Tryz.call257 λB r=>.B λ_ d=>.st e (Ev.addS e e d) e (.f (hp:=(.cons (.borrow e (by decide) lw) (.d1 .nil))) (hcase:=λ_=>(.inr ⟨rfl,ownL_root trivial⟩)) [] [0] 0 e i q λ_ _=>.f (hp:=(.cons (.borrow e (by decide) lw) (.d1 .nil))) (hcase:=λ_=>(.inr ⟨rfl,ownL_root trivial⟩)) [] [0] 0 e i q λ_ _=>.q e (.a e e (.q e (.a e e (.B λ_ g=>.st e (Ev.addS e e g) e (.E e e (.mv [0,1] [0] [0] [0,30000000]))) (.E e e (.mv [0,1] [0] [0] [0,30000000])))) (.a e e (.f (hp:=(.cons (.borrow e (by decide) lw) (.d2 .nil))) (hcase:=λ_=>(.inr ⟨rfl,ownL_root ⟨own_rows (λ_=>e) _,trivial⟩⟩)) [] [0] 1 e i q λ_ _=>.E e e (.mv [0,1] [0,42024] [0] [0,42024])) (.a e e (.q e (.a e e (.f (hp:=(.cons (.borrow e (by decide) lw) (.d1 .nil))) (hcase:=λ_=>(.inr ⟨rfl,ownL_root ⟨own_rows (λ_=>e) _,trivial⟩⟩)) [] [0] 1 e i q λ_ _=>.E e e (.mv [0,1] [0,54280] [0] [0,54280])) (.E e e (.mv [0,1] [0] [0] [0,30000000])))) (.q e (.a e e (.E e e (.mv [0,1] [0] [0] [0,30000000])) (.f (hp:=(.cons (.borrow e (by decide) lw) (.d2 .nil))) (hcase:=λ_=>(.inr ⟨rfl,ownL_root ⟨own_rows (λ_=>e) _,trivial⟩⟩)) [] [0] 1 e i q λ_ _=>.E e e (.mv [0,1] [0,70696] [0] [0,70696]))))))))
def s_Act_l1 (N:Nat)(c:Command)(b:(List Tl15State)×Bool):Nat->Int->Int->Option (Int)
 |0,_,_=>none
 |m+1,d,a=>
 (if decide (a<(b.1.length:Int))then
 joinP (λ(g:Int)=>
 s_Act_l1 N c b m g (w64 (a+1))) λf=>
 (at? b.1 a).bind λh=>
 (if(h.id==c.Session)then
 f a
 else
 f d)
 else
 some d)
def s_Act (N:Nat)(g:List Pair)(h:Int)(a:Command):Option ((List Pair)×BA×Bool):=
 (s_MapOk N g).bind λm=>
 (if(!m)then
 some (([]:List Pair),(⟨#[]⟩:BA),false)
 else
 (s_CommandOk N a).bind λn=>
 (if(!n)then
 some (([]:List Pair),(⟨#[]⟩:BA),false)
 else
 (s_l01In N h 0 100000).bind λo=>
 (if(!o)then
 some (([]:List Pair),(⟨#[]⟩:BA),false)
 else
 (s_l15Sessions N g).bind λd=>
 (if(!d.2)then
 some (([]:List Pair),(⟨#[]⟩:BA),false)
 else
 (cat? ([]:List Pair) g).bind λb=>
 (if(a.Op==1)then
 (s_l15Open_i1 N b h d.1).bind λf=>
 (if(!f.2.2)then
 some (([]:List Pair),(⟨#[]⟩:BA),false)
 else
 (s_MapOk N f.1).bind λp=>
 (if(!p)then
 some (([]:List Pair),(⟨#[]⟩:BA),false)
 else
 some (f.1,f.2.1,true)))
 else
 joinP (λ(k:Int)=>
 (if decide (k<0)then
 some (b,(⟨#[101,120,112,105,114,101,100]⟩:BA),true)
 else
 (at? d.1 k).bind λc=>
 (if decide (a.Seq<c.seq)then
 some (b,(⟨#[115,116,97,108,101]⟩:BA),true)
 else
 (if(a.Seq==c.seq)then
 some (b,c.reply,true)
 else
 (if decide (a.Seq>(w64 (c.seq+1)))then
 some (b,(⟨#[103,97,112]⟩:BA),true)
 else
 (s_l15Op_i1 N b a).bind λj=>
 (s_l15Key N c.id).bind λs=>
 (s_l15Text N (Tl15State.mk c.id a.Seq h j.2)).bind λt=>
 (s_l06Put N j.1 s t).bind λl=>
 (s_MapOk N l).bind λu=>
 (if(!u)then
 some (([]:List Pair),(⟨#[]⟩:BA),false)
 else
 some (l,j.2,true))))))) λw=>
 (s_Act_l1 N a d N (-1:Int) 0).bind (λx=>w x))))))
instance i150 (N:Nat)(c:List Pair)(d:Int)(j:Command):JG 233 (s_Act N c d j) [RO 89 (c.map encPair),VI d,.agg (cCommand0 j [])] 0 [] (λr=>.tup [RO 89 (r.1.map encPair),VS r.2.1,VB r.2.2]) (λr=>[]):=.st e e Tryz.call233 λB r=>.st e (Ev.bsW (ys:=([]:List Pair)) (f:=encPair) e .nil e e e e e) e (.q e (.q e (.c0 e i q λ_ _=>.a e e (.E e e (.t (Gh.frz (f:=encPair) (g:=encPair) (xs:=([]:List Pair)) 5096 (λ_=>e) e) (.ro [0,1,2] [5096] [] [5096] [0] []))) (.c0 e i q λ_ _=>.a e e (.E e e (.t (Gh.frz (f:=encPair) (g:=encPair) (xs:=([]:List Pair)) 5096 (λ_=>e) e) (.ro [0,1,2] [5096] [] [5096] [0] []))) (.c0 e i q λ_ _=>.a e e (.E e e (.t (Gh.frz (f:=encPair) (g:=encPair) (xs:=([]:List Pair)) 5096 (λ_=>e) e) (.ro [0,1,2] [5096] [] [5096] [0] []))) (.c1 e i q λ_ _=>.q e (.a e e (.E e e (.t (Gh.frz (f:=encPair) (g:=encPair) (xs:=([]:List Pair)) 5096 (λ_=>e) e) (.ro [0,1,2] [5096] [] [5096] [0] []))) (.st e (Ev.bsW (ys:=([]:List Pair)) (f:=encPair) e .nil e e e e e) e (.B λb w=>.st e (Ev.apW (f:=encPair) (ontoW e e e) (addsF e) e bt89 e w) e (.q e (.a e e (.B λ_ x=>.stz e (EvZ.frz (f:=encPair) (g:=encPair) (xs:=b) 29704 (λ_=>e) e (.mk (Ev.call [17400] [] 0 (sy x) e e (.cons (.share e (shareW _ e)) (.d1 (.cons (.sl e) .nil))) e (.inl e) e e))) e (.q e (.q e (.a e e (.E e e (.t (Gh.frz (f:=encPair) (g:=encPair) (xs:=([]:List Pair)) 5096 (λ_=>e) e) (.ro [0,1,2] [5096] [] [5096] [0] []))) (.c0 e i q λ_ _=>.a e e (.E e e (.t (Gh.frz (f:=encPair) (g:=encPair) (xs:=([]:List Pair)) 5096 (λ_=>e) e) (.ro [0,1,2] [5096] [] [5096] [0] []))) (.E e e (.ro [0,1,2] [] [] [] [0] []))))))) (.jk e [1,5,9,10,12,14] [1000,5096,17400,29704] (λl=>[.f 14 (VI l)]) (λ_=>e) (λ_=>.K2 e [1,5,9,10,12,14,15] [1000,5096,17400,29704] (λm o=>[.f 14 (VI m),.f 15 (VI o)]) (λ_ _=>e) λ_ m o _ y=>.q e (.a e e (.jk e [1,5,9,10,12,14,15] [0,1,2,3] (λp=>[.f 14 (VI p)]) (λ_=>e) (λ_=>.B λ_ s=>.st e (Ev.iaW e e e s) e (.st e (Ev.ldE (f:=encTl15State) e e (at_some s).2 e e e) e (.dn e (.a e e (.J e (.k [1,5,9,10,12,14,15] [0,1,2,3])) (.J e (.k [1,5,9,10,12,14,15] [0,1,2,3])))))) λp=>.R e (λh=>⟨_,_,h,e,e⟩) (.k [1,5,9,10,12,14,15] [0,1,2,3])) (.X y e e (.n e (.J e (.k [1,5,9,10,12,14] [0,1,2,3])))))) λl=>.q e (.a e e (.E e e (.t (Gh.frz (f:=encPair) (g:=encPair) (xs:=b) 3 (λ_=>e) e) (.ro [0,1,2] [3] [] [3] [0] []))) (.B λ_ u=>.st e (Ev.iaW e e e u) e (.st e (Ev.ldE (f:=encTl15State) e e (at_some u).2 e e e) e (.q e (.a e e (.E e e (.t (Gh.frz (f:=encPair) (g:=encPair) (xs:=b) 3 (λ_=>e) e) (.ro [0,1,2] [3] [] [3] [0] []))) (.q e (.a e e (.dn e (.E e e (.t (Gh.frz (f:=encPair) (g:=encPair) (xs:=b) 3 (λ_=>e) e) (.ro [0,1,2] [3] [] [3] [0] [])))) (.q e (.a e e (.E e e (.t (Gh.frz (f:=encPair) (g:=encPair) (xs:=b) 3 (λ_=>e) e) (.ro [0,1,2] [3] [] [3] [0] []))) (.f [3] [] 1 e i q λ_ _=>.c0 e i q λ_ _=>.c0 e i q λ_ _=>.f (hp:=(.cons (.borrow e (by decide) lw) (.d2 .nil))) (hcase:=λ_=>(.inr ⟨rfl,ownL_root ⟨own_rows (λ_=>e) _,trivial⟩⟩)) [] [119816] 1 e i q λv _=>.dn e (.q e (.f (hp:=(.cons (.borrow e (by decide) lw) .nil)) (hcase:=λ_=>(.inr ⟨rfl,ownL_root trivial⟩)) [] [136264] 0 e i q λ_ _=>.a e e (.E e e (.t (Gh.frz (f:=encPair) (g:=encPair) (xs:=([]:List Pair)) 1 (λ_=>e) e) (.ro [0,1,2] [1] [] [1] [0] []))) (.E e e (.t (Gh.frz (f:=encPair) (g:=encPair) (xs:=v) 136264 (λ_=>e) e) (.ro [0,1,2] [136264] [] [136264] [0] [])))))))))))))))))))))))))))
def s_l17Acted (N:Nat)(a:List Pair)(f:Int)(c:Entry):Option ((List Pair)×BA):=
 (s_ReadCommand N c.Data).bind λd=>
 (if(c.Kind !=3)then
 some (a,(⟨#[]⟩:BA))
 else
 (if(!d.2)then
 some (a,(⟨#[]⟩:BA))
 else
 (s_Act N a f d.1).bind λb=>
 (if(!b.2.2)then
 some (a,(⟨#[]⟩:BA))
 else
 some (b.1,b.2.1))))
instance i151 (N:Nat)(c:List Pair)(d:Int)(b:Entry):JG 181 (s_l17Acted N c d b) [RO 89 (c.map encPair),VI d,.agg [VI b.Term,VI b.Kind,VS b.Data]] 0 [] (λr=>.tup [RO 89 (r.1.map encPair),VS r.2]) (λr=>[]):=.st e e Tryz.call181 λB r=>.c0 e i q λ_ _=>.q e (.q e (.a e e (.Ek [] e e e) (.a e e (.Ek [] e e e) (.c0 e i q λ_ _=>.q e (.a e e (.Ek [] e e e) (.Ek [] e e e))))))
def s_MapBetween_l1 (N:Nat)(c:List Pair)(a:List Pair):Nat->Int->Int->(List Change)->Option ((List Change))
 |0,_,_,_=>none
 |m+1,d,b,f=>
 joinP (λ(a7:Unit)=>
 joinP (λ(a8:Unit)=>
 (if(d==(c.length:Int))then
 (at? a b).bind λn=>
 (at? a b).bind λo=>
 (cat? f ([(Change.mk n.Key o.Value false)]:List Change)).bind λp=>
 s_MapBetween_l1 N c a m d (w64 (b+1)) p
 else
 (at? c d).bind λg=>
 (at? a b).bind λh=>
 (if(!(Op.bytesLess g.Key.toList h.Key.toList||decide (g.Key=h.Key)))then
 (at? a b).bind λs=>
 (at? a b).bind λt=>
 (cat? f ([(Change.mk s.Key t.Value false)]:List Change)).bind λu=>
 s_MapBetween_l1 N c a m d (w64 (b+1)) u
 else
 joinP (λ(w:List Change)=>
 s_MapBetween_l1 N c a m (w64 (d+1)) (w64 (b+1)) w) λj=>
 (at? c d).bind λx=>
 (at? a b).bind λy=>
 (if(!decide (x.Value=y.Value))then
 (at? a b).bind λv=>
 (at? a b).bind λz=>
 (cat? f ([(Change.mk v.Key z.Value false)]:List Change)).bind λa0=>
 j a0
 else
 j f)))) λk=>
 (if(b==(a.length:Int))then
 (at? c d).bind λa1=>
 (cat? f ([(Change.mk a1.Key (⟨#[]⟩:BA) true)]:List Change)).bind λa2=>
 s_MapBetween_l1 N c a m (w64 (d+1)) b a2
 else
 (if decide (d<(c.length:Int))then
 (at? c d).bind λa3=>
 (at? a b).bind λa4=>
 (if(Op.bytesLess a3.Key.toList a4.Key.toList)then
 (at? c d).bind λa5=>
 (cat? f ([(Change.mk a5.Key (⟨#[]⟩:BA) true)]:List Change)).bind λa6=>
 s_MapBetween_l1 N c a m (w64 (d+1)) b a6
 else
 k ())
 else
 k ()))) λl=>
 (if decide (d<(c.length:Int))then
 l ()
 else
 (if decide (b<(a.length:Int))then
 l ()
 else
 some f))
def s_MapBetween (N:Nat)(a:List Pair)(b:List Pair):Option ((List Change)×Bool):=
 (s_MapOk N a).bind λd=>
 (if(!d)then
 some (([]:List Change),false)
 else
 (s_MapOk N b).bind λf=>
 (if(!f)then
 some (([]:List Change),false)
 else
 joinP (λ(c:List Change)=>
 (if decide ((c.length:Int)>60)then
 some (([]:List Change),false)
 else
 some (c,true))) λg=>
 (s_MapBetween_l1 N a b N 0 0 ([]:List Change)).bind (λh=>g h)))
instance i153 (N:Nat)(g:List Pair)(l:List Pair):JG 182 (s_MapBetween N g l) [RO 89 (g.map encPair),RO 89 (l.map encPair)] 0 [] (λr=>.tup [.sl 0 262 0 r.1.length,VB r.2]) (λr=>[(0,.vec 262 (r.1.map encChange))]):=.st e e Tryz.call182 λB r=>.st e (Ev.bsW (ys:=([]:List Change)) (f:=encChange) e .nil e e e e e) e (.q e (.q e (.c0 e i q λ_ _=>.a e e (.Ek [5096] e e e) (.c0 e i q λ_ _=>.a e e (.Ek [5096] e e e) (.j e (λb=>[(6,.sl 0 262 0 b.length)]) (λb=>[(0,.vec 262 (b.map encChange))]) (λ_=>.K3 e [0,1,6,7,8] [5096] (λm o c=>[.f 6 (.sl 0 262 0 c.length),.f 7 (VI m),.f 8 (VI o),.r 0 (.vec 262 (c.map encChange))]) (λ_ _ _=>e) λ_ m o c _ p=>.jk e [0,1,6,7,8] [0] (λ_=>[]) (λ_=>e) (λ_=>.q e (.st e (Ev.lnF e) e (.a e e (.J e (.k [0,1,6,7,8] [0])) (.st e (Ev.lnF e) e (.a e e (.J e (.k [0,1,6,7,8] [0])) (.X p e e (.n e (.J e (.k [6] [0]))))))))) λ_=>.jk e [0,1,6,7,8] [0] (λ_=>[]) (λ_=>e) (λ_=>.q e (.st e (Ev.lnF e) e (.a e e (.dn e (.B λs t=>.st e (Ev.iaF e e t) e (.st e (Ev.bsW (ys:=([(Change.mk s.Key (⟨#[]⟩:BA) true)]:List Change)) (f:=encChange) e (.d2 (.d1 .nil)) e e e e e) e (.B λ_ u=>.st e (Ev.apW (f:=encChange) (ontoW e e e) (addsW e e e (λ_=>e)) e bt262 e u) e (.R e (λh=>⟨_,_,_,h,e,e⟩) (.k [0,1,6,7,8] [33896])))))) (.st e (Ev.lnF e) e (.a e e (.B λ_ w=>.st e (Ev.iaF e e w) e (.B λ_ x=>.st e (Ev.iaF e e x) e (.dn e (.a e e (.B λy v=>.st e (Ev.iaF e e v) e (.st e (Ev.bsW (ys:=([(Change.mk y.Key (⟨#[]⟩:BA) true)]:List Change)) (f:=encChange) e (.d2 (.d1 .nil)) e e e e e) e (.B λ_ z=>.st e (Ev.apW (f:=encChange) (ontoW e e e) (addsW e e e (λ_=>e)) e bt262 e z) e (.R e (λh=>⟨_,_,_,h,e,e⟩) (.k [0,1,6,7,8] [33896]))))) (.J e (.k [0,1,6,7,8] [0])))))) (.dn e (.J e (.k [0,1,6,7,8] [0])))))))) λ_=>.q e (.q e (.st e (Ev.lnF e) e (.a e e (.dn e (.B λa0 a1=>.st e (Ev.iaF e e a1) e (.B λa2 a3=>.st e (Ev.iaF e e a3) e (.st e (Ev.bsW (ys:=([(Change.mk a0.Key a2.Value false)]:List Change)) (f:=encChange) e (.d2 (.d1 .nil)) e e e e e) e (.B λ_ a4=>.st e (Ev.apW (f:=encChange) (ontoW e e e) (addsW e e e (λ_=>e)) e bt262 e a4) e (.dn e (.R e (λh=>⟨_,_,_,h,e,e⟩) (.k [0,1,6,7,8] [46264])))))))) (.B λ_ a5=>.st e (Ev.iaF e e a5) e (.B λ_ a6=>.st e (Ev.iaF e e a6) e (.dn e (.a e e (.B λa7 a8=>.st e (Ev.iaF e e a8) e (.B λa9 b0=>.st e (Ev.iaF e e b0) e (.st e (Ev.bsW (ys:=([(Change.mk a7.Key a9.Value false)]:List Change)) (f:=encChange) e (.d2 (.d1 .nil)) e e e e e) e (.B λ_ b1=>.st e (Ev.apW (f:=encChange) (ontoW e e e) (addsW e e e (λ_=>e)) e bt262 e b1) e (.dn e (.R e (λh=>⟨_,_,_,h,e,e⟩) (.k [0,1,6,7,8] [46264]))))))) (.jk e [0,1,6,7,8] [0] (λd=>[.f 6 (.sl 0 262 0 d.length),.r 0 (.vec 262 (d.map encChange))]) (λ_=>e) (λ_=>.B λ_ b2=>.st e (Ev.iaF e e b2) e (.B λ_ b3=>.st e (Ev.iaF e e b3) e (.dn e (.a e e (.B λb4 b5=>.st e (Ev.iaF e e b5) e (.B λb6 b7=>.st e (Ev.iaF e e b7) e (.st e (Ev.bsW (ys:=([(Change.mk b4.Key b6.Value false)]:List Change)) (f:=encChange) e (.d2 (.d1 .nil)) e e e e e) e (.B λ_ b8=>.st e (Ev.apW (f:=encChange) (ontoW e e e) (addsW e e e (λ_=>e)) e bt262 e b8) e (.dn e (.J e (.k [0,1,6,7,8] [58552]))))))) (.J e (.k [0,1,6,7,8] [0])))))) λd=>.R e (λh=>⟨_,_,_,h,e,e⟩) (.k [0,1,6,7,8] [0])))))))))) λb=>.q e (.a e e (.st e (Ev.bsW (ys:=([]:List Change)) (f:=encChange) e .nil e e e e e) e (.Ek [74728] e e e)) (.Ek [0] e e e)))))))
def s_l09CopyMan (N:Nat)(a:Manifest):Option (Manifest):=
 (cat? ([]:List Int) a.Segs).bind λb=>
 (cat? ([]:List Int) a.Conf).bind λc=>
 some ({ a with Segs:=b,Conf:=c })
instance i154 (N:Nat)(a:Manifest):JG 185 (s_l09CopyMan N a) [.agg (cManifest0 a [])] 0 [] (λr=>.agg (cManifest1 r 0 1 [])) (λr=>(rManifest0 r 0 1 [])):=.st e e Tryz.call185 λB r=>.st e (Ev.bsW (ys:=([]:List Int)) (f:=encI) e .nil e e e e e) e (.B λ_ b=>.st e (Ev.apW (f:=encI) (ontoW e e e) (addsF e) e bt3 e b) e (.st e (Ev.bsW (ys:=([]:List Int)) (f:=encI) e .nil e e e e e) e (.B λ_ c=>.st e (Ev.apW (f:=encI) (ontoW e e e) (addsF e) e bt3 e c) e (.Ek [5144,9240] e e e))))
def s_AddBatch (N:Nat)(f:Disk)(g:Shelf)(h:Batch):Option (Shelf×(List Raw)×Bool):=
 (s_BatchText N h).bind λj=>
 (if(!j.2)then
 some ((Shelf.mk (Manifest.mk ([]) 0 0 0 ([])) ([]) 0),([]:List Raw),false)
 else
 (s_l09Clean N f g).bind λm=>
 (if(!m)then
 some ((Shelf.mk (Manifest.mk ([]) 0 0 0 ([])) ([]) 0),([]:List Raw),false)
 else
 (if decide (h.Stamp<g.Stamp)then
 some ((Shelf.mk (Manifest.mk ([]) 0 0 0 ([])) ([]) 0),([]:List Raw),false)
 else
 (s_Frame N j.1).bind λb=>
 (s_l09CopyMan N g.Man).bind λa=>
 (at? a.Segs (w64 ((a.Segs.length:Int)-1))).bind λn=>
 (s_SegName N n).bind λc=>
 joinP (λ(k:List Raw)=>
 (s_l09After N f k).bind λl=>
 (if(!l.2)then
 some ((Shelf.mk (Manifest.mk ([]) 0 0 0 ([])) ([]) 0),([]:List Raw),false)
 else
 some (l.1,k,true))) λd=>
 (s_l03Text N f c).bind λo=>
 (if decide ((o.size:Int)>=500)then
 (if decide ((a.Segs.length:Int)<8)then
 (if decide (a.Next<=999)then
 (s_SegName N a.Next).bind λp=>
 (cat? a.Segs ([a.Next]:List Int)).bind λs=>
 (s_l09NewMan N ({ a with Segs:=s,Next:=w64 (a.Next+1) })).bind λt=>
 (cat? ([(Raw.mk 1 p (⟨#[]⟩:BA) b.1)]:List Raw) t.1).bind λu=>
 d u
 else
 d ([(Raw.mk 2 c (⟨#[]⟩:BA) b.1)]:List Raw))
 else
 d ([(Raw.mk 2 c (⟨#[]⟩:BA) b.1)]:List Raw))
 else
 d ([(Raw.mk 2 c (⟨#[]⟩:BA) b.1)]:List Raw)))))
instance i155 (N:Nat)(d:Disk)(g:Shelf)(b:Batch):JG 183 (s_AddBatch N d g b) [.agg [RO 93 (d.Files.map encFile)],.agg (cShelf1 g []),.agg [VI b.Stamp,RO 262 (b.Changes.map encChange)]] 0 [] (λr=>.tup [.agg (cShelf0 r.1 0 1 2 []),.sl 3 79 0 r.2.1.length,VB r.2.2]) (λr=>(rShelf0 r.1 0 1 2 [(3,.vec 79 (r.2.1.map encRaw))])):=.st e e Tryz.call183 λB r=>.c0 e i q λ_ _=>.q e (.q e (.a e e (.st e (Ev.bsW (ys:=([]:List Raw)) (f:=encRaw) e .nil e e e e e) e (.E e e (.n [0,1,2] [13304] [0] [] [10000000,10000001,10000002,13304]))) (.c0 e i q λ_ _=>.a e e (.st e (Ev.bsW (ys:=([]:List Raw)) (f:=encRaw) e .nil e e e e e) e (.E e e (.n [0,1,2] [13304] [0] [] [10000000,10000001,10000002,13304]))) (.a e e (.st e (Ev.bsW (ys:=([]:List Raw)) (f:=encRaw) e .nil e e e e e) e (.E e e (.n [0,1,2] [13304] [0] [] [10000000,10000001,10000002,13304]))) (.c0 e i q λh _=>.f [] [] 2 e i q λl _=>.B λ_ j=>.st e (Ev.iaW e e e j) e (.st e (Ev.ldE (f:=encI) e e (at_some j).2 e e e) e (.c0 e i q λm _=>.st e (Ev.bsW (ys:=([(Raw.mk 2 m (⟨#[]⟩:BA) h.1)]:List Raw)) (f:=encRaw) e (.d4 .nil) e e e e e) e (.jk e [3,6,15] [1000,1048,29720] (λc=>[.f 15 (.sl 2 79 0 c.length),.r 2 (.vec 79 (c.map encRaw))]) (λ_=>e) (λ_=>.q e (.c0 e i q λ_ _=>.a e e (.a e e (.a e e (.c0 e i q λo _=>.st e (Ev.bsW (ys:=([(Raw.mk 1 o (⟨#[]⟩:BA) h.1)]:List Raw)) (f:=encRaw) e (.d4 .nil) e e e e e) e (.st e (Ev.bsW (ys:=([l.Next]:List Int)) (f:=encI) e (.d1 .nil) e e e e e) e (.B λ_ p=>.st e (Ev.apW (f:=encI) (ontoW e e e) (addsW e e e (λ_=>e)) e bt3 e p) e (.f (hp:=(.cons (.agg (.cons (.borrow e (by decide) lw) (.d2 (.d1 (.cons (.borrow e (by decide) lw) .nil))))) .nil)) (hcase:=λ_=>(.inr ⟨rfl,ownL_root ⟨own_rows (λ_=>e) _,trivial⟩⟩)) [] [42040,21513] 1 e i q λ_ _=>.B λ_ s=>.st e (Ev.apW (f:=encRaw) (ontoW e e e) (addsW e e e (λ_=>e)) e bt79 e s) e (.J e (.k [3,6,15] [1000,1048,54280])))))) (.J e (.k [3,6,15] [1000,1048,29720]))) (.J e (.k [3,6,15] [1000,1048,29720]))) (.J e (.k [3,6,15] [1000,1048,29720])))) λc=>.f (hp:=(.cons (.agg (.d1 .nil)) (.cons (.borrow e (by decide) lw) .nil))) (hcase:=λ_=>(.inr ⟨rfl,ownL_root ⟨own_rows (λ_=>e) _,own_rows (λ_=>e) _,own_rows (λ_=>e) _,trivial⟩⟩)) [] [2] 3 e i q λ_ _=>.q e (.a e e (.st e (Ev.bsW (ys:=([]:List Raw)) (f:=encRaw) e .nil e e e e e) e (.E e e (.n [0,1,2] [66552] [0] [] [10000000,10000001,10000002,66552]))) (.Ek [58376,58377,58378,2] e e e))))))))))
def s_l17Apply_l1 (N:Nat):Nat->Int->Tl17Run->Option ((Tl17Run)⊕(Tl17Run))
 |0,_,_=>none
 |m+1,g,a=>
 (if decide (g<6)then
 (if(!a.bad)then
 (if decide (a.s.Shelf.Stamp<a.s.Node.Commit)then
 (s_EntryAt N a.s.Node.Log (w64 (a.s.Shelf.Stamp+1))).bind λh=>
 (s_ShelfMap N a.s.Disk a.s.Shelf).bind λd=>
 (s_l17Acted N d.1 (w64 (a.s.Shelf.Stamp+1)) h.1).bind λj=>
 (s_MapBetween N d.1 j.1).bind λk=>
 (s_AddBatch N a.s.Disk a.s.Shelf (Batch.mk (w64 (a.s.Shelf.Stamp+1)) k.1)).bind λc=>
 joinP (λ(b:Tl17Run)=>
 (if b.bad then
 some (Sum.inl b)
 else
 (cat? b.done ([(Done.mk (w64 (a.s.Shelf.Stamp+1)) h.1 j.2)]:List Done)).bind λl=>
 s_l17Apply_l1 N m (w64 (g+1)) ({ b with s:=(Server.mk b.s.Node b.s.Disk c.1 b.s.Stage b.s.StageAt b.s.StageTerm),done:=l }))) λf=>
 (if d.2 then
 (if k.2 then
 (s_l17Write_i1 N a c.2.1 c.2.2).bind λn=>
 f n
 else
 (s_l17Write_i1 N a c.2.1 false).bind λo=>
 f o)
 else
 (s_l17Write_i1 N a c.2.1 false).bind λp=>
 f p)
 else
 some (Sum.inr a))
 else
 some (Sum.inr a))
 else
 some (Sum.inr a))
def s_l17Apply (N:Nat)(a:Tl17Run):Option (Tl17Run):=
 (s_l17Apply_l1 N N 0 a).bind (Sum.elim (λb=>some b) (λ(c:Tl17Run)=>some c))
instance i156 (N:Nat)(c:Tl17Run):JG 89 (s_l17Apply N c) [.ptr 0 0] 4 [(0,.box (cTl17Run0 c 1 2 3 [])),(1,.vec 79 (c.raws.map encRaw)),(2,.vec 42 (c.told.map (encMessage false))),(3,.vec 253 (c.done.map encDone))] (λr=>.tup []) (λr=>[(0,.box (cTl17Run0 r 4 5 6 [])),(1,.gone),(2,.gone),(3,.gone),(4,.vec 79 (r.raws.map encRaw)),(5,.vec 42 (r.told.map (encMessage false))),(6,.vec 253 (r.done.map encDone))]):=.st e e Tryz.call89 λB r=>.L2 e (λl b=>[(0,.ptr 0 0),(2,VI l)]) (λl b=>[(0,.box (cTl17Run0 b 4 5 6 [])),(1,.gone),(2,.gone),(3,.gone),(4,.vec 79 (b.raws.map encRaw)),(5,.vec 42 (b.told.map (encMessage false))),(6,.vec 253 (b.done.map encDone))]) (.g λhB=>(Gh.trans (Gh.trans (Gh.trans (gh_prn [0,2] [0,1,2,3] hB e) (gh_ro [0,2] [0] [] [] e)) (gh_mvE [0,2] [1,2,3] hB e e)) (gh_pk [0,2] [0,1,2,3,30000001,30000002,30000003] hB e e (by first|rfl|(simp only[List.length_set,takeMap,List.drop_zero,List.map_nil];done)|(simp only[List.length_set,takeMap,List.drop_zero,List.map_nil];rfl)) (by first|rfl|(simp only[List.length_set,takeMap,List.drop_zero,List.map_nil];done)|(simp only[List.length_set,takeMap,List.drop_zero,List.map_nil];rfl))))) λ_ l b _ j=>.q e (.q e (.a e e (.a e e (.dn e (.a e e (.q e (.c0 e i q λo _=>.c1 e i q λp _=>.dn e (.B λu w=>.stz e (EvZ.frz (f:=encPair) (g:=encPair) (xs:=p.1) 21640 (λ_=>e) e (.mk (Ev.call [] [] 0 (sy w) e e (.cons (.share e (shareW _ e)) (.d1 (.cons (.agg (.d2 (.d1 .nil))) .nil))) e (.inl e) e e))) e (.c1 (hp:=(.cons (.share e (shareW _ e)) (.d1 .nil))) e i q λ_ _=>.f (hp:=(.cons (.agg (.d1 .nil)) (.cons (.agg (.d4 (.d2 (.d1 .nil)))) (.cons (.agg (.d1 (.cons (.borrow e (by decide) lw) .nil))) .nil)))) (hcase:=λ_=>(.inr ⟨rfl,ownL_root ⟨own_rows (λ_=>e) _,own_rows (λ_=>e) _,own_rows (λ_=>e) _,own_rows (λ_=>e) _,trivial⟩⟩)) [] [29704] 4 e i q λm _=>.dn e (.jk e [0,2,3,4,9,12] [0,1,2,3,17560,34056,4,5,6,33976,33977,33978] (λd=>[.r 0 (.box (cTl17Run0 d 6 7 8 [])),.r 6 (.vec 79 (d.raws.map encRaw)),.r 7 (.vec 42 (d.told.map (encMessage false))),.r 8 (.vec 253 (d.done.map encDone))]) (λ_=>e) (λ_=>.a e e (.a e e (.f [0,33979,4,5,6] [] 3 e i q λ_ _=>.J e (.k [0,2,3,4,9,12] [0,1,2,3,17560,34056,38008,38009,38010,33976,33977,33978])) (.f [0,33979,4,5,6] [] 3 e i q λ_ _=>.J e (.k [0,2,3,4,9,12] [0,1,2,3,17560,34056,38008,38009,38010,33976,33977,33978]))) (.f [0,33979,4,5,6] [] 3 e i q λ_ _=>.J e (.k [0,2,3,4,9,12] [0,1,2,3,17560,34056,38008,38009,38010,33976,33977,33978]))) λd=>.q e (.a e e (.Xr j e e (.il (.e e (.Ek [0,1,2,3,6,7,8] e e e)))) (.st e (Ev.bsW (ys:=([(Done.mk (w64 (b.s.Shelf.Stamp+1)) o.1 u.2)]:List Done)) (f:=encDone) e (.d4 (.d1 .nil)) e e e e e) e (.B λ_ x=>.st e (Ev.apW (f:=encDone) (ontoW e e e) (addsW e e e (λ_=>e)) e bt253 e x) e (.dn e (.R e (λh=>⟨_,_,h,e,e⟩) (.t (Gh.frz (f:=encI) (g:=encI) (xs:=m.1.Man.Segs) 9 (λ_=>e) e) (.t (Gh.frz (f:=encI) (g:=encI) (xs:=m.1.Man.Conf) 10 (λ_=>e) e) (.t (Gh.frz (f:=encSpot) (g:=encSpot) (xs:=m.1.Dir) 11 (λ_=>e) e) (.ro [0,2] [0,1,2,3,9,10,11,6,7,50312] [0] [9,10,11] [] [0,1,2,3,6,7,50312])))))))))))))) (.X j e e (.ir (.n e (.Ek [0,1,2,3,4,5,6] e e e)))))) (.dn e (.X j e e (.ir (.n e (.Ek [0,1,2,3,4,5,6] e e e)))))) (.dn e (.X j e e (.ir (.n e (.Ek [0,1,2,3,4,5,6] e e e)))))))
def s_l17Copy (N:Nat)(a:Server):Option (Server):=
 (s_l16Copy N a.Node).bind λb=>
 (cat? ([]:List File) a.Disk.Files).bind λc=>
 (s_l09CopyMan N a.Shelf.Man).bind λd=>
 (cat? ([]:List Spot) a.Shelf.Dir).bind λf=>
 some ({ a with Node:=b,Disk:=(Disk.mk c),Shelf:=(Shelf.mk d f a.Shelf.Stamp) })
instance i157 (N:Nat)(a:Server):JG 91 (s_l17Copy N a) [.agg (cServer1 a [])] 0 [] (λr=>.agg (cServer0 r 0 1 2 3 4 5 6 7 [])) (λr=>(rServer0 r 0 1 2 3 4 5 6 7 [])):=.st e e Tryz.call91 λB r=>.f [] [] 4 e i q λ_ _=>.st e (Ev.bsW (ys:=([]:List File)) (f:=encFile) e .nil e e e e e) e (.B λ_ b=>.st e (Ev.apW (f:=encFile) (ontoW e e e) (addsF e) e bt93 e b) e (.f [] [] 2 e i q λ_ _=>.st e (Ev.bsW (ys:=([]:List Spot)) (f:=encSpot) e .nil e e e e e) e (.B λ_ c=>.st e (Ev.apW (f:=encSpot) (ontoW e e e) (addsF e) e bt85 e c) e (.dn e (.Ek [5128,5129,5130,5131,9256,13336,13337,13416] e e e)))))
def s_l17Told_i1_l1 (N:Nat)(a:List Message):Nat->Int->(List Message)->Option ((List Message))
 |0,_,_=>none
 |m+1,b,d=>
 (if decide (b<(a.length:Int))then
 (at? a b).bind λc=>
 (cat? ([]:List Entry) c.Entries).bind λf=>
 (cat? ([]:List Int) c.Conf).bind λg=>
 (cat? d ([({ c with Entries:=f,Conf:=g })]:List Message)).bind λh=>
 s_l17Told_i1_l1 N a m (w64 (b+1)) h
 else
 some d)
def s_l17Told_i1 (N:Nat)(a:List Message):Option ((List Message)):=
 joinP (λ(b:List Message)=>
 some b) λc=>
 (s_l17Told_i1_l1 N a N 0 ([]:List Message)).bind (λd=>c d)
instance i159 (N:Nat)(b:List Message):JG 92 (s_l17Told_i1 N b) [.sl 0 42 0 b.length] 1 [(0,.vec 42 (b.map (encMessage false)))] (λr=>.sl 1 42 0 r.length) (λr=>[(0,.vec 42 (b.map (encMessage false))),(1,.vec 42 (r.map (encMessage false)))]):=.st e e Tryz.call92 λB r=>.st e (Ev.bsW (ys:=([]:List Message)) (f:=(encMessage false)) e .nil e e e e e) e (.jk e [3] [0,5096] (λc=>[.f 3 (.sl 1 42 0 c.length),.r 1 (.vec 42 (c.map (encMessage false)))]) (λ_=>e) (λ_=>.K2 e [0,3,4] [0,5096] (λj d=>[.f 3 (.sl 1 42 0 d.length),.f 4 (VI j),.r 1 (.vec 42 (d.map (encMessage false)))]) (λ_ _=>e) λ_ j d _ p=>.q e (.a e e (.B λs l=>.st e (Ev.iaW e e e l) e (.st e (Ev.ldE (f:=(encMessage false)) e e (at_some l).2 e e e) e (.st e (Ev.bsW (ys:=([]:List Entry)) (f:=encEntry) e .nil e e e e e) e (.B λm t=>.st e (Ev.apW (f:=encEntry) (ontoW e e e) (addsF e) e bt91 e t) e (.st e (Ev.bsW (ys:=([]:List Int)) (f:=encI) e .nil e e e e e) e (.B λo u=>.st e (Ev.apW (f:=encI) (ontoW e e e) (addsF e) e bt3 e u) e (.stz e (EvZ.frz (f:=encEntry) (g:=encEntry) (xs:=m) 25624 (λ_=>e) e (EvZ.frz (f:=encI) (g:=encI) (xs:=o) 29720 (λ_=>e) e (.mk (Ev.bsW (ys:=([({ s with Entries:=m,Conf:=o })]:List Message)) (f:=(encMessage false)) e (.d4 (.d4 (.cons (.ro e (shareW _ e)) (.cons (.ro e (shareW _ e)) (.d2 .nil))))) e e e e e)))) e (.B λ_ w=>.st e (Ev.apW (f:=(encMessage false)) (ontoW e e e) (addsW e e e (λ_=>e)) e bt42 e w) e (.R e (λh=>⟨_,_,h,e,e⟩) (.k [0,3,4] [0,33816])))))))))) (.X p e e (.n e (.J e (.k [3] [0,1])))))) λc=>.Ek [0,1] e e e)
def s_Serve (N:Nat)(b:Server)(a:Input):Option (Server×(List Raw)×(List Message)×(List Done)×Int×Bool):=
 joinP (λ(p:Bool)=>
 (s_l16Copy N b.Node).bind λt=>
 joinP (λ(c:Int×Tl17Run)=>
 (if c.2.bad then
 some ((Server.mk (Node.mk 0 0 0 0 0 ([]) (Log.mk 0 0 ([])) 0 0 0 ([]) ([])) (Disk.mk ([])) (Shelf.mk (Manifest.mk ([]) 0 0 0 ([])) ([]) 0) (⟨#[]⟩:BA) 0 0),([]:List Raw),([]:List Message),([]:List Done),0,false)
 else
 (if decide ((c.2.raws.length:Int)>60)then
 some ((Server.mk (Node.mk 0 0 0 0 0 ([]) (Log.mk 0 0 ([])) 0 0 0 ([]) ([])) (Disk.mk ([])) (Shelf.mk (Manifest.mk ([]) 0 0 0 ([])) ([]) 0) (⟨#[]⟩:BA) 0 0),([]:List Raw),([]:List Message),([]:List Done),0,false)
 else
 (s_l17Copy N c.2.s).bind λx=>
 (cat? ([]:List Raw) c.2.raws).bind λy=>
 (s_l17Told_i1 N c.2.told).bind λv=>
 (cat? ([]:List Done) c.2.done).bind λz=>
 some (x,y,v,z,c.1,true)))) λk=>
 (if(!p)then
 joinP (λ(d:Int×Bool×Node×(List Message))=>
 (s_l17Vote N (Tl17Run.mk ({ b with Node:=d.2.2.1 }) ([]) d.2.2.2 ([]) (!d.2.1)) b.Node).bind λa0=>
 (s_l17Log N a0 b.Node.Log d.2.2.1.Log).bind λf=>
 joinP (λ(u:Tl17Run)=>
 (if(a.Kind==4)then
 (s_l17Merge N u).bind λl=>
 (s_l17Ship N l).bind λa1=>
 k (d.1,({ a1 with raws:=l.raws,done:=l.done }))
 else
 (s_l17Apply N u).bind λm=>
 (s_l17Ship N m).bind λa2=>
 k (d.1,({ a2 with raws:=m.raws,done:=m.done })))) λg=>
 (if(!f.bad)then
 (if(a.Kind==2)then
 (if(a.Message.Kind==5)then
 (s_l17Staged N f a.Message).bind λa3=>
 g a3
 else
 g f)
 else
 g f)
 else
 g f)) λh=>
 (if(a.Kind==1)then
 (s_Tick N b.Node a.Limit).bind λn=>
 h (0,n.2.2,n.1,n.2.1)
 else
 (if(a.Kind==2)then
 (s_Receive N b.Node a.Message).bind λo=>
 h (0,o.2.2,o.1,o.2.1)
 else
 (if(a.Kind==3)then
 (s_Propose N b.Node a.Entry a.Data).bind λj=>
 h (j.2.2.1,j.2.2.2,j.1,j.2.1)
 else
 h (0,true,t,([]:List Message)))))
 else
 k (0,(Tl17Run.mk ({ b with Node:=t }) ([]) ([]) ([]) p)))) λw=>
 (s_ServerOk N b).bind λa4=>
 (if(!a4)then
 w true
 else
 (s_l01In N a.Kind 1 4).bind λa5=>
 w (!a5))
instance i160 (N:Nat)(c:Server)(s:Input):JG 32 (s_Serve N c s) [.agg (cServer1 c []),.agg (cInput1 s [])] 0 [] (λr=>.tup [.agg (cServer0 r.1 0 1 2 3 4 5 6 7 []),.sl 8 79 0 r.2.1.length,.sl 9 42 0 r.2.2.1.length,.sl 10 253 0 r.2.2.2.1.length,VI r.2.2.2.2.1,VB r.2.2.2.2.2]) (λr=>(rServer0 r.1 0 1 2 3 4 5 6 7 [(8,.vec 79 (r.2.1.map encRaw)),(9,.vec 42 (r.2.2.1.map (encMessage false))),(10,.vec 253 (r.2.2.2.1.map encDone))])):=.st e e Tryz.call32 λB r=>.jk e [2,3,4,10] [1000,1016,1032,900003,900004,900005,900006] (λt=>[.f 10 (.ptr 3 0),.r 3 (.box (cServer1 c [.sl 4 79 0 (([]:List Raw).length),.sl 5 42 0 (([]:List Message).length),.sl 6 253 0 (([]:List Done).length),VB t])),.r 4 (.vec 79 (([]:List Raw).map encRaw)),.r 5 (.vec 42 (([]:List Message).map (encMessage false))),.r 6 (.vec 253 (([]:List Done).map encDone))]) (λ_=>e) (λ_=>.c0 e i q λ_ _=>.a e e (.dn e (.J e (.n [2,3,4,10] [1000,1016,1032,5272] [] [5272] [1000,1016,1032,5272,20000000,20000001,20000002]))) (.c0 e i q λ_ _=>.dn e (.J e (.n [2,3,4,10] [1000,1016,1032,5272] [] [5272] [1000,1016,1032,5272,20000000,20000001,20000002])))) λt=>.f [] [] 4 e i q λb _=>.j e (λd=>[(4,.ptr 0 0),(10,.ptr 1 0),(11,VI d.1)]) (λd=>[(0,.box [VI 0,VI 0,VI 0,VI 0,VI 0,.sl 2 3 0 (([]:List Int).length),VI 0,VI 0,.sl 3 91 0 (([]:List Entry).length),VI 0,VI 0,VI 0,.sl 4 3 0 (([]:List Int).length),.sl 5 195 0 (([]:List Peer).length),.sl 6 93 0 (([]:List File).length),.sl 7 3 0 (([]:List Int).length),VI 0,VI 0,VI 0,.sl 8 3 0 (([]:List Int).length),.sl 9 85 0 (([]:List Spot).length),VI 0,VS (⟨#[]⟩:BA),VI 0,VI 0]),(1,.box (cTl17Run0 d.2 10 11 12 [])),(2,.vec 3 (([]:List Int).map encI)),(3,.vec 91 (([]:List Entry).map encEntry)),(4,.vec 3 (([]:List Int).map encI)),(5,.vec 195 (([]:List Peer).map encPeer)),(6,.vec 93 (([]:List File).map encFile)),(7,.vec 3 (([]:List Int).map encI)),(8,.vec 3 (([]:List Int).map encI)),(9,.vec 85 (([]:List Spot).map encSpot)),(10,.vec 79 (d.2.raws.map encRaw)),(11,.vec 42 (d.2.told.map (encMessage false))),(12,.vec 253 (d.2.done.map encDone))]) (λ_=>.a e e (.st e (Ev.bsW (ys:=([]:List Message)) (f:=(encMessage false)) e .nil e e e e e) e (.j e (λh=>[(2,.ptr 0 0),(3,.ptr 1 0),(4,.ptr 2 0),(10,.ptr 3 0),(11,VI h.1),(12,.ptr 4 0),(13,VB h.2.1),(14,.sl 5 42 0 h.2.2.2.length)]) (λh=>[(0,.box (cServer1 c [])),(1,.box (cInput1 s [])),(2,.box [VI 0,VI 0,VI 0,VI 0,VI 0,.sl 6 3 0 (([]:List Int).length),VI 0,VI 0,.sl 7 91 0 (([]:List Entry).length),VI 0,VI 0,VI 0,.sl 8 3 0 (([]:List Int).length),.sl 9 195 0 (([]:List Peer).length),.sl 10 93 0 (([]:List File).length),.sl 11 3 0 (([]:List Int).length),VI 0,VI 0,VI 0,.sl 12 3 0 (([]:List Int).length),.sl 13 85 0 (([]:List Spot).length),VI 0,VS (⟨#[]⟩:BA),VI 0,VI 0]),(3,.box (cNode0 b (RO 93 (c.Disk.Files.map encFile)::(cShelf1 c.Shelf [VS c.Stage,VI c.StageAt,VI c.StageTerm,.sl 14 79 0 (([]:List Raw).length),.sl 15 42 0 (([]:List Message).length),.sl 16 253 0 (([]:List Done).length),VB t])))),(4,.box (cNode0 h.2.2.1 [])),(5,.vec 42 (h.2.2.2.map (encMessage false))),(6,.vec 3 (([]:List Int).map encI)),(7,.vec 91 (([]:List Entry).map encEntry)),(8,.vec 3 (([]:List Int).map encI)),(9,.vec 195 (([]:List Peer).map encPeer)),(10,.vec 93 (([]:List File).map encFile)),(11,.vec 3 (([]:List Int).map encI)),(12,.vec 3 (([]:List Int).map encI)),(13,.vec 85 (([]:List Spot).map encSpot)),(14,.vec 79 (([]:List Raw).map encRaw)),(15,.vec 42 (([]:List Message).map (encMessage false))),(16,.vec 253 (([]:List Done).map encDone))]) (λ_=>.a e e (.f [] [] 5 e i q λm _=>.J e (.g λhB=>(Gh.trans (Gh.trans (Gh.trans (Gh.trans (Gh.trans (Gh.trans (Gh.trans (Gh.trans (Gh.trans (Gh.trans (Gh.trans ((Gh.frz (f:=encI) (g:=encI) (xs:=b.Conf) 9240 (λ_=>e) e)) ((Gh.frz (f:=encEntry) (g:=encEntry) (xs:=b.Log.Entries) 9241 (λ_=>e) e))) ((Gh.frz (f:=encI) (g:=encI) (xs:=b.Votes) 9242 (λ_=>e) e))) ((Gh.frz (f:=encPeer) (g:=encPeer) (xs:=b.Peers) 9243 (λ_=>e) e))) ((Gh.frz (f:=encI) (g:=encI) (xs:=m.1.Conf) 42024 (λ_=>e) e))) ((Gh.frz (f:=encEntry) (g:=encEntry) (xs:=m.1.Log.Entries) 42025 (λ_=>e) e))) ((Gh.frz (f:=encI) (g:=encI) (xs:=m.1.Votes) 42026 (λ_=>e) e))) ((Gh.frz (f:=encPeer) (g:=encPeer) (xs:=m.1.Peers) 42027 (λ_=>e) e))) (gh_prn [2,3,4,10,11,12,13,14] [0,1,2,3,21560,42028,9240,9241,9242,9243,4,5,6,42024,42025,42026,42027] hB e)) (gh_ro [2,3,4,10,11,12,13,14] [3,21560] [9240,9241,9242,9243,42024,42025,42026,42027] [] e)) (gh_nil [] [2] hB e e e)) (gh_pk [2,3,4,10,11,12,13,14] [0,1,2,3,21560,42028,20000000,20000001,20000002,20000003,20000004,20000005,20000006,20000007,4,5,6] hB e e (by first|rfl|(simp only[List.length_set,takeMap,List.drop_zero,List.map_nil];done)|(simp only[List.length_set,takeMap,List.drop_zero,List.map_nil];rfl)) (by first|rfl|(simp only[List.length_set,takeMap,List.drop_zero,List.map_nil];done)|(simp only[List.length_set,takeMap,List.drop_zero,List.map_nil];rfl)))))) (.a e e (.f [] [] 5 e i q λo _=>.J e (.g λhB=>(Gh.trans (Gh.trans (Gh.trans (Gh.trans (Gh.trans (Gh.trans (Gh.trans (Gh.trans (Gh.trans (Gh.trans (Gh.trans ((Gh.frz (f:=encI) (g:=encI) (xs:=b.Conf) 9240 (λ_=>e) e)) ((Gh.frz (f:=encEntry) (g:=encEntry) (xs:=b.Log.Entries) 9241 (λ_=>e) e))) ((Gh.frz (f:=encI) (g:=encI) (xs:=b.Votes) 9242 (λ_=>e) e))) ((Gh.frz (f:=encPeer) (g:=encPeer) (xs:=b.Peers) 9243 (λ_=>e) e))) ((Gh.frz (f:=encI) (g:=encI) (xs:=o.1.Conf) 50216 (λ_=>e) e))) ((Gh.frz (f:=encEntry) (g:=encEntry) (xs:=o.1.Log.Entries) 50217 (λ_=>e) e))) ((Gh.frz (f:=encI) (g:=encI) (xs:=o.1.Votes) 50218 (λ_=>e) e))) ((Gh.frz (f:=encPeer) (g:=encPeer) (xs:=o.1.Peers) 50219 (λ_=>e) e))) (gh_prn [2,3,4,10,11,12,13,14] [0,1,2,3,21560,50220,9240,9241,9242,9243,4,5,6,50216,50217,50218,50219] hB e)) (gh_ro [2,3,4,10,11,12,13,14] [3,21560] [9240,9241,9242,9243,50216,50217,50218,50219] [] e)) (gh_nil [] [2] hB e e e)) (gh_pk [2,3,4,10,11,12,13,14] [0,1,2,3,21560,50220,20000000,20000001,20000002,20000003,20000004,20000005,20000006,20000007,4,5,6] hB e e (by first|rfl|(simp only[List.length_set,takeMap,List.drop_zero,List.map_nil];done)|(simp only[List.length_set,takeMap,List.drop_zero,List.map_nil];rfl)) (by first|rfl|(simp only[List.length_set,takeMap,List.drop_zero,List.map_nil];done)|(simp only[List.length_set,takeMap,List.drop_zero,List.map_nil];rfl)))))) (.a e e (.f [] [] 5 e i q λp _=>.J e (.g λhB=>(Gh.trans (Gh.trans (Gh.trans (Gh.trans (Gh.trans (Gh.trans (Gh.trans (Gh.trans (Gh.trans (Gh.trans (Gh.trans ((Gh.frz (f:=encI) (g:=encI) (xs:=b.Conf) 9240 (λ_=>e) e)) ((Gh.frz (f:=encEntry) (g:=encEntry) (xs:=b.Log.Entries) 9241 (λ_=>e) e))) ((Gh.frz (f:=encI) (g:=encI) (xs:=b.Votes) 9242 (λ_=>e) e))) ((Gh.frz (f:=encPeer) (g:=encPeer) (xs:=b.Peers) 9243 (λ_=>e) e))) ((Gh.frz (f:=encI) (g:=encI) (xs:=p.1.Conf) 58440 (λ_=>e) e))) ((Gh.frz (f:=encEntry) (g:=encEntry) (xs:=p.1.Log.Entries) 58441 (λ_=>e) e))) ((Gh.frz (f:=encI) (g:=encI) (xs:=p.1.Votes) 58442 (λ_=>e) e))) ((Gh.frz (f:=encPeer) (g:=encPeer) (xs:=p.1.Peers) 58443 (λ_=>e) e))) (gh_prn [2,3,4,10,11,12,13,14] [0,1,2,3,21560,58444,9240,9241,9242,9243,4,5,6,58440,58441,58442,58443] hB e)) (gh_ro [2,3,4,10,11,12,13,14] [3,21560] [9240,9241,9242,9243,58440,58441,58442,58443] [] e)) (gh_nil [] [2] hB e e e)) (gh_pk [2,3,4,10,11,12,13,14] [0,1,2,3,21560,58444,20000000,20000001,20000002,20000003,20000004,20000005,20000006,20000007,4,5,6] hB e e (by first|rfl|(simp only[List.length_set,takeMap,List.drop_zero,List.map_nil];done)|(simp only[List.length_set,takeMap,List.drop_zero,List.map_nil];rfl)) (by first|rfl|(simp only[List.length_set,takeMap,List.drop_zero,List.map_nil];done)|(simp only[List.length_set,takeMap,List.drop_zero,List.map_nil];rfl)))))) (.J e (.g λhB=>(Gh.trans (Gh.trans (Gh.trans (Gh.trans (Gh.trans (Gh.trans (Gh.trans ((Gh.frz (f:=encI) (g:=encI) (xs:=b.Conf) 9240 (λ_=>e) e)) ((Gh.frz (f:=encEntry) (g:=encEntry) (xs:=b.Log.Entries) 9241 (λ_=>e) e))) ((Gh.frz (f:=encI) (g:=encI) (xs:=b.Votes) 9242 (λ_=>e) e))) ((Gh.frz (f:=encPeer) (g:=encPeer) (xs:=b.Peers) 9243 (λ_=>e) e))) (gh_prn [2,3,4,10,11,12,13,14] [0,1,2,3,21560,29672,9240,9241,9242,9243,4,5,6] hB e)) (gh_ro [2,3,4,10,11,12,13,14] [3,21560] [9240,9241,9242,9243] [] e)) (gh_nil [] [2] hB e e e)) (gh_pk [2,3,4,10,11,12,13,14] [0,1,2,3,21560,29672,20000000,20000001,20000002,20000003,20000004,20000005,20000006,20000007,4,5,6] hB e e (by first|rfl|(simp only[List.length_set,takeMap,List.drop_zero,List.map_nil];done)|(simp only[List.length_set,takeMap,List.drop_zero,List.map_nil];rfl)) (by first|rfl|(simp only[List.length_set,takeMap,List.drop_zero,List.map_nil];done)|(simp only[List.length_set,takeMap,List.drop_zero,List.map_nil];rfl))))))))) λh=>.f [3,14,5,16] [] 3 e i q λ_ _=>.f [3,74776,74777,74778] [] 3 e i q λ_ _=>.jk e [3,4,10,11] [1,2,3,6,7,8,9,10,11,12,13,78920,78921,78922] (λl=>[.r 2 (.box (cTl17Run0 l 11 12 13 [])),.r 11 (.vec 79 (l.raws.map encRaw)),.r 12 (.vec 42 (l.told.map (encMessage false))),.r 13 (.vec 253 (l.done.map encDone))]) (λ_=>e) (λ_=>.q e (.a e e (.a e e (.a e e (.f [3,78920,78921,78922] [] 3 e i q λ_ _=>.J e (.k [3,4,10,11] [1,2,3,6,7,8,9,10,11,12,13,87064,87065,87066])) (.J e (.k [3,4,10,11] [1,2,3,6,7,8,9,10,11,12,13,78920,78921,78922]))) (.J e (.k [3,4,10,11] [1,2,3,6,7,8,9,10,11,12,13,78920,78921,78922]))) (.J e (.k [3,4,10,11] [1,2,3,6,7,8,9,10,11,12,13,78920,78921,78922])))) λl=>.q e (.a e e (.f [2,11,12,13] [] 3 e i q λ_ _=>.f [2,95224,95225,95226] [] 1 e i q λ_ _=>.J e (.ro [4,10,11] [1,2,3,4,5,6,7,8,9,10,95224,103416,95226] [2] [] [] [1,2,3,4,5,6,7,8,9,10,95224,103416,95226])) (.f [2,11,12,13] [] 3 e i q λ_ _=>.f [2,99320,99321,99322] [] 1 e i q λ_ _=>.J e (.ro [4,10,11] [1,2,3,4,5,6,7,8,9,10,99320,103416,99322] [2] [] [] [1,2,3,4,5,6,7,8,9,10,99320,103416,99322]))))) (.J e (.g λhB=>(Gh.trans (Gh.trans (Gh.trans (Gh.trans (Gh.trans (Gh.trans (Gh.trans ((Gh.frz (f:=encI) (g:=encI) (xs:=b.Conf) 9240 (λ_=>e) e)) ((Gh.frz (f:=encEntry) (g:=encEntry) (xs:=b.Log.Entries) 9241 (λ_=>e) e))) ((Gh.frz (f:=encI) (g:=encI) (xs:=b.Votes) 9242 (λ_=>e) e))) ((Gh.frz (f:=encPeer) (g:=encPeer) (xs:=b.Peers) 9243 (λ_=>e) e))) (gh_prn [4,10,11] [2,3,9240,9241,9242,9243,4,5,6] hB e)) (gh_ro [4,10,11] [3] [9240,9241,9242,9243] [] e)) (gh_nil [] [2] hB e e e)) (gh_pk [4,10,11] [2,3,20000000,20000001,20000002,20000003,20000004,20000005,20000006,20000007,4,5,6] hB e e (by first|rfl|(simp only[List.length_set,takeMap,List.drop_zero,List.map_nil];done)|(simp only[List.length_set,takeMap,List.drop_zero,List.map_nil];rfl)) (by first|rfl|(simp only[List.length_set,takeMap,List.drop_zero,List.map_nil];done)|(simp only[List.length_set,takeMap,List.drop_zero,List.map_nil];rfl))))))) λd=>.q e (.q e (.a e e (.st e (Ev.bsW (ys:=([]:List Raw)) (f:=encRaw) e .nil e e e e e) e (.st e (Ev.bsW (ys:=([]:List Message)) (f:=(encMessage false)) e .nil e e e e e) e (.st e (Ev.bsW (ys:=([]:List Done)) (f:=encDone) e .nil e e e e e) e (.E e e (.n [0,1,2,3,4,5] [111608,111624,111640] [0] [] [10000000,10000001,10000002,10000003,10000004,10000005,10000006,10000007,111608,111624,111640]))))) (.a e e (.st e (Ev.bsW (ys:=([]:List Raw)) (f:=encRaw) e .nil e e e e e) e (.st e (Ev.bsW (ys:=([]:List Message)) (f:=(encMessage false)) e .nil e e e e e) e (.st e (Ev.bsW (ys:=([]:List Done)) (f:=encDone) e .nil e e e e e) e (.E e e (.n [0,1,2,3,4,5] [111608,111624,111640] [0] [] [10000000,10000001,10000002,10000003,10000004,10000005,10000006,10000007,111608,111624,111640]))))) (.f [] [] 8 e i q λ_ _=>.st e (Ev.bsW (ys:=([]:List Raw)) (f:=encRaw) e .nil e e e e e) e (.B λ_ u=>.st e (Ev.apW (f:=encRaw) (ontoW e e e) (addsW e e e (λ_=>e)) e bt79 e u) e (.f [11] [] 1 e i q λ_ _=>.st e (Ev.bsW (ys:=([]:List Done)) (f:=encDone) e .nil e e e e e) e (.B λ_ w=>.st e (Ev.apW (f:=encDone) (ontoW e e e) (addsW e e e (λ_=>e)) e bt253 e w) e (.dn e (.Ek [115752,115753,115754,115755,115756,115757,115758,115759,115848,115928,116024] e e e)))))))))
def s_l17Play_l1 (N:Nat)(d:Disk×Bool):Nat->Int->(List Int)->Int->Int->(List Server)->Option ((List Int)×Int×Int×(List Server))
 |0,_,_,_,_,_=>none
 |m+1,c,f,g,j,k=>
 (if decide (c<=3)then
 (s_l01Below N (Tl01Cur.mk f g j) 4).bind λa=>
 (s_Boot N c d.1 (w64 (1+a.1))).bind λl=>
 (cat? k ([l.1]:List Server)).bind λn=>
 s_l17Play_l1 N d m (w64 (c+1)) a.2.b a.2.i a.2.h n
 else
 some (f,g,j,k))
def s_l17Play_l3 (N:Nat)(b:List Server):Nat->Int->Int->Option (Int)
 |0,_,_=>none
 |m+1,c,a=>
 (if decide (a<3)then
 joinP (λ(f:Int)=>
 s_l17Play_l3 N b m f (w64 (a+1))) λd=>
 (at? b a).bind λg=>
 (if(g.Node.Role==2)then
 d a
 else
 d c)
 else
 some c)
def s_l17Play_l4 (N:Nat)(b:List Server):Nat->Int->Int->Option (Int)
 |0,_,_=>none
 |m+1,c,a=>
 (if decide (a<3)then
 joinP (λ(f:Int)=>
 s_l17Play_l4 N b m f (w64 (a+1))) λd=>
 (at? b a).bind λg=>
 (if(g.Node.Role==2)then
 d a
 else
 d c)
 else
 some c)
def s_l17Play_l5 (N:Nat)(b:Server×(List Raw)×(List Message)×(List Done)×Int×Bool):Nat->Int->(List Message)->Option ((List Message))
 |0,_,_=>none
 |m+1,c,a=>
 (if decide (c<(b.2.2.1.length:Int))then
 (if decide ((a.length:Int)<20)then
 joinP (λ(f:List Message)=>
 s_l17Play_l5 N b m (w64 (c+1)) f) λd=>
 (at? b.2.2.1 c).bind λg=>
 (if decide (g.To<=3)then
 (at? b.2.2.1 c).bind λh=>
 (cat? a ([h]:List Message)).bind λj=>
 d j
 else
 d a)
 else
 some a)
 else
 some a)
def s_l17Play_l2 (N:Nat)(x:Int):Nat->Int->(List Int)->Int->Int->(List Pair)->(List Server)->(List Message)->Option ((List Int)×Int×Int×(List Server)×(List Message))
 |0,_,_,_,_,_,_,_=>none
 |m+1,y,v,z,a0,p,f,c=>
 (if decide (y<x)then
 joinP (λ(n:(List Int)×Int×Int×(List Pair)×(List Server)×(List Message))=>
 s_l17Play_l2 N x m (w64 (y+1)) n.1 n.2.1 n.2.2.1 n.2.2.2.1 n.2.2.2.2.1 n.2.2.2.2.2) λu=>
 (s_l01Below N (Tl01Cur.mk v z a0) 3).bind λg=>
 (s_l01Below N g.2 6).bind λw=>
 joinP (λ(d:Int×(List Int)×Int×Int×Input×(List Message))=>
 (at? f d.1).bind λa3=>
 (s_Serve N a3 d.2.2.2.2.1).bind λo=>
 (if(!o.2.2.2.2.2)then
 u (d.2.1,d.2.2.1,d.2.2.2.1,p,f,d.2.2.2.2.2)
 else
 (at? f d.1).bind λb2=>
 (s_ShelfMap N o.1.Disk o.1.Shelf).bind λa4=>
 (s_l17Play_l5 N o N 0 d.2.2.2.2.2).bind (λa5=>u (d.2.1,d.2.2.1,d.2.2.2.1,a4.1,(f.set d.1.toNat o.1),a5)))) λk=>
 (s_l01Below N w.2 10).bind λa=>
 (if(a.1==0)then
 k (g.1,a.2.b,a.2.i,a.2.h,(Input.mk 1 (w64 (1+w.1)) (Message.mk 0 0 0 0 0 0 0 false ([]) ([]) (⟨#[]⟩:BA) false) 0 (⟨#[]⟩:BA)),c)
 else
 (if(a.1==1)then
 k (g.1,a.2.b,a.2.i,a.2.h,(Input.mk 1 (w64 (1+w.1)) (Message.mk 0 0 0 0 0 0 0 false ([]) ([]) (⟨#[]⟩:BA) false) 0 (⟨#[]⟩:BA)),c)
 else
 (if(a.1==2)then
 (at? f g.1).bind λa6=>
 (s_l17Propose_i1 N a.2 a6 p).bind λs=>
 (s_l17Play_l3 N f N g.1 0).bind (λa7=>k (a7,s.2.b,s.2.i,s.2.h,s.1,c))
 else
 (if(a.1==3)then
 (at? f g.1).bind λa8=>
 (s_l17Propose_i1 N a.2 a8 p).bind λt=>
 (s_l17Play_l4 N f N g.1 0).bind (λa9=>k (a9,t.2.b,t.2.i,t.2.h,t.1,c))
 else
 (if(a.1==4)then
 k (g.1,a.2.b,a.2.i,a.2.h,(Input.mk 4 0 (Message.mk 0 0 0 0 0 0 0 false ([]) ([]) (⟨#[]⟩:BA) false) 0 (⟨#[]⟩:BA)),c)
 else
 (if((c.length:Int)==0)then
 u (a.2.b,a.2.i,a.2.h,p,f,c)
 else
 (s_l01Below N a.2 (c.length:Int)).bind λj=>
 (at? c j.1).bind λa1=>
 (at? c j.1).bind λa2=>
 (s_l01Once N j.2 8).bind λl=>
 (if(!l.1)then
 (take? c j.1).bind λb3=>
 (cat? ([]:List Message) (c.take j.1.toNat)).bind λb0=>
 (drop? c (w64 (j.1+1))).bind λb4=>
 (cat? b0 ((c.drop ((w64 (j.1+1)).toNat)).take (c.length-(w64 (j.1+1)).toNat))).bind λb1=>
 k (w64 (a2.To-1),l.2.b,l.2.i,l.2.h,(Input.mk 2 0 a1 0 (⟨#[]⟩:BA)),b1)
 else
 k (w64 (a2.To-1),l.2.b,l.2.i,l.2.h,(Input.mk 2 0 a1 0 (⟨#[]⟩:BA)),c))))))))
 else
 some (v,z,a0,f,c))
def s_l17Play (N:Nat)(o:Tl01Cur)(p:Int):Option (Tl17Live×Tl01Cur):=
 joinP (λ(g:(List Int)×Int×Int×(List Int))=>
 joinP (λ(j:(List Int)×Int×Int×(List Int))=>
 (s_FormatDisk N j.2.2.2).bind λs=>
 joinP (λ(k:(List Int)×Int×Int×(List Server))=>
 joinP (λ(d:(List Int)×Int×Int×(List Server)×(List Message))=>
 some ((Tl17Live.mk d.2.2.2.1 d.2.2.2.2),(Tl01Cur.mk d.1 d.2.1 d.2.2.1))) λt=>
 (s_l17Play_l2 N p N 0 k.1 k.2.1 k.2.2.1 ([]:List Pair) k.2.2.2 ([]:(List Message))).bind (λf=>t (f.1,f.2.1,f.2.2.1,f.2.2.2.1,f.2.2.2.2))) λu=>
 (s_l17Play_l1 N s N 1 j.1 j.2.1 j.2.2.1 ([]:(List Server))).bind (λl=>u (l.1,l.2.1,l.2.2.1,l.2.2.2))) λm=>
 (s_l01Once N (Tl01Cur.mk g.1 g.2.1 g.2.2.1) 3).bind λa=>
 (if a.1 then
 m (a.2.b,a.2.i,a.2.h,([1]:List Int))
 else
 m (a.2.b,a.2.i,a.2.h,g.2.2.2))) λn=>
 (s_l01Once N o 3).bind λc=>
 (if c.1 then
 n (c.2.b,c.2.i,c.2.h,([1,2,3]:List Int))
 else
 n (c.2.b,c.2.i,c.2.h,([1,2]:List Int)))
instance i161 (N:Nat)(y:Tl01Cur)(v:Int):JG 12 (s_l17Play N y v) [.ptr 0 0,VI v] 1 [(0,.box [RO 5 (y.b.map encU),VI y.i,VI y.h])] (λr=>.ptr 1 0) (λr=>((0,.box [RO 5 (r.2.b.map encU),VI r.2.i,VI r.2.h])::(1,.box [.sl 2 40 0 r.1.list.length,.sl 3 42 0 r.1.net.length])::(rTl17Live0 r.1 2 3 []))):=.st e e Tryz.call12 λB r=>.st e (Ev.bsW (ys:=([1,2]:List Int)) (f:=encI) e (.d2 .nil) e e e e e) e (.jk e [0,1,5,6] [0,5112,9192] (λs=>[.f 6 (.sl 2 3 0 s.2.2.2.length),.r 0 (.box [RO 5 (s.1.map encU),VI s.2.1,VI s.2.2.1]),.r 2 (.vec 3 (s.2.2.2.map encI))]) (λ_=>e) (λ_=>.f [0] [] 0 e i q λ_ _=>.a e e (.st e (Ev.bsW (ys:=([1,2,3]:List Int)) (f:=encI) e (.d2 (.d1 .nil)) e e e e e) e (.J e (.k [0,1,5,6] [0,5112,17384]))) (.J e (.k [0,1,5,6] [0,5112,9192]))) λs=>.jk e [0,1,5,6] [0,1,2] (λu=>[.f 6 (.sl 2 3 0 u.2.2.2.length),.r 0 (.box [RO 5 (u.1.map encU),VI u.2.1,VI u.2.2.1]),.r 2 (.vec 3 (u.2.2.2.map encI))]) (λ_=>e) (λ_=>.f [0] [] 0 e i q λ_ _=>.a e e (.st e (Ev.bsW (ys:=([1]:List Int)) (f:=encI) e (.d1 .nil) e e e e e) e (.J e (.k [0,1,5,6] [0,1,25576]))) (.J e (.k [0,1,5,6] [0,1,2]))) λu=>.f (hp:=(.cons (.borrow e (by decide) lw) .nil)) (hcase:=λ_=>(.inr ⟨rfl,ownL_root ⟨own_rows (λ_=>e) _,trivial⟩⟩)) [] [2] 1 e i q λb2 _=>.jk e [0,1,5] [0,1,900002,900003] (λw=>[.r 0 (.box [RO 5 (w.1.map encU),VI w.2.1,VI w.2.2.1]),.r 1 (.box [.sl 2 40 0 w.2.2.2.length,.sl 3 42 0 (([]:(List Message)).length)]),.r 2 (.vec 40 (w.2.2.2.map (encServer false))),.r 3 (.vec 42 (([]:(List Message)).map (encMessage false)))]) (λ_=>e) (λ_=>.L5 e (λa2 a3 a4 a5 z=>[(0,.ptr 0 0),(1,VI v),(5,.ptr 1 0),(7,.ptr 2 0),(9,VI a2)]) (λa2 a3 a4 a5 z=>[(0,.box [RO 5 (a3.map encU),VI a4,VI a5]),(1,.box [.sl 3 40 0 z.length,.sl 4 42 0 (([]:(List Message)).length)]),(2,.box [.sl 5 93 0 b2.1.Files.length]),(3,.vec 40 (z.map (encServer false))),(4,.vec 42 (([]:(List Message)).map (encMessage false))),(5,.vec 93 (b2.1.Files.map encFile))]) (.n [0,1,5,7,9] [0,1,29752,29688] [] [1] [0,1,29752,20000000,20000001,29688]) λ_ a2 a3 a4 a5 z _ d7=>.q e (.a e e (.f [0] [] 0 e i q λ_ _=>.f (hp:=(.d1 (.cons (.agg (.cons (.borrow e (by decide) lw) .nil)) (.d1 .nil)))) (hcase:=λ_=>(.inr ⟨rfl,ownL_root ⟨own_rows (λ_=>e) _,own_rows (λ_=>e) _,own_rows (λ_=>e) _,own_rows (λ_=>e) _,own_rows (λ_=>e) _,own_rows (λ_=>e) _,own_rows (λ_=>e) _,own_rows (λ_=>e) _,own_rows (λ_=>e) _,trivial⟩⟩)) [] [5] 9 e i q λl _=>.dn e (.stz e (EvZ.frz (f:=encI) (g:=encI) (xs:=l.1.Node.Conf) 46136 (λ_=>e) e (EvZ.frz (f:=encEntry) (g:=encEntry) (xs:=l.1.Node.Log.Entries) 46137 (λ_=>e) e (EvZ.frz (f:=encI) (g:=encI) (xs:=l.1.Node.Votes) 46138 (λ_=>e) e (EvZ.frz (f:=encPeer) (g:=encPeer) (xs:=l.1.Node.Peers) 46139 (λ_=>e) e (EvZ.frz (f:=encFile) (g:=encFile) (xs:=l.1.Disk.Files) 46140 (λ_=>e) e (EvZ.frz (f:=encI) (g:=encI) (xs:=l.1.Shelf.Man.Segs) 46141 (λ_=>e) e (EvZ.frz (f:=encI) (g:=encI) (xs:=l.1.Shelf.Man.Conf) 46142 (λ_=>e) e (EvZ.frz (f:=encSpot) (g:=encSpot) (xs:=l.1.Shelf.Dir) 46143 (λ_=>e) e (.mk (Ev.bsW (ys:=([l.1]:List Server)) (f:=(encServer false)) e (.d4 (.d1 (.cons (.ro e (shareW _ e)) (.d2 (.cons (.ro e (shareW _ e)) (.d2 (.d1 (.cons (.ro e (shareW _ e)) (.cons (.ro e (shareW _ e)) (.cons (.ro e (shareW _ e)) (.cons (.ro e (shareW _ e)) (.d2 (.d1 (.cons (.ro e (shareW _ e)) (.cons (.ro e (shareW _ e)) (.d4 .nil)))))))))))))))) e e e e e)))))))))) e (.B λ_ d8=>.st e (Ev.apW (f:=(encServer false)) (ontoW e e e) (addsW e e e (λ_=>e)) e bt40 e d8) e (.dn e (.R e (λh=>⟨_,_,_,_,_,h,e,e⟩) (.k [0,1,5,7,9] [0,1,2,50264,4,5])))))) (.X d7 e e (.n e (.J e (.k [0,1,5] [0,1,3,4])))))) λw=>.st e (Ev.bsW (ys:=([]:List Pair)) (f:=encPair) e .nil e e e e e) e (.j e (λm=>[(5,.ptr 1 0)]) (λm=>[(0,.box [RO 5 (m.1.map encU),VI m.2.1,VI m.2.2.1]),(1,.box [.sl 2 40 0 m.2.2.2.1.length,.sl 3 42 0 m.2.2.2.2.length]),(2,.vec 40 (m.2.2.2.1.map (encServer false))),(3,.vec 42 (m.2.2.2.2.map (encMessage false)))]) (λ_=>.L7 e (λa6 a7 a8 a9 a0 a1 x=>[(0,.ptr 0 0),(1,VI v),(5,.ptr 1 0),(13,.sl 2 89 0 a0.length),(14,VI a6)]) (λa6 a7 a8 a9 a0 a1 x=>[(0,.box [RO 5 (a7.map encU),VI a8,VI a9]),(1,.box [.sl 3 40 0 a1.length,.sl 4 42 0 x.length]),(2,.vec 89 (a0.map encPair)),(3,.vec 40 (a1.map (encServer false))),(4,.vec 42 (x.map (encMessage false)))]) (.k [0,1,5,13,14] [0,1,54248,2,3]) λ_ a6 a7 a8 a9 a0 a1 x _ d9=>.q e (.a e e (.jk e [0,1,5,13,14] [0,1,2,3,4] (λd=>[.f 13 (.sl 2 89 0 d.2.2.2.1.length),.r 0 (.box [RO 5 (d.1.map encU),VI d.2.1,VI d.2.2.1]),.r 1 (.box [.sl 3 40 0 d.2.2.2.2.1.length,.sl 4 42 0 d.2.2.2.2.2.length]),.r 2 (.vec 89 (d.2.2.2.1.map encPair)),.r 3 (.vec 40 (d.2.2.2.2.1.map (encServer false))),.r 4 (.vec 42 (d.2.2.2.2.2.map (encMessage false)))]) (λ_=>e) (λ_=>.f [0] [] 0 e i q λ_ _=>.f [0] [] 0 e i q λ_ _=>.jk e [0,1,5,13,14,15,16] [0,1,2,74792,3,4] (λp=>[.f 15 (VI p.1),.r 0 (.box [RO 5 (p.2.1.map encU),VI p.2.2.1,VI p.2.2.2.1]),.c 1 1 (.sl 5 42 0 p.2.2.2.2.2.length),.r 3 (.box (cInput1 p.2.2.2.2.1 [])),.r 5 (.vec 42 (p.2.2.2.2.2.map (encMessage false)))]) (λ_=>e) (λ_=>.f [0] [] 0 e i q λ_ _=>.q e (.a e e (.J e (.ro [0,1,5,13,14,15,16] [0,1,2,74792,3,4] [74792] [] [1074792] [0,1,2,74792,3,4])) (.a e e (.J e (.ro [0,1,5,13,14,15,16] [0,1,2,74792,3,4] [74792] [] [1074792] [0,1,2,74792,3,4])) (.q e (.a e e (.B λ_ b3=>.st e (Ev.iaW e e e b3) e (.st e (Ev.ldE (f:=(encServer false)) e e (at_some b3).2 e e e) e (.f [0,2] [] 2 e i q λb4 _=>.K2 e [0,1,5,13,14,15,16,17] [0,1,2,74792,3,4,124024,124025] (λb5 b6=>[.f 15 (VI b5),.f 17 (VI b6)]) (λ_ _=>e) λ_ b5 b6 _ f0=>.q e (.a e e (.jk e [0,1,5,13,14,15,16,17] [0,1,2,3,4,5,6,7] (λb7=>[.f 15 (VI b7)]) (λ_=>e) (λ_=>.B λ_ b8=>.st e (Ev.iaW e e e b8) e (.st e (Ev.ldE (f:=(encServer false)) e e (at_some b8).2 e e e) e (.a e e (.J e (.k [0,1,5,13,14,15,16,17] [0,1,2,3,4,5,6,7])) (.J e (.k [0,1,5,13,14,15,16,17] [0,1,2,3,4,5,6,7]))))) λb7=>.R e (λh=>⟨_,_,h,e,e⟩) (.k [0,1,5,13,14,15,16,17] [0,1,2,3,4,5,6,7])) (.X f0 e e (.n e (.J e (.t (Gh.frz (f:=encEntry) (g:=encEntry) (xs:=b4.1.Message.Entries) 6 (λ_=>e) e) (.t (Gh.frz (f:=encI) (g:=encI) (xs:=b4.1.Message.Conf) 7 (λ_=>e) e) (.ro [0,1,5,13,14,15,16] [0,1,2,3,4,5,6,7] [3] [6,7] [1000003] [0,1,2,3,4,5])))))))))) (.a e e (.B λ_ b9=>.st e (Ev.iaW e e e b9) e (.st e (Ev.ldE (f:=(encServer false)) e e (at_some b9).2 e e e) e (.f [0,2] [] 2 e i q λc0 _=>.K2 e [0,1,5,13,14,15,16,17] [0,1,2,74792,3,4,124024,124025] (λc2 c3=>[.f 15 (VI c2),.f 17 (VI c3)]) (λ_ _=>e) λ_ c2 c3 _ f1=>.q e (.a e e (.jk e [0,1,5,13,14,15,16,17] [0,1,2,3,4,5,6,7] (λc4=>[.f 15 (VI c4)]) (λ_=>e) (λ_=>.B λ_ c5=>.st e (Ev.iaW e e e c5) e (.st e (Ev.ldE (f:=(encServer false)) e e (at_some c5).2 e e e) e (.a e e (.J e (.k [0,1,5,13,14,15,16,17] [0,1,2,3,4,5,6,7])) (.J e (.k [0,1,5,13,14,15,16,17] [0,1,2,3,4,5,6,7]))))) λc4=>.R e (λh=>⟨_,_,h,e,e⟩) (.k [0,1,5,13,14,15,16,17] [0,1,2,3,4,5,6,7])) (.X f1 e e (.n e (.J e (.t (Gh.frz (f:=encEntry) (g:=encEntry) (xs:=c0.1.Message.Entries) 6 (λ_=>e) e) (.t (Gh.frz (f:=encI) (g:=encI) (xs:=c0.1.Message.Conf) 7 (λ_=>e) e) (.ro [0,1,5,13,14,15,16] [0,1,2,3,4,5,6,7] [3] [6,7] [1000003] [0,1,2,3,4,5])))))))))) (.a e e (.J e (.ro [0,1,5,13,14,15,16] [0,1,2,74792,3,4] [74792] [] [1074792] [0,1,2,74792,3,4])) (.q e (.a e e (.J e (.k [0,1,5,13,14] [0,1,2,3,4])) (.f [0] [] 0 e i q λ_ _=>.B λ_ c6=>.st e (Ev.iaW e e e c6) e (.st e (Ev.ldE (f:=(encMessage false)) e e (at_some c6).2 e e e) e (.B λ_ c7=>.st e (Ev.iaW e e e c7) e (.st e (Ev.ldE (f:=(encMessage false)) e e (at_some c7).2 e e e) e (.f [0] [] 0 e i q λ_ _=>.a e e (.st e (Ev.bsW (ys:=([]:List Message)) (f:=(encMessage false)) e .nil e e e e e) e (.B λ_ f2=>.st e (Ev.slWh (xs:=x) e e e f2) e (.B λ_ f3=>.st e (Ev.apW (f:=(encMessage false)) (ontoW e e e) (addsP e e (λ_=>e)) e bt42 e f3) e (.B λ_ f4=>.st e (Ev.slWl (xs:=x) e e e f4) e (.B λ_ f5=>.st e (Ev.apW (f:=(encMessage false)) (ontoW e e e) (addsP e e (λ_=>e)) e bt42 e f5) e (.dn e (.J e (.ro [0,1,5,13,14,15,16] [0,1,2,74792,3,103656] [74792] [] [1074792] [0,1,2,74792,3,103656])))))))) (.J e (.ro [0,1,5,13,14,15,16] [0,1,2,74792,3,4] [74792] [] [1074792] [0,1,2,74792,3,4])))))))))))))))) λp=>.B λ_ c8=>.st e (Ev.iaW e e e c8) e (.st e (Ev.ldE (f:=(encServer false)) e e (at_some c8).2 e e e) e (.f [] [] 11 e i q λo _=>.dn e (.q e (.a e e (.J e (.k [0,1,5,13,14] [0,1,2,4,5])) (.B λ_ c9=>.st e (Ev.iaW e e e c9) e (.stz e (EvZ.frz (f:=encI) (g:=encI) (xs:=o.1.Node.Conf) 156776 (λ_=>e) e (EvZ.frz (f:=encEntry) (g:=encEntry) (xs:=o.1.Node.Log.Entries) 156777 (λ_=>e) e (EvZ.frz (f:=encI) (g:=encI) (xs:=o.1.Node.Votes) 156778 (λ_=>e) e (EvZ.frz (f:=encPeer) (g:=encPeer) (xs:=o.1.Node.Peers) 156779 (λ_=>e) e (EvZ.frz (f:=encFile) (g:=encFile) (xs:=o.1.Disk.Files) 156780 (λ_=>e) e (EvZ.frz (f:=encI) (g:=encI) (xs:=o.1.Shelf.Man.Segs) 156781 (λ_=>e) e (EvZ.frz (f:=encI) (g:=encI) (xs:=o.1.Shelf.Man.Conf) 156782 (λ_=>e) e (EvZ.frz (f:=encSpot) (g:=encSpot) (xs:=o.1.Shelf.Dir) 156783 (λ_=>e) e (.mk (Ev.stE (f:=(encServer false)) (v':=o.1) e e (at_some c9).2 e (.d4 (.d1 (.cons (.ro e (shareW _ e)) (.d2 (.cons (.ro e (shareW _ e)) (.d2 (.d1 (.cons (.ro e (shareW _ e)) (.cons (.ro e (shareW _ e)) (.cons (.ro e (shareW _ e)) (.cons (.ro e (shareW _ e)) (.d2 (.d1 (.cons (.ro e (shareW _ e)) (.cons (.ro e (shareW _ e)) (.d4 .nil)))))))))))))))) e e e e e)))))))))) e (.dn e (.c1 (hp:=(.cons (.agg (.cons (.share e (shareW _ e)) .nil)) (.cons (.agg (.cons (.share e (shareW _ e)) (.d2 (.d1 (.cons (.share e (shareW _ e)) (.cons (.share e (shareW _ e)) (.d1 .nil))))))) .nil))) e i q λ_ _=>.K2 e [0,1,5,13,14,21,25] [0,1,169000,156785,4,5] (λd0 b0=>[.f 25 (VI d0),.c 1 1 (.sl 5 42 0 b0.length),.r 5 (.vec 42 (b0.map (encMessage false)))]) (λ_ _=>e) λ_ d0 b0 _ d3=>.q e (.q e (.a e e (.a e e (.jk e [0,1,5,13,14,21,25] [0,1,2,3,4,5] (λb1=>[.c 1 1 (.sl 5 42 0 b1.length),.r 5 (.vec 42 (b1.map (encMessage false)))]) (λ_=>e) (λ_=>.B λ_ d5=>.st e (Ev.iaW e e e d5) e (.st e (Ev.ldE (f:=(encMessage false)) e e (at_some d5).2 e e e) e (.a e e (.B λf6 d6=>.st e (Ev.iaW e e e d6) e (.st e (Ev.ldE (f:=(encMessage false)) e e (at_some d6).2 e e e) e (.st e (Ev.bsW (ys:=([f6]:List Message)) (f:=(encMessage false)) e (.d4 (.d4 (.d4 .nil))) e e e e e) e (.B λ_ f7=>.st e (Ev.apW (f:=(encMessage false)) (ontoW e e e) (addsW e e e (λ_=>e)) e bt42 e f7) e (.dn e (.J e (.k [0,1,5,13,14,21,25] [0,1,2,3,4,189576]))))))) (.J e (.k [0,1,5,13,14,21,25] [0,1,2,3,4,5]))))) λb1=>.R e (λh=>⟨_,_,h,e,e⟩) (.k [0,1,5,13,14,21,25] [0,1,2,3,4,5])) (.X d3 e e (.n e (.J e (.k [0,1,5,13,14] [0,1,2,4,5]))))) (.X d3 e e (.n e (.J e (.k [0,1,5,13,14] [0,1,2,4,5]))))))))))))))) λd=>.R e (λh=>⟨_,_,_,_,_,_,_,h,e,e⟩) (.k [0,1,5,13,14] [0,1,2,3,4])) (.X d9 e e (.n e (.J e (.k [5] [0,1,3,4])))))) λm=>.Ek [0,1,2,3] e e e))
def s_l01PickInt_i1 (N:Nat)(c:Tl01Cur)(a:List Int):Option (Int×Tl01Cur):=
 (s_l01Below N c (a.length:Int)).bind λb=>
 (at? a b.1).bind λd=>
 some (d,b.2)
instance i163 (N:Nat)(a:Tl01Cur)(c:List Int):JG 35 (s_l01PickInt_i1 N a c) [.ptr 0 0,.sl 1 3 0 c.length] 2 [(0,.box [RO 5 (a.b.map encU),VI a.i,VI a.h]),(1,.vec 3 (c.map encI))] (λr=>VI r.1) (λr=>[(0,.box [RO 5 (r.2.b.map encU),VI r.2.i,VI r.2.h]),(1,.vec 3 (c.map encI))]):=.st e e Tryz.call35 λB r=>.f [0] [] 0 e i q λ_ _=>.B λ_ d=>.st e (Ev.iaW e e e d) e (.st e (Ev.ldE (f:=encI) e e (at_some d).2 e e e) e (.Ek [0,1] e e e))
def s_l11Right (N:Nat)(j:Tl01Cur)(k:Int):Option (Entry×Tl01Cur):=
 (s_l01PickInt_i1 N j ([1,2,3,3,3]:List Int)).bind λa=>
 joinP (λ(c:(List Int)×Int×Int×BA)=>
 some ((Entry.mk k a.1 c.2.2.2),(Tl01Cur.mk c.1 c.2.1 c.2.2.1))) λg=>
 (if(a.1==2)then
 (s_l07Conf N a.2).bind λd=>
 (s_ConfText N d.1).bind λl=>
 g (d.2.b,d.2.i,d.2.h,l.1)
 else
 (if(a.1==3)then
 (s_l15Right N a.2).bind λf=>
 (s_CommandText N f.1).bind λm=>
 g (f.2.b,f.2.i,f.2.h,m.1)
 else
 g (a.2.b,a.2.i,a.2.h,(⟨#[]⟩:BA))))
instance i164 (N:Nat)(g:Tl01Cur)(j:Int):JG 186 (s_l11Right N g j) [.ptr 0 0,VI j] 1 [(0,.box [RO 5 (g.b.map encU),VI g.i,VI g.h])] (λr=>.agg [VI r.1.Term,VI r.1.Kind,VS r.1.Data]) (λr=>[(0,.box [RO 5 (r.2.b.map encU),VI r.2.i,VI r.2.h])]):=.st e e Tryz.call186 λB r=>.st e (Ev.bsW (ys:=([1,2,3,3,3]:List Int)) (f:=encI) e (.d4 (.d1 .nil)) e e e e e) e (.f [0,5128] [] 0 e i q λ_ _=>.jk e [4,5] [0,1000,5176] (λd=>[.r 0 (.box [RO 5 (d.1.map encU),VI d.2.1,VI d.2.2.1]),.c 2 2 (VS d.2.2.2)]) (λ_=>e) (λ_=>.a e e (.f [0] [] 1 e i q λ_ _=>.f (hp:=(.cons (.borrow e (by decide) lw) .nil)) (hcase:=λ_=>(.inr ⟨rfl,ownL_root trivial⟩)) [] [17400] 0 e i q λ_ _=>.J e (.k [4,5] [0,1000,5176])) (.a e e (.f [0] [] 0 e i q λ_ _=>.c0 e i q λ_ _=>.J e (.k [4,5] [0,1000,5176])) (.J e (.k [4,5] [0,1000,5176])))) λd=>.Ek [0] e e e)
end Go.Proofs.YtmcbbifeekhmgaaGreatDoor.Pe.FnBoots
