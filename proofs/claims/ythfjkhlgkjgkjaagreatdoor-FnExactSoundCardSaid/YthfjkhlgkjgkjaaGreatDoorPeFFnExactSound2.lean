/- Functions,as pure functions; and that Go does just that. -/
import Derived.Test.YthfjkhlgkjgkjaaGreatDoorPeFFnExactSound0
namespace Go.Proofs.YthfjkhlgkjgkjaaGreatDoor.Pe.FnExactSound
open Go Go.RowKit
set_option linter.unusedVariables false
set_option linter.unusedSimpArgs false
set_option maxHeartbeats 40000000
set_option maxRecDepth 100000
def s_l17Acted (N:Nat)(a:List Pair)(f:Int)(c:Entry):Option ((List Pair)×BA):=
 (s_ReadCommand N c.Data).bind fun d=>
 (if(c.Kind !=3)=true then
 some (a,(⟨#[]⟩:BA))
 else
 (if(!d.2)=true then
 some (a,(⟨#[]⟩:BA))
 else
 (s_Act N a f d.1).bind fun b=>
 (if(!b.2.2)=true then
 some (a,(⟨#[]⟩:BA))
 else
 some (b.1,b.2.1))))
instance i123 (N:Nat)(c:List Pair)(d:Int)(b:Entry):JG 63 (s_l17Acted N c d b) [RO 79 (c.map encPair),VI d,.agg [VI b.Term,VI b.Kind,VS b.Data]] 0 [] (fun r=>.tup [RO 79 (r.1.map encPair),VS r.2]) (fun r=>[]):=.st e e Tryz.call63 fun B r=>.c0 e i q fun _ _=>.q e (.q e (.a e e (.Ek [] e e e) (.a e e (.Ek [] e e e) (.c0 e i q fun _ _=>.q e (.a e e (.Ek [] e e e) (.Ek [] e e e))))))
def s_Act_i1_l1 (N:Nat)(c:Command)(b:(List Tl15State)×Bool):Nat→Int→Int→Option (Int)
 |0,_,_=>none
 |m+1,d,a=>
 (if decide (a<(b.1.length:Int))=true then
 joinP (fun(g:Int)=>
 s_Act_i1_l1 N c b m g (w64 (a+1))) fun f=>
 (at? b.1 a).bind fun h=>
 (if(h.id==c.Session)=true then
 f a
 else
 f d)
 else
 some d)
def s_Act_i1 (N:Nat)(g:List Pair)(h:Int)(a:Command):Option ((List Pair)×BA×Bool):=
 (s_MapOk N g).bind fun m=>
 (if(!m)=true then
 some (([]:List Pair),(⟨#[]⟩:BA),false)
 else
 (s_CommandOk N a).bind fun n=>
 (if(!n)=true then
 some (([]:List Pair),(⟨#[]⟩:BA),false)
 else
 (s_l01In N h 0 100000).bind fun o=>
 (if(!o)=true then
 some (([]:List Pair),(⟨#[]⟩:BA),false)
 else
 (s_l15Sessions N g).bind fun d=>
 (if(!d.2)=true then
 some (([]:List Pair),(⟨#[]⟩:BA),false)
 else
 (cat? ([]:List Pair) g).bind fun b=>
 (if(a.Op==1)=true then
 (s_l15Open_i1 N b h d.1).bind fun f=>
 (if(!f.2.2)=true then
 some (([]:List Pair),(⟨#[]⟩:BA),false)
 else
 (s_MapOk N f.1).bind fun p=>
 (if(!p)=true then
 some (([]:List Pair),(⟨#[]⟩:BA),false)
 else
 some (f.1,f.2.1,true)))
 else
 joinP (fun(k:Int)=>
 (if decide (k<0)=true then
 some (b,(⟨#[101,120,112,105,114,101,100]⟩:BA),true)
 else
 (at? d.1 k).bind fun c=>
 (if decide (a.Seq<c.seq)=true then
 some (b,(⟨#[115,116,97,108,101]⟩:BA),true)
 else
 (if(a.Seq==c.seq)=true then
 some (b,c.reply,true)
 else
 (if decide (a.Seq>(w64 (c.seq+1)))=true then
 some (b,(⟨#[103,97,112]⟩:BA),true)
 else
 (s_l15Op_i1 N b a).bind fun j=>
 (s_l15Key N c.id).bind fun s=>
 (s_l15Text N (Tl15State.mk c.id a.Seq h j.2)).bind fun t=>
 (s_l06Put N j.1 s t).bind fun l=>
 (s_MapOk N l).bind fun u=>
 (if(!u)=true then
 some (([]:List Pair),(⟨#[]⟩:BA),false)
 else
 some (l,j.2,true))))))) fun w=>
 (s_Act_i1_l1 N a d N (-1:Int) 0).bind (fun x=>w x))))))
instance i124 (N:Nat)(d:List Pair)(m:Int)(b:Command):JG 116 (s_Act_i1 N d m b) [.sl 0 79 0 d.length,VI m,.agg [VI b.Op,VI b.Session,VI b.Seq,VS b.Key,VS b.Value,VS b.Old]] 1 [(0,.vec 79 (d.map encPair))] (fun r=>.tup [RO 79 (r.1.map encPair),VS r.2.1,VB r.2.2]) (fun r=>[(0,.vec 79 (d.map encPair))]):=.st e e Tryz.call116 fun B r=>.st e (Ev.bsW (ys:=([]:List Pair)) (f:=encPair) e .nil e e e e e) e (.q e (.q e (.f (hp:=(.cons (.borrow e (by decide) lw) .nil)) (hcase:=fun _=>(.inr ⟨rfl,ownL_root trivial⟩)) [] [0] 0 e i q fun _ _=>.a e e (.E e e (.t (Gh.frz (f:=encPair) (g:=encPair) (xs:=([]:List Pair)) 5096 (fun _=>e) e) (.ro [0,1,2] [0,5096] [] [5096] [0] [0]))) (.c0 e i q fun _ _=>.a e e (.E e e (.t (Gh.frz (f:=encPair) (g:=encPair) (xs:=([]:List Pair)) 5096 (fun _=>e) e) (.ro [0,1,2] [0,5096] [] [5096] [0] [0]))) (.c0 e i q fun _ _=>.a e e (.E e e (.t (Gh.frz (f:=encPair) (g:=encPair) (xs:=([]:List Pair)) 5096 (fun _=>e) e) (.ro [0,1,2] [0,5096] [] [5096] [0] [0]))) (.f (hp:=(.cons (.borrow e (by decide) lw) .nil)) (hcase:=fun _=>(.inr ⟨rfl,ownL_root ⟨own_rows (fun _=>e) _,trivial⟩⟩)) [] [0] 1 e i q fun l _=>.q e (.a e e (.E e e (.t (Gh.frz (f:=encPair) (g:=encPair) (xs:=([]:List Pair)) 5096 (fun _=>e) e) (.ro [0,1,2] [0,5096] [] [5096] [0] [0]))) (.st e (Ev.bsW (ys:=([]:List Pair)) (f:=encPair) e .nil e e e e e) e (.B fun c y=>.st e (Ev.apW (f:=encPair) (ontoW e e e) (addsW e e e (fun _=>e)) e bt79 e y) e (.q e (.a e e (.B fun _ v=>.stz e (EvZ.frz (f:=encPair) (g:=encPair) (xs:=c) 29704 (fun _=>e) e (.mk (Ev.call [17400] [] 0 (sy v) e e (.cons (.share e (shareW _ e)) (.d1 (.cons (.sl e) .nil))) e (.inl e) e e))) e (.q e (.q e (.a e e (.E e e (.t (Gh.frz (f:=encPair) (g:=encPair) (xs:=([]:List Pair)) 5096 (fun _=>e) e) (.ro [0,1,2] [0,5096] [] [5096] [0] [0]))) (.c0 e i q fun _ _=>.a e e (.E e e (.t (Gh.frz (f:=encPair) (g:=encPair) (xs:=([]:List Pair)) 5096 (fun _=>e) e) (.ro [0,1,2] [0,5096] [] [5096] [0] [0]))) (.E e e (.ro [0,1,2] [0] [] [] [0] [0]))))))) (.j e (fun p=>[(1,VI m),(5,.ptr 1 0),(9,.sl 2 79 0 (([]:List Pair).length)),(10,.sl 3 285 0 l.1.length),(12,.sl 4 79 0 c.length),(14,VI p)]) (fun p=>[(0,.vec 79 (d.map encPair)),(1,.box [VI b.Op,VI b.Session,VI b.Seq,VS b.Key,VS b.Value,VS b.Old]),(2,.vec 79 (([]:List Pair).map encPair)),(3,.vec 285 (l.1.map encTl15State)),(4,.vec 79 (c.map encPair))]) (fun _=>.L2 e (fun s o=>[(1,VI m),(5,.ptr 1 0),(9,.sl 2 79 0 (([]:List Pair).length)),(10,.sl 3 285 0 l.1.length),(12,.sl 4 79 0 c.length),(14,VI s),(15,VI o)]) (fun s o=>[(0,.vec 79 (d.map encPair)),(1,.box [VI b.Op,VI b.Session,VI b.Seq,VS b.Key,VS b.Value,VS b.Old]),(2,.vec 79 (([]:List Pair).map encPair)),(3,.vec 285 (l.1.map encTl15State)),(4,.vec 79 (c.map encPair))]) (.k [1,5,9,10,12,14,15] [0,1000,5096,17400,29704]) fun _ s o _ z=>.q e (.a e e (.j e (fun u=>[(1,VI m),(5,.ptr 1 0),(9,.sl 2 79 0 (([]:List Pair).length)),(10,.sl 3 285 0 l.1.length),(12,.sl 4 79 0 c.length),(14,VI u),(15,VI o)]) (fun u=>[(0,.vec 79 (d.map encPair)),(1,.box [VI b.Op,VI b.Session,VI b.Seq,VS b.Key,VS b.Value,VS b.Old]),(2,.vec 79 (([]:List Pair).map encPair)),(3,.vec 285 (l.1.map encTl15State)),(4,.vec 79 (c.map encPair))]) (fun _=>.B fun _ w=>.st e (Ev.iaW e e e w) e (.st e (Ev.ldE (f:=encTl15State) e e (at_some w).2 e e e) e (.dn e (.a e e (.J e (.k [1,5,9,10,12,14,15] [0,1,2,3,4])) (.J e (.k [1,5,9,10,12,14,15] [0,1,2,3,4])))))) fun u=>.R e (fun h=>⟨_,_,h,e,e⟩) (.k [1,5,9,10,12,14,15] [0,1,2,3,4])) (.X z e e (.n e (.J e (.k [1,5,9,10,12,14] [0,1,2,3,4])))))) fun p=>.q e (.a e e (.E e e (.t (Gh.frz (f:=encPair) (g:=encPair) (xs:=c) 4 (fun _=>e) e) (.ro [0,1,2] [0,4] [] [4] [0] [0]))) (.B fun _ x=>.st e (Ev.iaW e e e x) e (.st e (Ev.ldE (f:=encTl15State) e e (at_some x).2 e e e) e (.q e (.a e e (.E e e (.t (Gh.frz (f:=encPair) (g:=encPair) (xs:=c) 4 (fun _=>e) e) (.ro [0,1,2] [0,4] [] [4] [0] [0]))) (.q e (.a e e (.dn e (.E e e (.t (Gh.frz (f:=encPair) (g:=encPair) (xs:=c) 4 (fun _=>e) e) (.ro [0,1,2] [0,4] [] [4] [0] [0])))) (.q e (.a e e (.E e e (.t (Gh.frz (f:=encPair) (g:=encPair) (xs:=c) 4 (fun _=>e) e) (.ro [0,1,2] [0,4] [] [4] [0] [0]))) (.f [4] [] 1 e i q fun _ _=>.c0 e i q fun _ _=>.c0 e i q fun _ _=>.f (hp:=(.cons (.borrow e (by decide) lw) (.d2 .nil))) (hcase:=fun _=>(.inr ⟨rfl,ownL_root ⟨own_rows (fun _=>e) _,trivial⟩⟩)) [] [119816] 1 e i q fun a0 _=>.dn e (.q e (.f (hp:=(.cons (.borrow e (by decide) lw) .nil)) (hcase:=fun _=>(.inr ⟨rfl,ownL_root trivial⟩)) [] [136264] 0 e i q fun _ _=>.a e e (.E e e (.t (Gh.frz (f:=encPair) (g:=encPair) (xs:=([]:List Pair)) 2 (fun _=>e) e) (.ro [0,1,2] [0,2] [] [2] [0] [0]))) (.E e e (.t (Gh.frz (f:=encPair) (g:=encPair) (xs:=a0) 136264 (fun _=>e) e) (.ro [0,1,2] [0,136264] [] [136264] [0] [0])))))))))))))))))))))))))))
def s_Fold_l2 (N:Nat)(b:List Applied)(c:Int):Nat→Int→Int→Option (Int)
 |0,_,_=>none
 |m+1,d,a=>
 (if decide (a≥0)=true then
 joinP (fun(g:Int)=>
 s_Fold_l2 N b c m g (w64 (a-1))) fun f=>
 (at? b a).bind fun h=>
 (if(h.Index==c)=true then
 f a
 else
 f d)
 else
 some d)
def s_Fold_l1 (N:Nat)(a:List Applied)(c:Int):Nat→(List Pair)→Int→Option (((List Pair)×Bool)⊕((List Pair)))
 |0,_,_=>none
 |m+1,d,b=>
 (if decide (b≤c)=true then
 joinP (fun(g:List Pair)=>
 s_Fold_l1 N a c m g (w64 (b+1))) fun h=>
 joinP (fun(f:Int)=>
 (if decide (f<0)=true then
 some (Sum.inl (([]:List Pair),false))
 else
 (at? a f).bind fun j=>
 (s_l17Acted N d b j.Entry).bind fun k=>
 h k.1)) fun l=>
 (s_Fold_l2 N a b N (-1:Int) (w64 ((a.length:Int)-1))).bind (fun n=>l n)
 else
 some (Sum.inr d))
def s_Fold (N:Nat)(a:List Applied)(b:Int):Option ((List Pair)×Bool):=
 (s_l01In N b 0 100000).bind fun c=>
 (if(!c)=true then
 some (([]:List Pair),false)
 else
 (if decide ((a.length:Int)>400)=true then
 some (([]:List Pair),false)
 else
 joinP (fun(d:List Pair)=>
 (cat? ([]:List Pair) d).bind fun f=>
 some (f,true)) fun g=>
 (s_Fold_l1 N a b N ([]:List Pair) 1).bind (Sum.elim (fun h=>some h) (fun(j:List Pair)=>g j))))
instance i125 (N:Nat)(b:List Applied)(c:Int):JG 22 (s_Fold N b c) [RO 102 (b.map encApplied),VI c] 0 [] (fun r=>.tup [.sl 0 79 0 r.1.length,VB r.2]) (fun r=>[(0,.vec 79 (r.1.map encPair))]):=.st e e Tryz.call22 fun B r=>.st e (Ev.bsW (ys:=([]:List Pair)) (f:=encPair) e .nil e e e e e) e (.q e (.q e (.c0 e i q fun _ _=>.a e e (.Ek [5096] e e e) (.st e (Ev.lnF e) e (.a e e (.Ek [5096] e e e) (.j e (fun o=>[(6,RO 79 (o.map encPair))]) (fun o=>[]) (fun _=>.L2 e (fun l d=>[(0,RO 102 (b.map encApplied)),(1,VI c),(6,RO 79 (l.map encPair)),(7,VI d)]) (fun l d=>[]) (.t (Gh.frz (f:=encPair) (g:=encPair) (xs:=([]:List Pair)) 5096 (fun _=>e) e) (.ro [0,1,6,7] [5096] [] [5096] [6] [])) fun _ l d _ x=>.q e (.a e e (.j e (fun p=>[(0,RO 102 (b.map encApplied)),(1,VI c),(6,RO 79 (p.map encPair)),(7,VI d)]) (fun p=>[]) (fun _=>.j e (fun s=>[(0,RO 102 (b.map encApplied)),(1,VI c),(6,RO 79 (l.map encPair)),(7,VI d),(8,VI s)]) (fun s=>[]) (fun _=>.st e (Ev.lnF e) e (.L2 e (fun u m=>[(0,RO 102 (b.map encApplied)),(1,VI c),(6,RO 79 (l.map encPair)),(7,VI d),(8,VI u),(9,VI m)]) (fun u m=>[]) (.k [0,1,6,7,8,9] []) fun _ u m _ y=>.q e (.a e e (.j e (fun w=>[(0,RO 102 (b.map encApplied)),(1,VI c),(6,RO 79 (l.map encPair)),(7,VI d),(8,VI w),(9,VI m)]) (fun w=>[]) (fun _=>.B fun _ v=>.st e (Ev.iaF e e v) e (.a e e (.J e (.k [0,1,6,7,8,9] [])) (.J e (.k [0,1,6,7,8,9] [])))) fun w=>.R e (fun h=>⟨_,_,h,e,e⟩) (.k [0,1,6,7,8,9] [])) (.X y e e (.n e (.J e (.k [0,1,6,7,8] []))))))) fun s=>.q e (.a e e (.st e (Ev.bsW (ys:=([]:List Pair)) (f:=encPair) e .nil e e e e e) e (.Xr x e e (.il (.e e (.Ek [58344] e e e))))) (.B fun _ z=>.st e (Ev.iaF e e z) e (.c0 e i q fun _ _=>.J e (.k [0,1,6,7] []))))) fun p=>.R e (fun h=>⟨_,_,h,e,e⟩) (.ro [0,1,6,7] [] [] [] [6] [])) (.X x e e (.ir (.n e (.J e (.k [6] []))))))) fun o=>.st e (Ev.bsW (ys:=([]:List Pair)) (f:=encPair) e .nil e e e e e) e (.B fun _ a0=>.st e (Ev.apW (f:=encPair) (ontoW e e e) (addsF e) e bt79 e a0) e (.Ek [66568] e e e))))))))
def s_Folded_l1 (N:Nat)(b:(List Pair)×Bool)(c:(List Pair)×Bool):Nat→Int→Option ((Bool)⊕(Unit))
 |0,_=>none
 |m+1,a=>
 (if decide (a<(b.1.length:Int))=true then
 (at? b.1 a).bind fun d=>
 (at? c.1 a).bind fun f=>
 (if((decide (d.Key=f.Key)&&(decide (d.Value=f.Value)&&true)) ^^ true)=true then
 some (Sum.inl false)
 else
 s_Folded_l1 N b c m (w64 (a+1)))
 else
 some (Sum.inr ()))
def s_Folded (N:Nat)(a:World)(f:Int):Option (Bool):=
 (s_l01In N f 1 (a.Servers.length:Int)).bind fun h=>
 (if(!h)=true then
 some false
 else
 (at? a.Servers (w64 (f-1))).bind fun g=>
 (s_OpenShelf N g.Disk).bind fun b=>
 (if(b.2.2 !=0)=true then
 some false
 else
 (s_ShelfMap N g.Disk b.1).bind fun c=>
 (s_Fold N a.Applied b.1.Stamp).bind fun d=>
 (if(!c.2)=true then
 some false
 else
 (if(!d.2)=true then
 some false
 else
 (if((c.1.length:Int)!=(d.1.length:Int))=true then
 some false
 else
 joinP (fun(l:Unit)=>
 some true) fun j=>
 (s_Folded_l1 N c d N 0).bind (Sum.elim (fun k=>some k) (fun(m:Unit)=>j ())))))))
instance i126 (N:Nat)(b:World)(d:Int):Sem Tryz.prog 6 (s_Folded N b d) [.agg [RO 4 (b.Up.map encB),RO 70 (b.Servers.map (encServer false)),RO 153 (b.Net.map (encMessage false)),RO 156 (b.Waits.map encWait),RO 160 (b.Leaders.map (encLeader false)),RO 102 (b.Applied.map encApplied),RO 165 (b.Replies.map encReply)],VI d] 0 [] (fun r=>VB r) (fun r=>[]):=.so s6 e Tryz.call6 fun B r=>.q e (.st e (Ev.lnF e) e (.c0 e i q fun _ _=>.a e e (.Ek [] e e e) (.B fun _ s=>.st e (Ev.iaF e e s) e (.f [] [] 4 e i q fun _ _=>.q e (.a e e (.Ek [] e e e) (.f (hp:=(.cons (.agg (.d1 .nil)) (.cons (.agg (.cons (.borrow e (by decide) lw) (.d2 (.d1 (.cons (.borrow e (by decide) lw) (.cons (.borrow e (by decide) lw) (.d1 .nil))))))) .nil))) (hcase:=fun _=>(.inr ⟨rfl,ownL_root ⟨own_rows (fun _=>e) _,trivial⟩⟩)) [] [17400,17401,17402] 1 e i q fun g _=>.c1 e i q fun l _=>.q e (.q e (.a e e (.Ek [] e e e) (.a e e (.Ek [] e e e) (.a e e (.Ek [] e e e) (.j e (fun _=>[]) (fun _=>[]) (fun _=>.L1 e (fun c=>[(9,.sl 0 79 0 g.1.length),(11,.sl 1 79 0 l.1.length),(13,VI c)]) (fun c=>[(0,.vec 79 (g.1.map encPair)),(1,.vec 79 (l.1.map encPair))]) (.k [9,11,13] [29704,33832]) fun _ c _ m=>.q e (.a e e (.q e (.B fun _ o=>.st e (Ev.iaW e e e o) e (.st e (Ev.ldE (f:=encPair) e e (at_some o).2 e e e) e (.B fun _ p=>.st e (Ev.iaW e e e p) e (.st e (Ev.ldE (f:=encPair) e e (at_some p).2 e e e) e (.dn e (.a e e (.Xr m e e (.il (.e e (.Ek [] e e e)))) (.R e (fun h=>⟨_,h,e,e⟩) (.k [9,11,13] [0,1]))))))))) (.X m e e (.ir (.n e (.J e (.k [] []))))))) fun _=>.Ek [] e e e)))))))))))
def s_Sound_l1 (N:Nat)(a:World):Nat→Bool→Int→Option (Bool)
 |0,_,_=>none
 |m+1,b,c=>
 (if decide (c<(a.Applied.length:Int))=true then
 (if b=true then
 (at? a.Applied c).bind fun d=>
 (s_Whole N a.Leaders d).bind fun f=>
 s_Sound_l1 N a m f (w64 (c+1))
 else
 some b)
 else
 some b)
def s_Sound_l2 (N:Nat)(a:World):Nat→Bool→Int→Option (Bool)
 |0,_,_=>none
 |m+1,b,c=>
 (if decide (c<(a.Servers.length:Int))=true then
 (if b=true then
 (s_Folded N a (w64 (c+1))).bind fun d=>
 s_Sound_l2 N a m d (w64 (c+1))
 else
 some b)
 else
 some b)
def s_Sound (N:Nat)(a:World):Option (Bool):=
 joinP (fun(c:Bool)=>
 joinP (fun(d:Bool)=>
 joinP (fun(f:Bool)=>
 some f) fun g=>
 (s_Sound_l2 N a N d 0).bind (fun h=>g h)) fun j=>
 (s_Sound_l1 N a N c 0).bind (fun k=>j k)) fun b=>
 (s_OneLeader N a.Leaders).bind fun l=>
 (if l=true then
 (s_SameApplied N a.Applied).bind fun m=>
 (if m=true then
 (s_Once N a.Replies).bind fun n=>
 b n
 else
 b false)
 else
 b false)
instance i127 (N:Nat)(b:World):JB 10 (s_Sound N b) [.agg [RO 4 (b.Up.map encB),RO 70 (b.Servers.map (encServer false)),RO 153 (b.Net.map (encMessage false)),RO 156 (b.Waits.map encWait),RO 160 (b.Leaders.map (encLeader false)),RO 102 (b.Applied.map encApplied),RO 165 (b.Replies.map encReply)]]:=.st e e Tryz.call10 fun B r=>.j e (fun c=>[(1,.ptr 0 0),(3,VB c)]) (fun c=>[(0,.box [RO 4 (b.Up.map encB),RO 70 (b.Servers.map (encServer false)),RO 153 (b.Net.map (encMessage false)),RO 156 (b.Waits.map encWait),RO 160 (b.Leaders.map (encLeader false)),RO 102 (b.Applied.map encApplied),RO 165 (b.Replies.map encReply)])]) (fun _=>.c0 e i q fun _ _=>.a e e (.c0 e i q fun _ _=>.a e e (.c0 e i q fun _ _=>.J e (.k [1,3] [1000])) (.J e (.k [1,3] [1000]))) (.J e (.k [1,3] [1000]))) fun c=>.j e (fun d=>[(1,.ptr 0 0),(3,VB d)]) (fun d=>[(0,.box [RO 4 (b.Up.map encB),RO 70 (b.Servers.map (encServer false)),RO 153 (b.Net.map (encMessage false)),RO 156 (b.Waits.map encWait),RO 160 (b.Leaders.map (encLeader false)),RO 102 (b.Applied.map encApplied),RO 165 (b.Replies.map encReply)])]) (fun _=>.L2 e (fun f g=>[(1,.ptr 0 0),(3,VB f),(4,VI g)]) (fun f g=>[(0,.box [RO 4 (b.Up.map encB),RO 70 (b.Servers.map (encServer false)),RO 153 (b.Net.map (encMessage false)),RO 156 (b.Waits.map encWait),RO 160 (b.Leaders.map (encLeader false)),RO 102 (b.Applied.map encApplied),RO 165 (b.Replies.map encReply)])]) (.k [1,3,4] [0]) fun _ f g _ p=>.q e (.q e (.st e (Ev.lnF e) e (.a e e (.a e e (.B fun _ t=>.st e (Ev.iaF e e t) e (.c0 e i q fun _ _=>.dn e (.R e (fun h=>⟨_,_,h,e,e⟩) (.k [1,3,4] [0])))) (.X p e e (.n e (.J e (.k [1,3] [0]))))) (.X p e e (.n e (.J e (.k [1,3] [0])))))))) fun d=>.j e (fun l=>[(3,VB l)]) (fun l=>[]) (fun _=>.L2 e (fun m o=>[(1,.ptr 0 0),(3,VB m),(5,VI o)]) (fun m o=>[(0,.box [RO 4 (b.Up.map encB),RO 70 (b.Servers.map (encServer false)),RO 153 (b.Net.map (encMessage false)),RO 156 (b.Waits.map encWait),RO 160 (b.Leaders.map (encLeader false)),RO 102 (b.Applied.map encApplied),RO 165 (b.Replies.map encReply)])]) (.k [1,3,5] [0]) fun _ m o _ s=>.q e (.q e (.st e (Ev.lnF e) e (.a e e (.a e e (.c0 e i q fun _ _=>.R e (fun h=>⟨_,_,h,e,e⟩) (.k [1,3,5] [0])) (.X s e e (.n e (.J e (.k [3] []))))) (.X s e e (.n e (.J e (.k [3] [])))))))) fun l=>.Ek [] e e e
def i_OneLeader_1 (N:Nat)(a:Leader)(b:Leader):Option (Bool):=
 (if(b.Term==a.Term)=true then
 some (b.Node !=a.Node)
 else
 some false)
instance i128 (N:Nat)(c:Leader)(b:Leader):JG 91 (i_OneLeader_1 N c b) [.agg [VI c.Node,VI c.Term,VI c.Log.Start,VI c.Log.StartTerm,RO 100 (c.Log.Entries.map encEntry)],.ptr 0 0] 1 [(0,.box [VI b.Node,VI b.Term,VI b.Log.Start,VI b.Log.StartTerm,RO 100 (b.Log.Entries.map encEntry)])] (fun r=>VB r) (fun r=>[(0,.box [VI b.Node,VI b.Term,VI b.Log.Start,VI b.Log.StartTerm,RO 100 (b.Log.Entries.map encEntry)])]):=.st e e Tryz.call91 fun B r=>.q e (.a e e (.Ek [0] e e e) (.Ek [0] e e e))
def L_IF_Leader_l1 (N:Nat)(b:List Leader)(c:Leader):Nat→Int→Option ((Int)⊕(Unit))
 |0,_=>none
 |m+1,a=>
 (if decide (a<(b.length:Int))=true then
 (at? b a).bind fun d=>
 (i_OneLeader_1 N d c).bind fun f=>
 (if f=true then
 some (Sum.inl a)
 else
 L_IF_Leader_l1 N b c m (w64 (a+1)))
 else
 some (Sum.inr ()))
def L_IF_Leader (N:Nat)(a:List Leader)(b:Leader):Option (Int):=
 joinP (fun(f:Unit)=>
 some (-1:Int)) fun c=>
 (L_IF_Leader_l1 N a b N 0).bind (Sum.elim (fun d=>some d) (fun(g:Unit)=>c ()))
instance i129 (N:Nat)(c:List Leader)(b:Leader):JG 159 (L_IF_Leader N c b) [RO 160 (c.map (encLeader false)),.fn 91 [.ptr 0 0]] 1 [(0,.box [VI b.Node,VI b.Term,VI b.Log.Start,VI b.Log.StartTerm,RO 100 (b.Log.Entries.map encEntry)])] (fun r=>VI r) (fun r=>[(0,.box [VI b.Node,VI b.Term,VI b.Log.Start,VI b.Log.StartTerm,RO 100 (b.Log.Entries.map encEntry)])]):=.st e e Tryz.call159 fun B r=>.j e (fun _=>[]) (fun _=>[(0,.box [VI b.Node,VI b.Term,VI b.Log.Start,VI b.Log.StartTerm,RO 100 (b.Log.Entries.map encEntry)])]) (fun _=>.st e (Ev.lnF e) e (.L1 e (fun d=>[(0,RO 160 (c.map (encLeader false))),(1,.fn 91 [.ptr 0 0]),(7,VI (c.length:Int)),(8,VI d)]) (fun d=>[(0,.box [VI b.Node,VI b.Term,VI b.Log.Start,VI b.Log.StartTerm,RO 100 (b.Log.Entries.map encEntry)])]) (.k [0,1,7,8] [0]) fun _ d _ f=>.q e (.a e e (.q e (.B fun _ g=>.st e (Ev.iaF e e g) e (.B fun _ l=>.st e (Ev.callx [0] [] 0 e (sy l) e e (.cons (.agg (.d4 (.d1 .nil))) (.cons (.ptr e) .nil)) e (.inl e) e e) e (.a e e (.Xr f e e (.il (.e e (.Ek [0] e e e)))) (.R e (fun h=>⟨_,h,e,e⟩) (.k [0,1,7,8] [0])))))) (.X f e e (.ir (.n e (.J e (.k [] [0])))))))) fun _=>.Ek [0] e e e
def L_CF_Leader (N:Nat)(a:List Leader)(b:Leader):Option (Bool):=
 (L_IF_Leader N a b).bind fun c=>
 some (decide (c≥0))
instance i130 (N:Nat)(b:List Leader)(a:Leader):JG 90 (L_CF_Leader N b a) [RO 160 (b.map (encLeader false)),.fn 91 [.ptr 0 0]] 1 [(0,.box [VI a.Node,VI a.Term,VI a.Log.Start,VI a.Log.StartTerm,RO 100 (a.Log.Entries.map encEntry)])] (fun r=>VB r) (fun r=>[(0,.box [VI a.Node,VI a.Term,VI a.Log.Start,VI a.Log.StartTerm,RO 100 (a.Log.Entries.map encEntry)])]):=.st e e Tryz.call90 fun B r=>.f [0] [] 0 e i q fun _ _=>.Ek [0] e e e
def i_OneLeader_l1 (N:Nat)(a:List Leader):Nat→Int→Option ((Bool)⊕(Unit))
 |0,_=>none
 |m+1,b=>
 (if decide (b<(a.length:Int))=true then
 (at? a b).bind fun c=>
 (take? a b).bind fun d=>
 (L_CF_Leader N d c).bind fun f=>
 (if f=true then
 some (Sum.inl false)
 else
 i_OneLeader_l1 N a m (w64 (b+1)))
 else
 some (Sum.inr ()))
def i_OneLeader (N:Nat)(a:List Leader):Option (Bool):=
 joinP (fun(d:Unit)=>
 some true) fun b=>
 (i_OneLeader_l1 N a N 0).bind (Sum.elim (fun c=>some c) (fun(f:Unit)=>b ()))
instance i131 (N:Nat)(b:List Leader):JB 46 (i_OneLeader N b) [RO 160 (b.map (encLeader false))]:=.st e e Tryz.call46 fun B r=>.j e (fun _=>[]) (fun _=>[]) (fun _=>.st e (Ev.lnF e) e (.L1 e (fun c=>[(0,RO 160 (b.map (encLeader false))),(5,RO 160 (b.map (encLeader false))),(6,VI (b.length:Int)),(7,VI c)]) (fun c=>[]) (.k [0,5,6,7] []) fun _ c _ d=>.q e (.a e e (.q e (.B fun _ g=>.st e (Ev.iaF e e g) e (.B fun _ l=>.st e (Ev.slFh e e l) e (.f [13336] [] 0 e i q fun _ _=>.a e e (.Xr d e e (.il (.e e (.Ek [] e e e)))) (.R e (fun h=>⟨_,h,e,e⟩) (.k [0,5,6,7] [])))))) (.X d e e (.ir (.n e (.J e (.k [] [])))))))) fun _=>.Ek [] e e e
def i_SameApplied_1 (N:Nat)(a:Applied)(b:Applied):Option (Bool):=
 (if(b.Index==a.Index)=true then
 some (((b.Entry.Term==a.Entry.Term)&&((b.Entry.Kind==a.Entry.Kind)&&(decide (b.Entry.Data=a.Entry.Data)&&true))) ^^ true)
 else
 some false)
instance i132 (N:Nat)(c:Applied)(b:Applied):Sem Tryz.prog 93 (i_SameApplied_1 N c b) [.agg [VI c.Node,VI c.Term,VI c.Index,VI c.Entry.Term,VI c.Entry.Kind,VS c.Entry.Data],.ptr 0 0] 1 [(0,.box [VI b.Node,VI b.Term,VI b.Index,VI b.Entry.Term,VI b.Entry.Kind,VS b.Entry.Data])] (fun r=>VB r) (fun r=>[(0,.box [VI b.Node,VI b.Term,VI b.Index,VI b.Entry.Term,VI b.Entry.Kind,VS b.Entry.Data])]):=.so s93 e Tryz.call93 fun B r=>.q e (.a e e (.Ek [0] e e e) (.Ek [0] e e e))
def L_IF_Applied_l1 (N:Nat)(b:List Applied)(c:Applied):Nat→Int→Option ((Int)⊕(Unit))
 |0,_=>none
 |m+1,a=>
 (if decide (a<(b.length:Int))=true then
 (at? b a).bind fun d=>
 (i_SameApplied_1 N d c).bind fun f=>
 (if f=true then
 some (Sum.inl a)
 else
 L_IF_Applied_l1 N b c m (w64 (a+1)))
 else
 some (Sum.inr ()))
def L_IF_Applied (N:Nat)(a:List Applied)(b:Applied):Option (Int):=
 joinP (fun(f:Unit)=>
 some (-1:Int)) fun c=>
 (L_IF_Applied_l1 N a b N 0).bind (Sum.elim (fun d=>some d) (fun(g:Unit)=>c ()))
instance i133 (N:Nat)(c:List Applied)(b:Applied):JG 79 (L_IF_Applied N c b) [RO 102 (c.map encApplied),.fn 93 [.ptr 0 0]] 1 [(0,.box [VI b.Node,VI b.Term,VI b.Index,VI b.Entry.Term,VI b.Entry.Kind,VS b.Entry.Data])] (fun r=>VI r) (fun r=>[(0,.box [VI b.Node,VI b.Term,VI b.Index,VI b.Entry.Term,VI b.Entry.Kind,VS b.Entry.Data])]):=.st e e Tryz.call79 fun B r=>.j e (fun _=>[]) (fun _=>[(0,.box [VI b.Node,VI b.Term,VI b.Index,VI b.Entry.Term,VI b.Entry.Kind,VS b.Entry.Data])]) (fun _=>.st e (Ev.lnF e) e (.L1 e (fun d=>[(0,RO 102 (c.map encApplied)),(1,.fn 93 [.ptr 0 0]),(7,VI (c.length:Int)),(8,VI d)]) (fun d=>[(0,.box [VI b.Node,VI b.Term,VI b.Index,VI b.Entry.Term,VI b.Entry.Kind,VS b.Entry.Data])]) (.k [0,1,7,8] [0]) fun _ d _ f=>.q e (.a e e (.q e (.B fun _ g=>.st e (Ev.iaF e e g) e (.B fun _ l=>.st e (Ev.callx [0] [] 0 e (sy l) e e (.cons (.agg (.d4 (.d2 .nil))) (.cons (.ptr e) .nil)) e (.inl e) e e) e (.a e e (.Xr f e e (.il (.e e (.Ek [0] e e e)))) (.R e (fun h=>⟨_,h,e,e⟩) (.k [0,1,7,8] [0])))))) (.X f e e (.ir (.n e (.J e (.k [] [0])))))))) fun _=>.Ek [0] e e e
def L_CF_Applied (N:Nat)(a:List Applied)(b:Applied):Option (Bool):=
 (L_IF_Applied N a b).bind fun c=>
 some (decide (c≥0))
instance i134 (N:Nat)(b:List Applied)(a:Applied):JG 92 (L_CF_Applied N b a) [RO 102 (b.map encApplied),.fn 93 [.ptr 0 0]] 1 [(0,.box [VI a.Node,VI a.Term,VI a.Index,VI a.Entry.Term,VI a.Entry.Kind,VS a.Entry.Data])] (fun r=>VB r) (fun r=>[(0,.box [VI a.Node,VI a.Term,VI a.Index,VI a.Entry.Term,VI a.Entry.Kind,VS a.Entry.Data])]):=.st e e Tryz.call92 fun B r=>.f [0] [] 0 e i q fun _ _=>.Ek [0] e e e
def i_SameApplied_l1 (N:Nat)(a:List Applied):Nat→Int→Option ((Bool)⊕(Unit))
 |0,_=>none
 |m+1,b=>
 (if decide (b<(a.length:Int))=true then
 (at? a b).bind fun c=>
 (take? a b).bind fun d=>
 (L_CF_Applied N d c).bind fun f=>
 (if f=true then
 some (Sum.inl false)
 else
 i_SameApplied_l1 N a m (w64 (b+1)))
 else
 some (Sum.inr ()))
def i_SameApplied (N:Nat)(a:List Applied):Option (Bool):=
 joinP (fun(d:Unit)=>
 some true) fun b=>
 (i_SameApplied_l1 N a N 0).bind (Sum.elim (fun c=>some c) (fun(f:Unit)=>b ()))
instance i135 (N:Nat)(b:List Applied):JB 47 (i_SameApplied N b) [RO 102 (b.map encApplied)]:=.st e e Tryz.call47 fun B r=>.j e (fun _=>[]) (fun _=>[]) (fun _=>.st e (Ev.lnF e) e (.L1 e (fun c=>[(0,RO 102 (b.map encApplied)),(5,RO 102 (b.map encApplied)),(6,VI (b.length:Int)),(7,VI c)]) (fun c=>[]) (.k [0,5,6,7] []) fun _ c _ d=>.q e (.a e e (.q e (.B fun _ g=>.st e (Ev.iaF e e g) e (.B fun _ l=>.st e (Ev.slFh e e l) e (.f [13336] [] 0 e i q fun _ _=>.a e e (.Xr d e e (.il (.e e (.Ek [] e e e)))) (.R e (fun h=>⟨_,h,e,e⟩) (.k [0,5,6,7] [])))))) (.X d e e (.ir (.n e (.J e (.k [] [])))))))) fun _=>.Ek [] e e e
def i_counts (N:Nat)(a:Reply):Option (Bool):=
 (if decide (a.Command.Session>0)=true then
 (if(!decide (a.Text=(⟨#[101,120,112,105,114,101,100]⟩:BA)))=true then
 (if(!decide (a.Text=(⟨#[115,116,97,108,101]⟩:BA)))=true then
 some (!decide (a.Text=(⟨#[103,97,112]⟩:BA)))
 else
 some false)
 else
 some false)
 else
 some false)
instance i136 (N:Nat)(b:Reply):JB 94 (i_counts N b) [.agg [VI b.Call,VI b.Index,VI b.Command.Op,VI b.Command.Session,VI b.Command.Seq,VS b.Command.Key,VS b.Command.Value,VS b.Command.Old,VS b.Text]]:=.st e e Tryz.call94 fun B r=>.q e (.a e e (.a e e (.a e e (.Ek [] e e e) (.Ek [] e e e)) (.Ek [] e e e)) (.Ek [] e e e))
def i_Once_1 (N:Nat)(a:Reply)(b:Reply):Option (Bool):=
 (i_counts N a).bind fun c=>
 (if c=true then
 (if(b.Command.Session==a.Command.Session)=true then
 (if(b.Command.Seq==a.Command.Seq)=true then
 some (!decide (b.Text=a.Text))
 else
 some false)
 else
 some false)
 else
 some false)
instance i137 (N:Nat)(c:Reply)(b:Reply):JG 96 (i_Once_1 N c b) [.agg [VI c.Call,VI c.Index,VI c.Command.Op,VI c.Command.Session,VI c.Command.Seq,VS c.Command.Key,VS c.Command.Value,VS c.Command.Old,VS c.Text],.ptr 0 0] 1 [(0,.box [VI b.Call,VI b.Index,VI b.Command.Op,VI b.Command.Session,VI b.Command.Seq,VS b.Command.Key,VS b.Command.Value,VS b.Command.Old,VS b.Text])] (fun r=>VB r) (fun r=>[(0,.box [VI b.Call,VI b.Index,VI b.Command.Op,VI b.Command.Session,VI b.Command.Seq,VS b.Command.Key,VS b.Command.Value,VS b.Command.Old,VS b.Text])]):=.st e e Tryz.call96 fun B r=>.q e (.c0 e i q fun _ _=>.a e e (.a e e (.a e e (.Ek [0] e e e) (.Ek [0] e e e)) (.Ek [0] e e e)) (.Ek [0] e e e))
def L_IF_Reply_l1 (N:Nat)(b:List Reply)(c:Reply):Nat→Int→Option ((Int)⊕(Unit))
 |0,_=>none
 |m+1,a=>
 (if decide (a<(b.length:Int))=true then
 (at? b a).bind fun d=>
 (i_Once_1 N d c).bind fun f=>
 (if f=true then
 some (Sum.inl a)
 else
 L_IF_Reply_l1 N b c m (w64 (a+1)))
 else
 some (Sum.inr ()))
def L_IF_Reply (N:Nat)(a:List Reply)(b:Reply):Option (Int):=
 joinP (fun(f:Unit)=>
 some (-1:Int)) fun c=>
 (L_IF_Reply_l1 N a b N 0).bind (Sum.elim (fun d=>some d) (fun(g:Unit)=>c ()))
instance i138 (N:Nat)(c:List Reply)(b:Reply):JG 160 (L_IF_Reply N c b) [RO 165 (c.map encReply),.fn 96 [.ptr 0 0]] 1 [(0,.box [VI b.Call,VI b.Index,VI b.Command.Op,VI b.Command.Session,VI b.Command.Seq,VS b.Command.Key,VS b.Command.Value,VS b.Command.Old,VS b.Text])] (fun r=>VI r) (fun r=>[(0,.box [VI b.Call,VI b.Index,VI b.Command.Op,VI b.Command.Session,VI b.Command.Seq,VS b.Command.Key,VS b.Command.Value,VS b.Command.Old,VS b.Text])]):=.st e e Tryz.call160 fun B r=>.j e (fun _=>[]) (fun _=>[(0,.box [VI b.Call,VI b.Index,VI b.Command.Op,VI b.Command.Session,VI b.Command.Seq,VS b.Command.Key,VS b.Command.Value,VS b.Command.Old,VS b.Text])]) (fun _=>.st e (Ev.lnF e) e (.L1 e (fun d=>[(0,RO 165 (c.map encReply)),(1,.fn 96 [.ptr 0 0]),(7,VI (c.length:Int)),(8,VI d)]) (fun d=>[(0,.box [VI b.Call,VI b.Index,VI b.Command.Op,VI b.Command.Session,VI b.Command.Seq,VS b.Command.Key,VS b.Command.Value,VS b.Command.Old,VS b.Text])]) (.k [0,1,7,8] [0]) fun _ d _ f=>.q e (.a e e (.q e (.B fun _ g=>.st e (Ev.iaF e e g) e (.B fun _ l=>.st e (Ev.callx [0] [] 0 e (sy l) e e (.cons (.agg (.d4 (.d4 (.d1 .nil)))) (.cons (.ptr e) .nil)) e (.inl e) e e) e (.a e e (.Xr f e e (.il (.e e (.Ek [0] e e e)))) (.R e (fun h=>⟨_,h,e,e⟩) (.k [0,1,7,8] [0])))))) (.X f e e (.ir (.n e (.J e (.k [] [0])))))))) fun _=>.Ek [0] e e e
def L_CF_Reply (N:Nat)(a:List Reply)(b:Reply):Option (Bool):=
 (L_IF_Reply N a b).bind fun c=>
 some (decide (c≥0))
instance i139 (N:Nat)(b:List Reply)(a:Reply):JG 95 (L_CF_Reply N b a) [RO 165 (b.map encReply),.fn 96 [.ptr 0 0]] 1 [(0,.box [VI a.Call,VI a.Index,VI a.Command.Op,VI a.Command.Session,VI a.Command.Seq,VS a.Command.Key,VS a.Command.Value,VS a.Command.Old,VS a.Text])] (fun r=>VB r) (fun r=>[(0,.box [VI a.Call,VI a.Index,VI a.Command.Op,VI a.Command.Session,VI a.Command.Seq,VS a.Command.Key,VS a.Command.Value,VS a.Command.Old,VS a.Text])]):=.st e e Tryz.call95 fun B r=>.f [0] [] 0 e i q fun _ _=>.Ek [0] e e e
def i_Once_l1 (N:Nat)(a:List Reply):Nat→Int→Option ((Bool)⊕(Unit))
 |0,_=>none
 |m+1,b=>
 (if decide (b<(a.length:Int))=true then
 (at? a b).bind fun c=>
 (i_counts N c).bind fun d=>
 (if(!d)=true then
 i_Once_l1 N a m (w64 (b+1))
 else
 (take? a b).bind fun f=>
 (L_CF_Reply N f c).bind fun g=>
 (if g=true then
 some (Sum.inl false)
 else
 i_Once_l1 N a m (w64 (b+1))))
 else
 some (Sum.inr ()))
def i_Once (N:Nat)(a:List Reply):Option (Bool):=
 joinP (fun(d:Unit)=>
 some true) fun b=>
 (i_Once_l1 N a N 0).bind (Sum.elim (fun c=>some c) (fun(f:Unit)=>b ()))
instance i140 (N:Nat)(b:List Reply):JB 48 (i_Once N b) [RO 165 (b.map encReply)]:=.st e e Tryz.call48 fun B r=>.j e (fun _=>[]) (fun _=>[]) (fun _=>.st e (Ev.lnF e) e (.L1 e (fun c=>[(0,RO 165 (b.map encReply)),(5,RO 165 (b.map encReply)),(6,VI (b.length:Int)),(7,VI c)]) (fun c=>[]) (.k [0,5,6,7] []) fun _ c _ d=>.q e (.a e e (.q e (.B fun _ g=>.st e (Ev.iaF e e g) e (.q e (.c0 e i q fun _ _=>.a e e (.R e (fun h=>⟨_,h,e,e⟩) (.k [0,5,6,7] [])) (.B fun _ l=>.st e (Ev.slFh e e l) e (.f [13336] [] 0 e i q fun _ _=>.a e e (.Xr d e e (.il (.e e (.Ek [] e e e)))) (.R e (fun h=>⟨_,h,e,e⟩) (.k [0,5,6,7] [])))))))) (.X d e e (.ir (.n e (.J e (.k [] [])))))))) fun _=>.Ek [] e e e
def i_within (N:Nat)(a:Int)(b:Int)(c:Int):Option (Bool):=
 (if decide (a≥b)=true then
 some (decide (a≤c))
 else
 some false)
instance i141 (N:Nat)(b:Int)(c:Int)(d:Int):JB 30 (i_within N b c d) [VI b,VI c,VI d]:=.st e e Tryz.call30 fun B r=>.q e (.a e e (.Ek [] e e e) (.Ek [] e e e))
def i_ConfOk_l1 (N:Nat)(b:List Int):Nat→Int→Option ((Bool)⊕(Unit))
 |0,_=>none
 |m+1,a=>
 (if decide (a<(b.length:Int))=true then
 (at? b a).bind fun c=>
 (i_within N c 1 4).bind fun d=>
 (if(!d)=true then
 some (Sum.inl false)
 else
 (if decide (a>0)=true then
 (at? b (w64 (a-1))).bind fun f=>
 (if decide (f≥c)=true then
 some (Sum.inl false)
 else
 i_ConfOk_l1 N b m (w64 (a+1)))
 else
 i_ConfOk_l1 N b m (w64 (a+1))))
 else
 some (Sum.inr ()))
def i_ConfOk_l1_r (N:Nat)(b:List Int):(List Int)→Int→Option ((Bool)⊕(Unit))
 |[],a=>
 some (Sum.inr ())
 |hd::tl,a=>
 (some hd).bind fun c=>
 (i_within N c 1 4).bind fun d=>
 (if(!d)=true then
 some (Sum.inl false)
 else
 (if decide (a>0)=true then
 (at? b (w64 (a-1))).bind fun f=>
 (if decide (f≥c)=true then
 some (Sum.inl false)
 else
 i_ConfOk_l1_r N b tl (w64 (a+1)))
 else
 i_ConfOk_l1_r N b tl (w64 (a+1))))
theorem i_ConfOk_l1_rng (N:Nat)(a:List Int)(hx:a.length≤1099511627776):∀(d k m:Nat),a.length=k+d→d<m→i_ConfOk_l1 N a m (k:Int)=i_ConfOk_l1_r N a (a.drop k) (k:Int):=by
 intro d
 induction d with
 |zero=>
  intro k m hd hm
  obtain⟨m,rfl⟩:∃q,m=q+1:=⟨m-1,by omega⟩
  rw[i_ConfOk_l1,IQ (by simp;omega),DN (by omega),i_ConfOk_l1_r]
 |succ d ih=>
  intro k m hd hm
  obtain⟨m,rfl⟩:∃q,m=q+1:=⟨m-1,by omega⟩
  have hk:k<a.length:=by omega
  rw[i_ConfOk_l1,IP (by simp;omega),DG hk,i_ConfOk_l1_r]
  have b:=at_lt hk
  have c:=WS (k:=k) (by omega)
  have f:=ih (k+1) m
  simp only[b,c,f (by omega) (by omega)]
theorem i_ConfOk_l1_eq {N:Nat}(a:List Int)(hx:a.length≤1099511627776)(hN:a.length<N):i_ConfOk_l1 N a N 0=i_ConfOk_l1_r N a a 0:=i_ConfOk_l1_rng N a hx a.length 0 N (by omega) hN
def i_ConfOk (N:Nat)(a:List Int):Option (Bool):=
 joinP (fun(f:Unit)=>
 (i_within N (a.length:Int) 1 4).bind fun b=>
 some b) fun c=>
 (i_ConfOk_l1 N a N 0).bind (Sum.elim (fun d=>some d) (fun(g:Unit)=>c ()))
instance i142 (N:Nat)(b:List Int):JB 196 (i_ConfOk N b) [RO 3 (b.map encI)]:=.st e e Tryz.call196 fun B r=>.j e (fun _=>[(0,RO 3 (b.map encI))]) (fun _=>[]) (fun _=>.st e (Ev.lnF e) e (.L1 e (fun c=>[(0,RO 3 (b.map encI)),(5,RO 3 (b.map encI)),(6,VI (b.length:Int)),(7,VI c)]) (fun c=>[]) (.k [0,5,6,7] []) fun _ c _ d=>.q e (.a e e (.q e (.B fun _ f=>.st e (Ev.iaF e e f) e (.q e (.c0 e i q fun _ _=>.a e e (.Xr d e e (.il (.e e (.Ek [] e e e)))) (.a e e (.B fun _ g=>.st e (Ev.iaF e e g) e (.a e e (.Xr d e e (.il (.e e (.Ek [] e e e)))) (.R e (fun h=>⟨_,h,e,e⟩) (.k [0,5,6,7] [])))) (.R e (fun h=>⟨_,h,e,e⟩) (.k [0,5,6,7] []))))))) (.X d e e (.ir (.n e (.J e (.k [0] [])))))))) fun _=>.st e (Ev.lnF e) e (.c0 e i q fun _ _=>.Ek [] e e e)
def i_ReadConf_l1 (N:Nat)(a:BA):Nat→Int→(List Int)→Option ((List Int))
 |0,_,_=>none
 |m+1,b,c=>
 (if decide (b<(a.size:Int))=true then
 (sat? a b).bind fun d=>
 (cat? c ([w64 (d)]:List Int)).bind fun f=>
 i_ReadConf_l1 N a m (w64 (b+1)) f
 else
 some c)
def i_ReadConf (N:Nat)(b:BA):Option ((List Int)×Bool):=
 joinP (fun(a:List Int)=>
 (i_ConfOk N a).bind fun c=>
 (if(!c)=true then
 some ([],false)
 else
 some (a,true))) fun d=>
 (i_ReadConf_l1 N b N 0 ([]:(List Int))).bind (fun f=>d f)
instance i143 (N:Nat)(d:BA):JG 257 (i_ReadConf N d) [VS d] 0 [] (fun r=>.tup [.sl 0 3 0 r.1.length,VB r.2]) (fun r=>[(0,.vec 3 (r.1.map encI))]):=.st e e Tryz.call257 fun B r=>.j e (fun b=>[(4,.sl 0 3 0 b.length)]) (fun b=>[(0,.vec 3 (b.map encI))]) (fun _=>.L2 e (fun g c=>[(0,VS d),(4,.sl 0 3 0 c.length),(5,VI g)]) (fun g c=>[(0,.vec 3 (c.map encI))]) (.n [0,4,5] [] [4] [] [10000000]) fun _ g c _ l=>.q e (.a e e (.B fun m o=>.st e (Ev.ixS e e o) e (.st e (Ev.bsW (ys:=([w64 (m)]:List Int)) (f:=encI) e (.d1 .nil) e e e e e) e (.B fun _ p=>.st e (Ev.apW (f:=encI) (ontoW e e e) (addsW e e e (fun _=>e)) e bt3 e p) e (.R e (fun h=>⟨_,_,h,e,e⟩) (.k [0,4,5] [21576]))))) (.X l e e (.n e (.J e (.k [4] [0])))))) fun b=>.q e (.f (hp:=(.cons (.borrow e (by decide) lw) .nil)) (hcase:=fun _=>(.inr ⟨rfl,ownL_root trivial⟩)) [] [0] 0 e i q fun _ _=>.a e e (.E e e (.n [0,1] [] [0] [] [10000000])) (.Ek [0] e e e))
def i_EntryOk (N:Nat)(a:Entry):Option (Bool):=
 (i_within N a.Term 0 100000).bind fun b=>
 (if(!b)=true then
 some false
 else
 (if(a.Kind==1)=true then
 some (decide (a.Data=(⟨#[]⟩:BA)))
 else
 (if(a.Kind==2)=true then
 (i_ReadConf N a.Data).bind fun c=>
 some c.2
 else
 (if(a.Kind==3)=true then
 some (decide ((a.Data.size:Int)≤120))
 else
 some false))))
instance i144 (N:Nat)(b:Entry):JB 221 (i_EntryOk N b) [.agg [VI b.Term,VI b.Kind,VS b.Data]]:=.st e e Tryz.call221 fun B r=>.q e (.c0 e i q fun _ _=>.a e e (.Ek [] e e e) (.q e (.a e e (.Ek [] e e e) (.a e e (.c1 e i q fun _ _=>.Ek [] e e e) (.a e e (.Ek [] e e e) (.Ek [] e e e))))))
def i_LogOk_l1 (N:Nat)(a:Log):Nat→Int→Int→Option ((Bool)⊕(Unit))
 |0,_,_=>none
 |m+1,d,b=>
 (if decide (b<(a.Entries.length:Int))=true then
 (at? a.Entries b).bind fun c=>
 (i_EntryOk N c).bind fun f=>
 (if(!f)=true then
 some (Sum.inl false)
 else
 (if decide (c.Term<d)=true then
 some (Sum.inl false)
 else
 i_LogOk_l1 N a m c.Term (w64 (b+1))))
 else
 some (Sum.inr ()))
def i_LogOk_l1_r (N:Nat)(d:Log):(List Entry)→Int→Int→Option ((Bool)⊕(Unit))
 |[],b,c=>
 some (Sum.inr ())
 |hd::tl,b,c=>
 (some hd).bind fun a=>
 (i_EntryOk N a).bind fun f=>
 (if(!f)=true then
 some (Sum.inl false)
 else
 (if decide (a.Term<b)=true then
 some (Sum.inl false)
 else
 i_LogOk_l1_r N d tl a.Term (w64 (c+1))))
theorem i_LogOk_l1_rng (N:Nat)(a:Log)(hx:a.Entries.length≤1099511627776):∀(d k m:Nat)(b:Int),a.Entries.length=k+d→d<m→i_LogOk_l1 N a m b (k:Int)=i_LogOk_l1_r N a (a.Entries.drop k) b (k:Int):=by
 intro d
 induction d with
 |zero=>
  intro k m b hd hm
  obtain⟨m,rfl⟩:∃q,m=q+1:=⟨m-1,by omega⟩
  rw[i_LogOk_l1,IQ (by simp;omega),DN (by omega),i_LogOk_l1_r]
 |succ d ih=>
  intro k m b hd hm
  obtain⟨m,rfl⟩:∃q,m=q+1:=⟨m-1,by omega⟩
  have hk:k<a.Entries.length:=by omega
  rw[i_LogOk_l1,IP (by simp;omega),DG hk,i_LogOk_l1_r]
  have c:=at_lt hk
  have f:=WS (k:=k) (by omega)
  have g:=ih (k+1) m
  simp only[c,f,g _ (by omega) (by omega)]
theorem i_LogOk_l1_eq {N:Nat}(a:Log)(hx:a.Entries.length≤1099511627776)(hN:a.Entries.length<N)(b:Int):i_LogOk_l1 N a N b 0=i_LogOk_l1_r N a a.Entries b 0:=i_LogOk_l1_rng N a hx a.Entries.length 0 N b (by omega) hN
def i_LogOk (N:Nat)(a:Log):Option (Bool):=
 (i_within N a.Start 0 100000).bind fun b=>
 (if(!b)=true then
 some false
 else
 (i_within N a.StartTerm 0 100000).bind fun c=>
 (if(!c)=true then
 some false
 else
 (if decide ((a.Entries.length:Int)>120)=true then
 some false
 else
 (if(decide ((w64 (a.Start+(a.Entries.length:Int)))>100000))=true then
 some false
 else
 joinP (fun(g:Unit)=>
 some true) fun d=>
 (i_LogOk_l1 N a N a.StartTerm 0).bind (Sum.elim (fun f=>some f) (fun(h:Unit)=>d ()))))))
instance i145 (N:Nat)(b:Log):JB 161 (i_LogOk N b) [.agg [VI b.Start,VI b.StartTerm,RO 100 (b.Entries.map encEntry)]]:=.st e e Tryz.call161 fun B r=>.q e (.q e (.c0 e i q fun _ _=>.a e e (.Ek [] e e e) (.c0 e i q fun _ _=>.a e e (.Ek [] e e e) (.st e (Ev.lnF e) e (.a e e (.Ek [] e e e) (.st e (Ev.lnF e) e (.a e e (.Ek [] e e e) (.j e (fun _=>[]) (fun _=>[]) (fun _=>.st e (Ev.lnF e) e (.L2 e (fun c d=>[(3,VI c),(34,RO 100 (b.Entries.map encEntry)),(35,VI (b.Entries.length:Int)),(36,VI d)]) (fun c d=>[]) (.k [3,34,35,36] []) fun _ c d _ f=>.q e (.a e e (.q e (.B fun _ g=>.st e (Ev.iaF e e g) e (.q e (.q e (.c0 e i q fun _ _=>.a e e (.Xr f e e (.il (.e e (.Ek [] e e e)))) (.a e e (.Xr f e e (.il (.e e (.Ek [] e e e)))) (.R e (fun h=>⟨_,_,h,e,e⟩) (.k [3,34,35,36] [])))))))) (.X f e e (.ir (.n e (.J e (.k [] [])))))))) fun _=>.Ek [] e e e))))))))
def i_hasEntry (N:Nat)(a:Log)(b:Int):Option (Bool):=
 (if decide (b>a.Start)=true then
 (i_within N (w64 (b-a.Start)) 1 (a.Entries.length:Int)).bind fun c=>
 some c
 else
 some false)
instance i146 (N:Nat)(b:Log)(c:Int):JB 162 (i_hasEntry N b c) [.agg [VI b.Start,VI b.StartTerm,RO 100 (b.Entries.map encEntry)],VI c]:=.st e e Tryz.call162 fun B r=>.q e (.a e e (.st e (Ev.lnF e) e (.c0 e i q fun _ _=>.Ek [] e e e)) (.Ek [] e e e))
def i_EntryAt (N:Nat)(a:Log)(b:Int):Option (Entry×Bool):=
 (i_LogOk N a).bind fun c=>
 (if(!c)=true then
 some ((Entry.mk 0 0 (⟨#[]⟩:BA)),false)
 else
 (i_hasEntry N a b).bind fun d=>
 (if(!d)=true then
 some ((Entry.mk 0 0 (⟨#[]⟩:BA)),false)
 else
 (at? a.Entries (w64 ((w64 (b-a.Start))-1))).bind fun f=>
 some (f,true)))
instance i147 (N:Nat)(b:Log)(c:Int):JG 98 (i_EntryAt N b c) [.agg [VI b.Start,VI b.StartTerm,RO 100 (b.Entries.map encEntry)],VI c] 0 [] (fun r=>.tup [.agg [VI r.1.Term,VI r.1.Kind,VS r.1.Data],VB r.2]) (fun r=>[]):=.st e e Tryz.call98 fun B r=>.q e (.q e (.c0 e i q fun _ _=>.a e e (.Ek [] e e e) (.c0 e i q fun _ _=>.a e e (.Ek [] e e e) (.B fun _ d=>.st e (Ev.iaF e e d) e (.Ek [] e e e)))))
def i_Whole_1 (N:Nat)(c:Leader)(a:Applied):Option (Bool):=
 (i_EntryAt N c.Log a.Index).bind fun b=>
 (if decide (c.Term>a.Term)=true then
 (if decide (c.Log.Start<a.Index)=true then
 (if(!b.2)=true then
 some true
 else
 some (((b.1.Term==a.Entry.Term)&&((b.1.Kind==a.Entry.Kind)&&(decide (b.1.Data=a.Entry.Data)&&true))) ^^ true))
 else
 some false)
 else
 some false)
instance i148 (N:Nat)(c:Leader)(b:Applied):Sem Tryz.prog 97 (i_Whole_1 N c b) [.agg [VI c.Node,VI c.Term,VI c.Log.Start,VI c.Log.StartTerm,RO 100 (c.Log.Entries.map encEntry)],.ptr 0 0] 1 [(0,.box [VI b.Node,VI b.Term,VI b.Index,VI b.Entry.Term,VI b.Entry.Kind,VS b.Entry.Data])] (fun r=>VB r) (fun r=>[(0,.box [VI b.Node,VI b.Term,VI b.Index,VI b.Entry.Term,VI b.Entry.Kind,VS b.Entry.Data])]):=.so s97 e Tryz.call97 fun B r=>.c0 e i q fun _ _=>.q e (.a e e (.a e e (.a e e (.Ek [0] e e e) (.Ek [0] e e e)) (.Ek [0] e e e)) (.Ek [0] e e e))
def L_IF_Leader_i1_l1 (N:Nat)(b:List Leader)(c:Applied):Nat→Int→Option ((Int)⊕(Unit))
 |0,_=>none
 |m+1,a=>
 (if decide (a<(b.length:Int))=true then
 (at? b a).bind fun d=>
 (i_Whole_1 N d c).bind fun f=>
 (if f=true then
 some (Sum.inl a)
 else
 L_IF_Leader_i1_l1 N b c m (w64 (a+1)))
 else
 some (Sum.inr ()))
def L_IF_Leader_i1 (N:Nat)(a:List Leader)(b:Applied):Option (Int):=
 joinP (fun(f:Unit)=>
 some (-1:Int)) fun c=>
 (L_IF_Leader_i1_l1 N a b N 0).bind (Sum.elim (fun d=>some d) (fun(g:Unit)=>c ()))
instance i149 (N:Nat)(c:List Leader)(b:Applied):JG 159 (L_IF_Leader_i1 N c b) [RO 160 (c.map (encLeader false)),.fn 97 [.ptr 0 0]] 1 [(0,.box [VI b.Node,VI b.Term,VI b.Index,VI b.Entry.Term,VI b.Entry.Kind,VS b.Entry.Data])] (fun r=>VI r) (fun r=>[(0,.box [VI b.Node,VI b.Term,VI b.Index,VI b.Entry.Term,VI b.Entry.Kind,VS b.Entry.Data])]):=.st e e Tryz.call159 fun B r=>.j e (fun _=>[]) (fun _=>[(0,.box [VI b.Node,VI b.Term,VI b.Index,VI b.Entry.Term,VI b.Entry.Kind,VS b.Entry.Data])]) (fun _=>.st e (Ev.lnF e) e (.L1 e (fun d=>[(0,RO 160 (c.map (encLeader false))),(1,.fn 97 [.ptr 0 0]),(7,VI (c.length:Int)),(8,VI d)]) (fun d=>[(0,.box [VI b.Node,VI b.Term,VI b.Index,VI b.Entry.Term,VI b.Entry.Kind,VS b.Entry.Data])]) (.k [0,1,7,8] [0]) fun _ d _ f=>.q e (.a e e (.q e (.B fun _ g=>.st e (Ev.iaF e e g) e (.B fun _ l=>.st e (Ev.callx [0] [] 0 e (sy l) e e (.cons (.agg (.d4 (.d1 .nil))) (.cons (.ptr e) .nil)) e (.inl e) e e) e (.a e e (.Xr f e e (.il (.e e (.Ek [0] e e e)))) (.R e (fun h=>⟨_,h,e,e⟩) (.k [0,1,7,8] [0])))))) (.X f e e (.ir (.n e (.J e (.k [] [0])))))))) fun _=>.Ek [0] e e e
def L_CF_Leader_i1 (N:Nat)(a:List Leader)(b:Applied):Option (Bool):=
 (L_IF_Leader_i1 N a b).bind fun c=>
 some (decide (c≥0))
instance i150 (N:Nat)(b:List Leader)(a:Applied):JG 90 (L_CF_Leader_i1 N b a) [RO 160 (b.map (encLeader false)),.fn 97 [.ptr 0 0]] 1 [(0,.box [VI a.Node,VI a.Term,VI a.Index,VI a.Entry.Term,VI a.Entry.Kind,VS a.Entry.Data])] (fun r=>VB r) (fun r=>[(0,.box [VI a.Node,VI a.Term,VI a.Index,VI a.Entry.Term,VI a.Entry.Kind,VS a.Entry.Data])]):=.st e e Tryz.call90 fun B r=>.f [0] [] 0 e i q fun _ _=>.Ek [0] e e e
def i_Whole (N:Nat)(a:List Leader)(b:Applied):Option (Bool):=
 (L_CF_Leader_i1 N a b).bind fun c=>
 some (!c)
instance i151 (N:Nat)(b:List Leader)(a:Applied):JB 49 (i_Whole N b a) [RO 160 (b.map (encLeader false)),.agg [VI a.Node,VI a.Term,VI a.Index,VI a.Entry.Term,VI a.Entry.Kind,VS a.Entry.Data]]:=.st e e Tryz.call49 fun B r=>.f [1000] [] 0 e i q fun _ _=>.Ek [] e e e
def i_DiskOk_l1 (N:Nat)(b:Disk):Nat→Int→Option ((Bool)⊕(Unit))
 |0,_=>none
 |m+1,a=>
 (if decide (a<(b.Files.length:Int))=true then
 (at? b.Files a).bind fun c=>
 (i_within N (c.Name.size:Int) 1 12).bind fun d=>
 (if(!d)=true then
 some (Sum.inl false)
 else
 (if decide ((c.Text.size:Int)>20000)=true then
 some (Sum.inl false)
 else
 (if decide (a>0)=true then
 (at? b.Files (w64 (a-1))).bind fun f=>
 (if(!Op.bytesLess f.Name.toList c.Name.toList)=true then
 some (Sum.inl false)
 else
 i_DiskOk_l1 N b m (w64 (a+1)))
 else
 i_DiskOk_l1 N b m (w64 (a+1)))))
 else
 some (Sum.inr ()))
def i_DiskOk (N:Nat)(a:Disk):Option (Bool):=
 joinP (fun(d:Unit)=>
 some (decide ((a.Files.length:Int)≤30))) fun b=>
 (i_DiskOk_l1 N a N 0).bind (Sum.elim (fun c=>some c) (fun(f:Unit)=>b ()))
instance i152 (N:Nat)(b:Disk):JB 70 (i_DiskOk N b) [.agg [RO 141 (b.Files.map encFile)]]:=.st e e Tryz.call70 fun B r=>.j e (fun _=>[(1,.ptr 0 0)]) (fun _=>[(0,.box [RO 141 (b.Files.map encFile)])]) (fun _=>.st e (Ev.lnF e) e (.L1 e (fun d=>[(1,.ptr 0 0),(6,RO 141 (b.Files.map encFile)),(7,VI (b.Files.length:Int)),(8,VI d)]) (fun d=>[(0,.box [RO 141 (b.Files.map encFile)])]) (.k [1,6,7,8] [1000]) fun _ d _ c=>.q e (.a e e (.q e (.B fun _ f=>.st e (Ev.iaF e e f) e (.q e (.c0 e i q fun _ _=>.a e e (.dn e (.Xr c e e (.il (.e e (.Ek [] e e e))))) (.a e e (.dn e (.Xr c e e (.il (.e e (.Ek [] e e e))))) (.a e e (.B fun _ g=>.st e (Ev.iaF e e g) e (.dn e (.a e e (.Xr c e e (.il (.e e (.Ek [] e e e)))) (.R e (fun h=>⟨_,h,e,e⟩) (.k [1,6,7,8] [0]))))) (.dn e (.R e (fun h=>⟨_,h,e,e⟩) (.k [1,6,7,8] [0]))))))))) (.X c e e (.ir (.n e (.J e (.k [1] [0])))))))) fun _=>.st e (Ev.lnF e) e (.Ek [] e e e)
def S_Compare (N:Nat)(a:BA)(b:BA):Option (Int):=some (Lib.compareBytes a.data.toList b.data.toList)
instance i153 (N:Nat)(a:BA)(b:BA):Sem Tryz.prog 143 (S_Compare N a b) [VS a,VS b] 0 [] (fun r=>VI r) (fun r=>[]):=⟨fun r h=>says_compare Tryz.call143 Go.Proofs.Tryz.strings_Compare h⟩
def i_fileNo_1 (N:Nat)(a:File)(b:BA):Option (Int):=
 (S_Compare N a.Name b).bind fun c=>
 some c
instance i154 (N:Nat)(a:File)(b:BA):JI 193 (i_fileNo_1 N a b) [.agg [VS a.Name,VS a.Text],VS b]:=.st e e Tryz.call193 fun B r=>.c0 e i q fun _ _=>.Ek [] e e e
def L_BF_string_l1 (N:Nat)(b:List File)(c:BA):Nat→Int→Int→Option (Int)
 |0,_,_=>none
 |m+1,a,d=>
 (if decide (a<d)=true then
 (intSh .shr .u64 (IntKind.wrap .u64 (w64 (a+d))) 1).bind fun f=>
 (at? b (w64 (f))).bind fun g=>
 (i_fileNo_1 N g c).bind fun h=>
 (if decide (h<0)=true then
 L_BF_string_l1 N b c m (w64 ((w64 (f))+1)) d
 else
 L_BF_string_l1 N b c m a (w64 (f)))
 else
 some a)
def L_BF_string (N:Nat)(a:List File)(c:BA):Option (Int×Bool):=
 joinP (fun(b:Int)=>
 (if decide (b<(a.length:Int))=true then
 (at? a b).bind fun d=>
 (i_fileNo_1 N d c).bind fun f=>
 some (b,(f==0))
 else
 some (b,false))) fun g=>
 (L_BF_string_l1 N a c N 0 (a.length:Int)).bind (fun h=>g h)
instance i155 (N:Nat)(b:List File)(c:BA):JG 192 (L_BF_string N b c) [RO 141 (b.map encFile),VS c,.fn 193 []] 0 [] (fun r=>.tup [VI r.1,VB r.2]) (fun r=>[]):=.st e e Tryz.call192 fun B r=>.st e (Ev.lnF e) e (.j e (fun d=>[(0,RO 141 (b.map encFile)),(1,VS c),(2,.fn 193 []),(8,VI (b.length:Int)),(9,VI d)]) (fun d=>[]) (fun _=>.L2 e (fun f g=>[(0,RO 141 (b.map encFile)),(1,VS c),(2,.fn 193 []),(8,VI (b.length:Int)),(9,VI f),(10,VI g)]) (fun f g=>[]) (.k [0,1,2,8,9,10] []) fun _ f g _ l=>.q e (.a e e (.B fun _ m=>.st e (.sh e e m) e (.B fun _ o=>.st e (Ev.iaF e e o) e (.B fun _ p=>.st e (Ev.callx [] [] 0 e (sy p) e e (.cons (.agg (.d2 .nil)) (.d1 .nil)) e (.inl e) e e) e (.a e e (.R e (fun h=>⟨_,_,h,e,e⟩) (.k [0,1,2,8,9,10] [])) (.R e (fun h=>⟨_,_,h,e,e⟩) (.k [0,1,2,8,9,10] [])))))) (.X l e e (.n e (.J e (.k [0,1,2,8,9] [])))))) fun d=>.q e (.a e e (.B fun _ s=>.st e (Ev.iaF e e s) e (.B fun _ t=>.st e (Ev.callx [] [] 0 e (sy t) e e (.cons (.agg (.d2 .nil)) (.d1 .nil)) e (.inl e) e e) e (.Ek [] e e e))) (.Ek [] e e e)))
def i_fileNo (N:Nat)(b:Disk)(c:BA):Option (Int×Bool):=
 (L_BF_string N b.Files c).bind fun a=>
 some (a.1,a.2)
instance i156 (N:Nat)(a:Disk)(b:BA):JG 125 (i_fileNo N a b) [.agg [RO 141 (a.Files.map encFile)],VS b] 0 [] (fun r=>.tup [VI r.1,VB r.2]) (fun r=>[]):=.st e e Tryz.call125 fun B r=>.c0 e i q fun _ _=>.Ek [] e e e
def i_FileAt (N:Nat)(a:Disk)(c:BA):Option (BA×Bool):=
 (i_DiskOk N a).bind fun d=>
 (if(!d)=true then
 some ((⟨#[]⟩:BA),false)
 else
 (i_fileNo N a c).bind fun b=>
 (if(!b.2)=true then
 some ((⟨#[]⟩:BA),false)
 else
 (at? a.Files b.1).bind fun f=>
 some (f.Text,true)))
instance i157 (N:Nat)(b:Disk)(c:BA):JG 71 (i_FileAt N b c) [.agg [RO 141 (b.Files.map encFile)],VS c] 0 [] (fun r=>.tup [VS r.1,VB r.2]) (fun r=>[]):=.st e e Tryz.call71 fun B r=>.q e (.c0 e i q fun _ _=>.a e e (.Ek [] e e e) (.c0 e i q fun _ _=>.q e (.a e e (.Ek [] e e e) (.B fun _ d=>.st e (Ev.iaF e e d) e (.Ek [] e e e)))))
def i_SumMore_l2 (N:Nat):Nat→Int→Int→Option (Int)
 |0,_,_=>none
 |m+1,a,b=>
 (if decide (b<8)=true then
 joinP (fun(f:Int)=>
 i_SumMore_l2 N m f (w64 (b+1))) fun c=>
 (intD .rem .u32 a 2).bind fun g=>
 (intD .quo .u32 a 2).bind fun d=>
 (if(g==1)=true then
 (intD .xor .u32 d 3558460437).bind fun h=>
 c h
 else
 c d)
 else
 some a)
def i_SumMore_l1 (N:Nat)(a:BA):Nat→Int→Int→Option (Int)
 |0,_,_=>none
 |m+1,c,b=>
 (if decide (b<(a.size:Int))=true then
 joinP (fun(d:Int)=>
 i_SumMore_l1 N a m d (w64 (b+1))) fun f=>
 (sat? a b).bind fun g=>
 (intD .xor .u32 c (IntKind.wrap .u32 (g))).bind fun h=>
 (i_SumMore_l2 N N h 0).bind (fun j=>f j)
 else
 some c)
def i_SumMore (N:Nat)(a:Int)(b:BA):Option (Int):=
 joinP (fun(c:Int)=>
 some c) fun d=>
 (i_SumMore_l1 N b N a 0).bind (fun f=>d f)
instance i158 (N:Nat)(s:Int)(b:BA):JG 244 (i_SumMore N s b) [.c (.i .u32 s),VS b] 0 [] (fun r=>.c (.i .u32 r)) (fun r=>[]):=.st e e Tryz.call244 fun B r=>.j e (fun g=>[(0,.c (.i .u32 g))]) (fun g=>[]) (fun _=>.L2 e (fun l d=>[(0,.c (.i .u32 l)),(1,VS b),(5,VI d)]) (fun l d=>[]) (.k [0,1,5] []) fun _ l d _ t=>.q e (.a e e (.j e (fun m=>[(0,.c (.i .u32 m)),(1,VS b),(5,VI d)]) (fun m=>[]) (fun _=>.B fun _ u=>.st e (Ev.ixS e e u) e (.B fun _ w=>.st e (.bin e e w) e (.L2 e (fun o f=>[(0,.c (.i .u32 o)),(1,VS b),(5,VI d),(6,VI f)]) (fun o f=>[]) (.k [0,1,5,6] []) fun _ o f _ x=>.q e (.a e e (.j e (fun p=>[(0,.c (.i .u32 p)),(1,VS b),(5,VI d),(6,VI f)]) (fun p=>[]) (fun _=>.B fun _ y=>.st e (.bin e e y) e (.B fun _ v=>.st e (.bin e e v) e (.a e e (.B fun _ z=>.st e (.bin e e z) e (.J e (.k [0,1,5,6] []))) (.J e (.k [0,1,5,6] []))))) fun p=>.R e (fun h=>⟨_,_,h,e,e⟩) (.k [0,1,5,6] [])) (.X x e e (.n e (.J e (.k [0,1,5] [])))))))) fun m=>.R e (fun h=>⟨_,_,h,e,e⟩) (.k [0,1,5] [])) (.X t e e (.n e (.J e (.k [0] [])))))) fun g=>.Ek [] e e e
def i_SumOf (N:Nat)(a:BA):Option (Int):=
 (i_SumMore N 4294967295 a).bind fun b=>
 some b
instance i159 (N:Nat)(a:BA):JG 208 (i_SumOf N a) [VS a] 0 [] (fun r=>.c (.i .u32 r)) (fun r=>[]):=.st e e Tryz.call208 fun B r=>.c0 e i q fun _ _=>.Ek [] e e e
def i_Sealed (N:Nat)(b:BA):Option (BA×Bool):=
 (if decide ((b.size:Int)>20000)=true then
 some ((⟨#[]⟩:BA),false)
 else
 (i_SumOf N b).bind fun a=>
 (intSh .shr .u32 a 24).bind fun c=>
 (intSh .shr .u32 a 16).bind fun d=>
 (intSh .shr .u32 a 8).bind fun f=>
 (scat? b (strOf ([IntKind.wrap .u8 (c),IntKind.wrap .u8 (d),IntKind.wrap .u8 (f),IntKind.wrap .u8 (a)]:List Int))).bind fun g=>
 some (g,true))
instance i160 (N:Nat)(b:BA):JG 194 (i_Sealed N b) [VS b] 0 [] (fun r=>.tup [VS r.1,VB r.2]) (fun r=>[]):=.st e e Tryz.call194 fun B r=>.q e (.a e e (.Ek [] e e e) (.c0 e i q fun c _=>.B fun d g=>.st e (.sh e e g) e (.B fun h j=>.st e (.sh e e j) e (.B fun k l=>.st e (.sh e e l) e (.st e (Ev.bsW (ys:=([IntKind.wrap .u8 (d),IntKind.wrap .u8 (h),IntKind.wrap .u8 (k),IntKind.wrap .u8 (c)]:List Int)) (f:=encU) e (.d4 .nil) e e e e e) e (.st e (.sbC (addsW (f:=encU) e e e (fun _=>e))) e (.B fun _ m=>.st e (Ev.addS e e m) e (.Ek [] e e e))))))))
def i_Unsealed (N:Nat)(a:BA):Option (BA×Bool):=
 (if decide ((a.size:Int)<4)=true then
 some ((⟨#[]⟩:BA),false)
 else
 (stake? a (w64 ((a.size:Int)-4))).bind fun b=>
 (i_Sealed N b).bind fun c=>
 (if(!c.2)=true then
 some ((⟨#[]⟩:BA),false)
 else
 (if(!decide (c.1=a))=true then
 some ((⟨#[]⟩:BA),false)
 else
 some (b,true))))
instance i161 (N:Nat)(b:BA):JG 126 (i_Unsealed N b) [VS b] 0 [] (fun r=>.tup [VS r.1,VB r.2]) (fun r=>[]):=.st e e Tryz.call126 fun B r=>.q e (.a e e (.Ek [] e e e) (.B fun _ c=>.st e (Ev.ssH e e c) e (.q e (.c0 e i q fun _ _=>.q e (.a e e (.Ek [] e e e) (.a e e (.Ek [] e e e) (.Ek [] e e e)))))))
def i_VarText_l1 (N:Nat):Nat→Int→(List Int)→Option (Int×(List Int))
 |0,_,_=>none
 |m+1,a,b=>
 (if decide (a>127)=true then
 (intD .rem .i64 a 128).bind fun c=>
 (cat? b ([IntKind.wrap .u8 (w64 (c+128))]:List Int)).bind fun d=>
 (intD .quo .i64 a 128).bind fun f=>
 i_VarText_l1 N m f d
 else
 some (a,b))
def i_VarText (N:Nat)(a:Int):Option (BA×Bool):=
 (i_within N a 0 1000000000).bind fun d=>
 (if(!d)=true then
 some ((⟨#[]⟩:BA),false)
 else
 joinP (fun(b:Int×(List Int))=>
 (cat? b.2 ([IntKind.wrap .u8 (b.1)]:List Int)).bind fun f=>
 some (strOf f,true)) fun g=>
 (i_VarText_l1 N N a ([]:(List Int))).bind (fun c=>g (c.1,c.2)))
instance i162 (N:Nat)(g:Int):JG 207 (i_VarText N g) [VI g] 0 [] (fun r=>.tup [VS r.1,VB r.2]) (fun r=>[]):=.st e e Tryz.call207 fun B r=>.q e (.c0 e i q fun _ _=>.a e e (.Ek [] e e e) (.j e (fun b=>[(0,VI b.1),(4,.sl 0 5 0 b.2.length)]) (fun b=>[(0,.vec 5 (b.2.map encU))]) (fun _=>.L2 e (fun d c=>[(0,VI d),(4,.sl 0 5 0 c.length)]) (fun d c=>[(0,.vec 5 (c.map encU))]) (.n [0,4] [] [4] [] [10000000]) fun _ d c _ l=>.q e (.a e e (.B fun m o=>.st e (.bin e e o) e (.st e (Ev.bsW (ys:=([IntKind.wrap .u8 (w64 (m+128))]:List Int)) (f:=encU) e (.d1 .nil) e e e e e) e (.B fun _ p=>.st e (Ev.apW (f:=encU) (ontoW e e e) (addsW e e e (fun _=>e)) e bt5 e p) e (.B fun _ s=>.st e (.bin e e s) e (.R e (fun h=>⟨_,_,h,e,e⟩) (.k [0,4] [21576])))))) (.X l e e (.n e (.J e (.k [0,4] [0])))))) fun b=>.st e (Ev.bsW (ys:=([IntKind.wrap .u8 (b.1)]:List Int)) (f:=encU) e (.d1 .nil) e e e e e) e (.B fun _ t=>.st e (Ev.apW (f:=encU) (ontoW e e e) (addsW e e e (fun _=>e)) e bt5 e t) e (.st e (.sbC (addsW (f:=encU) e e e (fun _=>e))) e (.Ek [] e e e)))))
def i_ReadVar_l1 (N:Nat)(c:BA)(b:Int):Nat→Int→Int→Option ((Int×Int×Bool)⊕(Unit))
 |0,_,_=>none
 |m+1,d,a=>
 (if decide (a<5)=true then
 (if decide ((w64 (b+a))<(c.size:Int))=true then
 (sat? c (w64 (b+a))).bind fun g=>
 (intD .rem .i64 (w64 (g)) 128).bind fun j=>
 (intSh .shl .i64 j (w64 (7*a))).bind fun f=>
 (if decide ((w64 (g))<128)=true then
 (i_VarText N (w64 (d+f))).bind fun h=>
 (if(!h.2)=true then
 some (Sum.inl (0,0,false))
 else
 (if((h.1.size:Int)!=(w64 (a+1)))=true then
 some (Sum.inl (0,0,false))
 else
 some (Sum.inl (w64 (d+f),w64 ((w64 (b+a))+1),true))))
 else
 i_ReadVar_l1 N c b m (w64 (d+f)) (w64 (a+1)))
 else
 some (Sum.inr ()))
 else
 some (Sum.inr ()))
def i_ReadVar (N:Nat)(a:BA)(b:Int):Option (Int×Int×Bool):=
 (i_within N b 0 (a.size:Int)).bind fun c=>
 (if(!c)=true then
 some (0,0,false)
 else
 joinP (fun(g:Unit)=>
 some (0,0,false)) fun d=>
 (i_ReadVar_l1 N a b N 0 0).bind (Sum.elim (fun f=>some f) (fun(h:Unit)=>d ())))
instance i163 (N:Nat)(c:BA)(d:Int):JG 195 (i_ReadVar N c d) [VS c,VI d] 0 [] (fun r=>.tup [VI r.1,VI r.2.1,VB r.2.2]) (fun r=>[]):=.st e e Tryz.call195 fun B r=>.q e (.c0 e i q fun _ _=>.a e e (.Ek [] e e e) (.j e (fun _=>[]) (fun _=>[]) (fun _=>.L2 e (fun f g=>[(0,VS c),(1,VI d),(7,VI f),(8,VI g)]) (fun f g=>[]) (.k [0,1,7,8] []) fun _ f g _ b=>.q e (.q e (.a e e (.a e e (.q e (.B fun _ l=>.st e (Ev.ixS e e l) e (.B fun _ m=>.st e (.bin e e m) e (.B fun _ o=>.st e (.sh e e o) e (.a e e (.q e (.c0 e i q fun _ _=>.q e (.a e e (.Xr b e e (.il (.e e (.Ek [] e e e)))) (.a e e (.Xr b e e (.il (.e e (.Ek [] e e e)))) (.Xr b e e (.il (.e e (.Ek [] e e e)))))))) (.R e (fun h=>⟨_,_,h,e,e⟩) (.k [0,1,7,8] []))))))) (.X b e e (.ir (.n e (.J e (.k [] [])))))) (.X b e e (.ir (.n e (.J e (.k [] [])))))))) fun _=>.Ek [] e e e))
def r_num (N:Nat)(a:Treader):Option (Int×Treader):=
 (i_ReadVar N a.s a.at').bind fun b=>
 (if a.bad=true then
 some (0,(Treader.mk a.s a.at' true))
 else
 (if(!b.2.2)=true then
 some (0,(Treader.mk a.s a.at' true))
 else
 some (b.1,(Treader.mk a.s b.2.1 a.bad))))
instance i164 (N:Nat)(b:Treader):JG 129 (r_num N b) [.ptr 0 0] 1 [(0,.box [VS b.s,VI b.at',VB b.bad])] (fun r=>VI r.1) (fun r=>[(0,.box [VS r.2.s,VI r.2.at',VB r.2.bad])]):=.st e e Tryz.call129 fun B r=>.c0 e i q fun _ _=>.dn e (.q e (.q e (.a e e (.Ek [0] e e e) (.a e e (.Ek [0] e e e) (.Ek [0] e e e)))))
def i_ReadManifest_1 (N:Nat)(a:Manifest)(c:Treader):Option (Manifest×Treader):=
 (r_num N c).bind fun b=>
 (cat? a.Segs ([b.1]:List Int)).bind fun d=>
 some (({ a with Segs:=d }),b.2)
instance i165 (N:Nat)(a:Manifest)(b:Treader):JG 128 (i_ReadManifest_1 N a b) [.ptr 0 0,.ptr 1 0] 5 [(0,.box [.sl 2 3 0 a.Segs.length,VI a.Next,VI a.Base,VI a.BaseTerm,.sl 3 3 0 a.Conf.length]),(1,.box [.ptr 4 0]),(2,.vec 3 (a.Segs.map encI)),(3,.vec 3 (a.Conf.map encI)),(4,.box [VS b.s,VI b.at',VB b.bad])] (fun r=>.tup []) (fun r=>[(0,.box [.sl 5 3 0 r.1.Segs.length,VI r.1.Next,VI r.1.Base,VI r.1.BaseTerm,.sl 3 3 0 a.Conf.length]),(1,.box [.ptr 4 0]),(2,.gone),(3,.vec 3 (a.Conf.map encI)),(4,.box [VS r.2.s,VI r.2.at',VB r.2.bad]),(5,.vec 3 (r.1.Segs.map encI))]):=.st e e Tryz.call128 fun B r=>.f [4] [] 0 e i q fun c _=>.st e (Ev.bsW (ys:=([c.1]:List Int)) (f:=encI) e (.d1 .nil) e e e e e) e (.B fun _ d=>.st e (Ev.apW (f:=encI) (ontoW e e e) (addsW e e e (fun _=>e)) e bt3 e d) e (.dn e (.Ek [0,1,2,3,4,1080] e e e)))
def r_each_l1 (N:Nat)(k:Int×Treader):Nat→Int→BA→Int→Bool→Int→Int→Int→(List Int)→Option (BA×Int×Bool×Int×Int×Int×(List Int))
 |0,_,_,_,_,_,_,_,_=>none
 |m+1,l,c,d,b,f,g,h,j=>
 (if decide (l<k.1)=true then
 (if(!b)=true then
 (i_ReadManifest_1 N (Manifest.mk j f g h ([]:(List Int))) (Treader.mk c d b)).bind fun a=>
 r_each_l1 N k m (w64 (l+1)) a.2.s a.2.at' a.2.bad a.1.Next a.1.Base a.1.BaseTerm a.1.Segs
 else
 some (c,d,b,f,g,h,j))
 else
 some (c,d,b,f,g,h,j))
def r_each (N:Nat)(d:Treader)(c:Manifest):Option (Treader×Manifest):=
 (r_num N d).bind fun b=>
 (r_each_l1 N b N 0 b.2.s b.2.at' b.2.bad c.Next c.Base c.BaseTerm ([]:(List Int))).bind (fun a=>some ((Treader.mk a.1 a.2.1 a.2.2.1),(Manifest.mk a.2.2.2.2.2.2 a.2.2.2.1 a.2.2.2.2.1 a.2.2.2.2.2.1 ([]:(List Int)))))
instance i166 (N:Nat)(b:Treader)(c:Manifest):JG 127 (r_each N b c) [.ptr 0 0,.fn 128 [.ptr 1 0,.ptr 2 0]] 3 [(0,.box [VS b.s,VI b.at',VB b.bad]),(1,.box [NI 3,VI c.Next,VI c.Base,VI c.BaseTerm,NI 3]),(2,.box [.ptr 0 0])] (fun r=>.tup []) (fun r=>[(0,.box [VS r.1.s,VI r.1.at',VB r.1.bad]),(1,.box [.sl 3 3 0 r.2.Segs.length,VI r.2.Next,VI r.2.Base,VI r.2.BaseTerm,.sl 4 3 0 r.2.Conf.length]),(2,.box [.ptr 0 0]),(3,.vec 3 (r.2.Segs.map encI)),(4,.vec 3 (r.2.Conf.map encI))]):=.st e e Tryz.call127 fun B r=>.f [0] [] 0 e i q fun w _=>.L8 e (fun g j l m o p t d=>[(0,.ptr 0 0),(1,.fn 128 [.ptr 1 0,.ptr 2 0]),(4,VI w.1),(5,VI g)]) (fun g j l m o p t d=>[(0,.box [VS j,VI l,VB m]),(1,.box [.sl 3 3 0 d.length,VI o,VI p,VI t,.sl 4 3 0 (([]:(List Int)).length)]),(2,.box [.ptr 0 0]),(3,.vec 3 (d.map encI)),(4,.vec 3 (([]:(List Int)).map encI))]) (.n [0,1,4,5] [0,1,2] [] [1] [0,1,2,20000000,20000001]) fun _ g j l m o p t d _ u=>.q e (.q e (.a e e (.a e e (.B fun _ x=>.st e (Ev.callx [1,2,3,4,0] [] 1 e (sy x) e e (.cons (.ptr e) (.cons (.ptr e) .nil)) e (.inl e) e e) e (.R e (fun h=>⟨_,_,_,_,_,_,_,_,h,e,e⟩) (.k [0,1,4,5] [0,1,2,17400,4]))) (.X u e e (.n e (.Ek [0,1,2,3,4] e e e)))) (.X u e e (.n e (.Ek [0,1,2,3,4] e e e)))))
def i_ReadManifest_2 (N:Nat)(a:Manifest)(c:Treader):Option (Manifest×Treader):=
 (r_num N c).bind fun b=>
 (cat? a.Conf ([b.1]:List Int)).bind fun d=>
 some (({ a with Conf:=d }),b.2)
instance i167 (N:Nat)(a:Manifest)(b:Treader):JG 130 (i_ReadManifest_2 N a b) [.ptr 0 0,.ptr 1 0] 5 [(0,.box [.sl 2 3 0 a.Segs.length,VI a.Next,VI a.Base,VI a.BaseTerm,.sl 3 3 0 a.Conf.length]),(1,.box [.ptr 4 0]),(2,.vec 3 (a.Segs.map encI)),(3,.vec 3 (a.Conf.map encI)),(4,.box [VS b.s,VI b.at',VB b.bad])] (fun r=>.tup []) (fun r=>[(0,.box [.sl 2 3 0 a.Segs.length,VI r.1.Next,VI r.1.Base,VI r.1.BaseTerm,.sl 5 3 0 r.1.Conf.length]),(1,.box [.ptr 4 0]),(2,.vec 3 (a.Segs.map encI)),(3,.gone),(4,.box [VS r.2.s,VI r.2.at',VB r.2.bad]),(5,.vec 3 (r.1.Conf.map encI))]):=.st e e Tryz.call130 fun B r=>.f [4] [] 0 e i q fun c _=>.st e (Ev.bsW (ys:=([c.1]:List Int)) (f:=encI) e (.d1 .nil) e e e e e) e (.B fun _ d=>.st e (Ev.apW (f:=encI) (ontoW e e e) (addsW e e e (fun _=>e)) e bt3 e d) e (.dn e (.Ek [0,1,2,3,4,1080] e e e)))
def r_each_i1_l1 (N:Nat)(k:Manifest)(l:Int×Treader):Nat→Int→BA→Int→Bool→Int→Int→Int→(List Int)→Option (BA×Int×Bool×Int×Int×Int×(List Int))
 |0,_,_,_,_,_,_,_,_=>none
 |m+1,n,c,d,b,f,g,h,j=>
 (if decide (n<l.1)=true then
 (if(!b)=true then
 (i_ReadManifest_2 N (Manifest.mk k.Segs f g h j) (Treader.mk c d b)).bind fun a=>
 r_each_i1_l1 N k l m (w64 (n+1)) a.2.s a.2.at' a.2.bad a.1.Next a.1.Base a.1.BaseTerm a.1.Conf
 else
 some (c,d,b,f,g,h,j))
 else
 some (c,d,b,f,g,h,j))
def r_each_i1 (N:Nat)(d:Treader)(b:Manifest):Option (Treader×Manifest):=
 (r_num N d).bind fun c=>
 (r_each_i1_l1 N b c N 0 c.2.s c.2.at' c.2.bad b.Next b.Base b.BaseTerm b.Conf).bind (fun a=>some ((Treader.mk a.1 a.2.1 a.2.2.1),(Manifest.mk b.Segs a.2.2.2.1 a.2.2.2.2.1 a.2.2.2.2.2.1 a.2.2.2.2.2.2)))
instance i168 (N:Nat)(c:Treader)(b:Manifest):JG 127 (r_each_i1 N c b) [.ptr 0 0,.fn 130 [.ptr 1 0,.ptr 2 0]] 5 [(0,.box [VS c.s,VI c.at',VB c.bad]),(1,.box [.sl 3 3 0 b.Segs.length,VI b.Next,VI b.Base,VI b.BaseTerm,.sl 4 3 0 b.Conf.length]),(2,.box [.ptr 0 0]),(3,.vec 3 (b.Segs.map encI)),(4,.vec 3 (b.Conf.map encI))] (fun r=>.tup []) (fun r=>[(0,.box [VS r.1.s,VI r.1.at',VB r.1.bad]),(1,.box [.sl 5 3 0 r.2.Segs.length,VI r.2.Next,VI r.2.Base,VI r.2.BaseTerm,.sl 6 3 0 r.2.Conf.length]),(2,.box [.ptr 0 0]),(3,.gone),(4,.gone),(5,.vec 3 (r.2.Segs.map encI)),(6,.vec 3 (r.2.Conf.map encI))]):=.st e e Tryz.call127 fun B r=>.f [0] [] 0 e i q fun w _=>.L8 e (fun g j l m o p t d=>[(0,.ptr 0 0),(1,.fn 130 [.ptr 1 0,.ptr 2 0]),(4,VI w.1),(5,VI g)]) (fun g j l m o p t d=>[(0,.box [VS j,VI l,VB m]),(1,.box [.sl 5 3 0 b.Segs.length,VI o,VI p,VI t,.sl 6 3 0 d.length]),(2,.box [.ptr 0 0]),(3,.gone),(4,.gone),(5,.vec 3 (b.Segs.map encI)),(6,.vec 3 (d.map encI))]) (.mv [0,1,4,5] [0,1,2,3,4] [3,4] [0,1,2,3,4,30000003,30000004]) fun _ g j l m o p t d _ u=>.q e (.q e (.a e e (.a e e (.B fun _ x=>.st e (Ev.callx [1,2,5,6,0] [] 1 e (sy x) e e (.cons (.ptr e) (.cons (.ptr e) .nil)) e (.inl e) e e) e (.R e (fun h=>⟨_,_,_,_,_,_,_,_,h,e,e⟩) (.k [0,1,4,5] [0,1,2,3,4,5,17400]))) (.X u e e (.n e (.Ek [0,1,2,3,4,5,6] e e e)))) (.X u e e (.n e (.Ek [0,1,2,3,4,5,6] e e e)))))
def r_done (N:Nat)(a:Treader):Option (Bool):=
 (if(!a.bad)=true then
 some (a.at'==(a.s.size:Int))
 else
 some false)
instance i169 (N:Nat)(b:Treader):JG 131 (r_done N b) [.ptr 0 0] 1 [(0,.box [VS b.s,VI b.at',VB b.bad])] (fun r=>VB r) (fun r=>[(0,.box [VS b.s,VI b.at',VB b.bad])]):=.st e e Tryz.call131 fun B r=>.q e (.a e e (.dn e (.Ek [0] e e e)) (.dn e (.Ek [0] e e e)))
def i_ManifestOk_l1 (N:Nat)(a:Manifest):Nat→Int→Option ((Bool)⊕(Unit))
 |0,_=>none
 |m+1,b=>
 (if decide (b<(a.Segs.length:Int))=true then
 (at? a.Segs b).bind fun c=>
 (i_within N c 0 999).bind fun d=>
 (if(!d)=true then
 some (Sum.inl false)
 else
 (if decide (c≥a.Next)=true then
 some (Sum.inl false)
 else
 (if decide (b>0)=true then
 (at? a.Segs (w64 (b-1))).bind fun f=>
 (if decide (f≥c)=true then
 some (Sum.inl false)
 else
 i_ManifestOk_l1 N a m (w64 (b+1)))
 else
 i_ManifestOk_l1 N a m (w64 (b+1)))))
 else
 some (Sum.inr ()))
def i_ManifestOk (N:Nat)(a:Manifest):Option (Bool):=
 joinP (fun(j:Unit)=>
 (i_within N (a.Segs.length:Int) 1 8).bind fun b=>
 (if b=true then
 (if decide (a.Next≤1000)=true then
 (i_within N a.Base 0 100000).bind fun c=>
 (if c=true then
 (i_within N a.BaseTerm 0 100000).bind fun d=>
 (if d=true then
 (i_ConfOk N a.Conf).bind fun f=>
 some f
 else
 some false)
 else
 some false)
 else
 some false)
 else
 some false)) fun g=>
 (i_ManifestOk_l1 N a N 0).bind (Sum.elim (fun h=>some h) (fun(k:Unit)=>g ()))
instance i170 (N:Nat)(b:Manifest):JB 132 (i_ManifestOk N b) [.agg [RO 3 (b.Segs.map encI),VI b.Next,VI b.Base,VI b.BaseTerm,RO 3 (b.Conf.map encI)]]:=.st e e Tryz.call132 fun B r=>.j e (fun _=>[(1,.ptr 0 0)]) (fun _=>[(0,.box [RO 3 (b.Segs.map encI),VI b.Next,VI b.Base,VI b.BaseTerm,RO 3 (b.Conf.map encI)])]) (fun _=>.st e (Ev.lnF e) e (.L1 e (fun d=>[(1,.ptr 0 0),(6,RO 3 (b.Segs.map encI)),(7,VI (b.Segs.length:Int)),(8,VI d)]) (fun d=>[(0,.box [RO 3 (b.Segs.map encI),VI b.Next,VI b.Base,VI b.BaseTerm,RO 3 (b.Conf.map encI)])]) (.k [1,6,7,8] [1000]) fun _ d _ c=>.q e (.a e e (.q e (.B fun _ f=>.st e (Ev.iaF e e f) e (.q e (.c0 e i q fun _ _=>.a e e (.Xr c e e (.il (.e e (.Ek [] e e e)))) (.a e e (.Xr c e e (.il (.e e (.Ek [] e e e)))) (.a e e (.B fun _ g=>.st e (Ev.iaF e e g) e (.a e e (.Xr c e e (.il (.e e (.Ek [] e e e)))) (.R e (fun h=>⟨_,h,e,e⟩) (.k [1,6,7,8] [0])))) (.R e (fun h=>⟨_,h,e,e⟩) (.k [1,6,7,8] [0])))))))) (.X c e e (.ir (.n e (.J e (.k [1] [0])))))))) fun _=>.q e (.st e (Ev.lnF e) e (.c0 e i q fun _ _=>.a e e (.a e e (.c0 e i q fun _ _=>.a e e (.c0 e i q fun _ _=>.a e e (.c0 e i q fun _ _=>.Ek [] e e e) (.Ek [] e e e)) (.Ek [] e e e)) (.Ek [] e e e)) (.Ek [] e e e)))
def i_ReadManifest (N:Nat)(h:BA):Option (Manifest×Bool):=
 (i_Unsealed N h).bind fun c=>
 (if(!c.2)=true then
 some ((Manifest.mk ([]) 0 0 0 ([])),false)
 else
 (r_each N (Treader.mk c.1 0 false) (Manifest.mk ([]) 0 0 0 ([]))).bind fun a=>
 (r_num N a.1).bind fun d=>
 (r_num N d.2).bind fun f=>
 (r_num N f.2).bind fun g=>
 (r_each_i1 N g.2 (Manifest.mk a.2.Segs d.1 f.1 g.1 a.2.Conf)).bind fun b=>
 (r_done N b.1).bind fun j=>
 (if(!j)=true then
 some ((Manifest.mk ([]) 0 0 0 ([])),false)
 else
 (i_ManifestOk N b.2).bind fun k=>
 (if(!k)=true then
 some ((Manifest.mk ([]) 0 0 0 ([])),false)
 else
 some (b.2,true))))
instance i171 (N:Nat)(b:BA):JG 72 (i_ReadManifest N b) [VS b] 0 [] (fun r=>.tup [.agg [.sl 0 3 0 r.1.Segs.length,VI r.1.Next,VI r.1.Base,VI r.1.BaseTerm,.sl 1 3 0 r.1.Conf.length],VB r.2]) (fun r=>[(0,.vec 3 (r.1.Segs.map encI)),(1,.vec 3 (r.1.Conf.map encI))]):=.st e e Tryz.call72 fun B r=>.c0 e i q fun _ _=>.q e (.a e e (.E e e (.n [0,1] [] [0] [] [10000000,10000001])) (.f [21512,17384,21528] [] 2 e i q fun _ _=>.f [21512] [] 0 e i q fun _ _=>.f [21512] [] 0 e i q fun _ _=>.f [21512] [] 0 e i q fun _ _=>.f [21512,17384,21528,25608,25609] [] 2 e i q fun _ _=>.q e (.q e (.f [21512] [] 0 e i q fun _ _=>.a e e (.E e e (.n [0,1] [] [0] [] [10000000,10000001])) (.f (hp:=(.cons (.agg (.cons (.borrow e (by decide) lw) (.d2 (.d1 (.cons (.borrow e (by decide) lw) .nil))))) .nil)) (hcase:=fun _=>(.inr ⟨rfl,ownL_root trivial⟩)) [] [41992,41993] 0 e i q fun _ _=>.a e e (.E e e (.n [0,1] [] [0] [] [10000000,10000001])) (.Ek [41992,41993] e e e))))))
def Q_Itoa (N:Nat)(a:Int):Option (BA):=itoa? a
instance i172 (N:Nat)(a:Int):Sem Tryz.prog 197 (Q_Itoa N a) [VI a] 0 [] (fun r=>VS r) (fun r=>[]):=⟨fun r h=>says_itoa Tryz.call197 Go.Proofs.Tryz.strconv_Itoa (g:=1) (by kernel_rfl) (.head _) h⟩
def i_Decimal (N:Nat)(a:Int):Option (BA):=
 (Q_Itoa N a).bind fun b=>
 some b
instance i173 (N:Nat)(a:Int):JS 133 (i_Decimal N a) [VI a]:=.st e e Tryz.call133 fun B r=>.c0 e i q fun _ _=>.Ek [] e e e
def i_SegName (N:Nat)(a:Int):Option (BA):=
 (i_within N a 0 999).bind fun b=>
 (if(!b)=true then
 some (⟨#[]⟩:BA)
 else
 (i_Decimal N a).bind fun c=>
 (scat? (⟨#[103]⟩:BA) c).bind fun d=>
 some d)
instance i174 (N:Nat)(b:Int):JS 73 (i_SegName N b) [VI b]:=.st e e Tryz.call73 fun B r=>.q e (.c0 e i q fun _ _=>.a e e (.Ek [] e e e) (.c0 e i q fun _ _=>.B fun _ c=>.st e (Ev.addS e e c) e (.Ek [] e e e)))
def q_HasPrefix (N:Nat)(b:BA)(a:BA):Option (Bool):=
 (if decide ((b.size:Int)≥(a.size:Int))=true then
 (stake? b (a.size:Int)).bind fun c=>
 some (decide (c=a))
 else
 some false)
instance i175 (N:Nat)(b:BA)(c:BA):JB 262 (q_HasPrefix N b c) [VS b,VS c]:=.st e e Tryz.call262 fun B r=>.q e (.a e e (.B fun _ d=>.st e (Ev.ssH e e d) e (.Ek [] e e e)) (.Ek [] e e e))
def q_CutPrefix (N:Nat)(a:BA)(b:BA):Option (BA×Bool):=
 (q_HasPrefix N a b).bind fun c=>
 (if(!c)=true then
 some (a,false)
 else
 (sdrop? a (b.size:Int)).bind fun d=>
 some (d,true))
instance i176 (N:Nat)(b:BA)(c:BA):JG 238 (q_CutPrefix N b c) [VS b,VS c] 0 [] (fun r=>.tup [VS r.1,VB r.2]) (fun r=>[]):=.st e e Tryz.call238 fun B r=>.q e (.c0 e i q fun _ _=>.a e e (.Ek [] e e e) (.B fun _ d=>.st e (Ev.ssL e e d) e (.Ek [] e e e)))
def S_CutPrefix (N:Nat)(b:BA)(c:BA):Option (BA×Bool):=
 (q_CutPrefix N b c).bind fun a=>
 some (a.1,a.2)
instance i177 (N:Nat)(a:BA)(b:BA):JG 198 (S_CutPrefix N a b) [VS a,VS b] 0 [] (fun r=>.tup [VS r.1,VB r.2]) (fun r=>[]):=.st e e Tryz.call198 fun B r=>.c0 e i q fun _ _=>.Ek [] e e e
def i_ReadDecimal (N:Nat)(a:BA):Option (Int×Bool):=rdec? a
instance i178 (N:Nat)(a:BA):Sem Tryz.prog 199 (i_ReadDecimal N a) [VS a] 0 [] (fun r=>.tup [VI r.1,VB r.2]) (fun r=>[]):=⟨fun r h=>says_rdec Tryz.call199 Pe.ins199 (g:=1) (by kernel_rfl) (.head _) (g1:=2) (by kernel_rfl) (.tail _ (.head _)) (g2:=3) (by kernel_rfl) (.tail _ (.tail _ (.head _))) h⟩
def i_isSegName (N:Nat)(a:BA):Option (Bool):=
 (S_CutPrefix N a (⟨#[103]⟩:BA)).bind fun b=>
 (i_ReadDecimal N b.1).bind fun c=>
 (if b.2=true then
 (if c.2=true then
 (i_SegName N c.1).bind fun d=>
 some (decide (d=a))
 else
 some false)
 else
 some false)
instance i179 (N:Nat)(b:BA):JB 134 (i_isSegName N b) [VS b]:=.st e e Tryz.call134 fun B r=>.c0 e i q fun _ _=>.c0 e i q fun _ _=>.q e (.a e e (.a e e (.c0 e i q fun _ _=>.Ek [] e e e) (.Ek [] e e e)) (.Ek [] e e e))
def i_cleaning_1 (N:Nat)(a:Int)(b:File):Option (Bool):=
 (i_SegName N a).bind fun c=>
 some (decide (c=b.Name))
instance i180 (N:Nat)(b:Int)(a:File):JG 136 (i_cleaning_1 N b a) [VI b,.ptr 0 0] 1 [(0,.box [VS a.Name,VS a.Text])] (fun r=>VB r) (fun r=>[(0,.box [VS a.Name,VS a.Text])]):=.st e e Tryz.call136 fun B r=>.c0 e i q fun _ _=>.dn e (.Ek [0] e e e)
def L_IF_int_l1 (N:Nat)(b:List Int)(c:File):Nat→Int→Option ((Int)⊕(Unit))
 |0,_=>none
 |m+1,a=>
 (if decide (a<(b.length:Int))=true then
 (at? b a).bind fun d=>
 (i_cleaning_1 N d c).bind fun f=>
 (if f=true then
 some (Sum.inl a)
 else
 L_IF_int_l1 N b c m (w64 (a+1)))
 else
 some (Sum.inr ()))
def L_IF_int (N:Nat)(a:List Int)(b:File):Option (Int):=
 joinP (fun(f:Unit)=>
 some (-1:Int)) fun c=>
 (L_IF_int_l1 N a b N 0).bind (Sum.elim (fun d=>some d) (fun(g:Unit)=>c ()))
instance i181 (N:Nat)(c:List Int)(b:File):JG 200 (L_IF_int N c b) [RO 3 (c.map encI),.fn 136 [.ptr 0 0]] 1 [(0,.box [VS b.Name,VS b.Text])] (fun r=>VI r) (fun r=>[(0,.box [VS b.Name,VS b.Text])]):=.st e e Tryz.call200 fun B r=>.j e (fun _=>[]) (fun _=>[(0,.box [VS b.Name,VS b.Text])]) (fun _=>.st e (Ev.lnF e) e (.L1 e (fun d=>[(0,RO 3 (c.map encI)),(1,.fn 136 [.ptr 0 0]),(7,VI (c.length:Int)),(8,VI d)]) (fun d=>[(0,.box [VS b.Name,VS b.Text])]) (.k [0,1,7,8] [0]) fun _ d _ f=>.q e (.a e e (.q e (.B fun _ g=>.st e (Ev.iaF e e g) e (.B fun _ l=>.st e (Ev.callx [0] [] 0 e (sy l) e e (.d1 (.cons (.ptr e) .nil)) e (.inl e) e e) e (.a e e (.Xr f e e (.il (.e e (.Ek [0] e e e)))) (.R e (fun h=>⟨_,h,e,e⟩) (.k [0,1,7,8] [0])))))) (.X f e e (.ir (.n e (.J e (.k [] [0])))))))) fun _=>.Ek [0] e e e
def L_CF_int (N:Nat)(a:List Int)(b:File):Option (Bool):=
 (L_IF_int N a b).bind fun c=>
 some (decide (c≥0))
instance i182 (N:Nat)(b:List Int)(a:File):JG 135 (L_CF_int N b a) [RO 3 (b.map encI),.fn 136 [.ptr 0 0]] 1 [(0,.box [VS a.Name,VS a.Text])] (fun r=>VB r) (fun r=>[(0,.box [VS a.Name,VS a.Text])]):=.st e e Tryz.call135 fun B r=>.f [0] [] 0 e i q fun _ _=>.Ek [0] e e e
def i_cleaning_l1 (N:Nat)(a:Disk)(c:Manifest):Nat→Int→(List Raw)→Option ((List Raw))
 |0,_,_=>none
 |m+1,b,d=>
 (if decide (b<(a.Files.length:Int))=true then
 (at? a.Files b).bind fun f=>
 (i_isSegName N f.Name).bind fun g=>
 (if g=true then
 (L_CF_int N c.Segs f).bind fun h=>
 (if(!h)=true then
 (cat? d ([(Raw.mk 4 f.Name (⟨#[]⟩:BA) (⟨#[]⟩:BA))]:List Raw)).bind fun j=>
 i_cleaning_l1 N a c m (w64 (b+1)) j
 else
 i_cleaning_l1 N a c m (w64 (b+1)) d)
 else
 i_cleaning_l1 N a c m (w64 (b+1)) d)
 else
 some d)
def i_cleaning (N:Nat)(a:Disk)(c:Manifest):Option ((List Raw)):=
 joinP (fun(d:List Raw)=>
 joinP (fun(f:List Raw)=>
 some f) fun g=>
 (i_cleaning_l1 N a c N 0 d).bind (fun h=>g h)) fun b=>
 (i_FileAt N a (⟨#[109,43]⟩:BA)).bind fun j=>
 (if j.2=true then
 (cat? ([]:List Raw) ([(Raw.mk 4 (⟨#[109,43]⟩:BA) (⟨#[]⟩:BA) (⟨#[]⟩:BA))]:List Raw)).bind fun k=>
 b k
 else
 b ([]:(List Raw)))
instance i183 (N:Nat)(c:Disk)(b:Manifest):JG 74 (i_cleaning N c b) [.agg [RO 141 (c.Files.map encFile)],.agg [RO 3 (b.Segs.map encI),VI b.Next,VI b.Base,VI b.BaseTerm,RO 3 (b.Conf.map encI)]] 0 [] (fun r=>.sl 0 138 0 r.length) (fun r=>[(0,.vec 138 (r.map encRaw))]):=.st e e Tryz.call74 fun B r=>.j e (fun d=>[(2,.ptr 0 0),(3,.ptr 1 0),(5,.sl 2 138 0 d.length)]) (fun d=>[(0,.box [RO 141 (c.Files.map encFile)]),(1,.box [RO 3 (b.Segs.map encI),VI b.Next,VI b.Base,VI b.BaseTerm,RO 3 (b.Conf.map encI)]),(2,.vec 138 (d.map encRaw))]) (fun _=>.c0 e i q fun _ _=>.a e e (.st e (Ev.bsW (ys:=([(Raw.mk 4 (⟨#[109,43]⟩:BA) (⟨#[]⟩:BA) (⟨#[]⟩:BA))]:List Raw)) (f:=encRaw) e (.d4 .nil) e e e e e) e (.B fun _ o=>.st e (Ev.apW (f:=encRaw) (ontoN (f:=encRaw) e) (addsW e e e (fun _=>e)) e bt138 e o) e (.J e (.k [2,3,5] [1000,1016,17432])))) (.J e (.n [2,3,5] [1000,1016] [5] [] [1000,1016,10000000]))) fun d=>.j e (fun g=>[(5,.sl 0 138 0 g.length)]) (fun g=>[(0,.vec 138 (g.map encRaw))]) (fun _=>.st e (Ev.lnF e) e (.L2 e (fun m l=>[(3,.ptr 0 0),(5,.sl 1 138 0 l.length),(21,RO 141 (c.Files.map encFile)),(22,VI (c.Files.length:Int)),(23,VI m)]) (fun m l=>[(0,.box [RO 3 (b.Segs.map encI),VI b.Next,VI b.Base,VI b.BaseTerm,RO 3 (b.Conf.map encI)]),(1,.vec 138 (l.map encRaw))]) (.k [3,5,21,22,23] [1,2]) fun _ m l _ p=>.q e (.a e e (.q e (.B fun s t=>.st e (Ev.iaF e e t) e (.q e (.c0 e i q fun _ _=>.a e e (.f [29704] [] 0 e i q fun _ _=>.a e e (.st e (Ev.bsW (ys:=([(Raw.mk 4 s.Name (⟨#[]⟩:BA) (⟨#[]⟩:BA))]:List Raw)) (f:=encRaw) e (.d4 .nil) e e e e e) e (.B fun _ u=>.st e (Ev.apW (f:=encRaw) (ontoW e e e) (addsW e e e (fun _=>e)) e bt138 e u) e (.R e (fun h=>⟨_,_,h,e,e⟩) (.k [3,5,21,22,23] [0,37944])))) (.R e (fun h=>⟨_,_,h,e,e⟩) (.k [3,5,21,22,23] [0,1]))) (.R e (fun h=>⟨_,_,h,e,e⟩) (.k [3,5,21,22,23] [0,1])))))) (.X p e e (.n e (.J e (.k [5] [1]))))))) fun g=>.Ek [0] e e e
def i_Frame (N:Nat)(a:BA):Option (BA×Bool):=
 (i_within N (a.size:Int) 1 9000).bind fun c=>
 (if(!c)=true then
 some ((⟨#[]⟩:BA),false)
 else
 (i_VarText N (a.size:Int)).bind fun d=>
 (i_SumOf N a).bind fun b=>
 (intSh .shr .u32 b 24).bind fun f=>
 (intSh .shr .u32 b 16).bind fun g=>
 (intSh .shr .u32 b 8).bind fun h=>
 (scat? d.1 (strOf ([IntKind.wrap .u8 (f),IntKind.wrap .u8 (g),IntKind.wrap .u8 (h),IntKind.wrap .u8 (b)]:List Int))).bind fun j=>
 (scat? j a).bind fun k=>
 some (k,true))
instance i184 (N:Nat)(b:BA):JG 140 (i_Frame N b) [VS b] 0 [] (fun r=>.tup [VS r.1,VB r.2]) (fun r=>[]):=.st e e Tryz.call140 fun B r=>.q e (.c0 e i q fun _ _=>.a e e (.Ek [] e e e) (.c0 e i q fun _ _=>.c0 e i q fun c _=>.B fun d g=>.st e (.sh e e g) e (.B fun h j=>.st e (.sh e e j) e (.B fun k l=>.st e (.sh e e l) e (.st e (Ev.bsW (ys:=([IntKind.wrap .u8 (d),IntKind.wrap .u8 (h),IntKind.wrap .u8 (k),IntKind.wrap .u8 (c)]:List Int)) (f:=encU) e (.d4 .nil) e e e e e) e (.st e (.sbC (addsW (f:=encU) e e e (fun _=>e))) e (.B fun _ m=>.st e (Ev.addS e e m) e (.B fun _ n=>.st e (Ev.addS e e n) e (.Ek [] e e e)))))))))
def i_Unframe_l1 (N:Nat)(c:BA):Nat→Int→(List BA)→Option ((List BA)×Int)
 |0,_,_=>none
 |m+1,b,d=>
 (i_ReadVar N c b).bind fun a=>
 (if(!a.2.2)=true then
 some (d,b)
 else
 (if(decide (a.1>(w64 ((w64 ((c.size:Int)-a.2.1))-4))))=true then
 some (d,b)
 else
 (scut? c (w64 (a.2.1+4)) (w64 ((w64 (a.2.1+4))+a.1))).bind fun f=>
 (i_Frame N f).bind fun g=>
 (if(!g.2)=true then
 some (d,b)
 else
 (scut? c b (w64 ((w64 (a.2.1+4))+a.1))).bind fun h=>
 (if(!decide (g.1=h))=true then
 some (d,b)
 else
 (cat? d ([f]:List BA)).bind fun j=>
 i_Unframe_l1 N c m (w64 ((w64 (a.2.1+4))+a.1)) j))))
def i_Unframe (N:Nat)(a:BA):Option ((List BA)×Int):=
 (if decide ((a.size:Int)>20000)=true then
 some ([],0)
 else
 (i_Unframe_l1 N a N 0 ([]:(List BA))).bind (fun b=>some b))
instance i185 (N:Nat)(d:BA):JG 138 (i_Unframe N d) [VS d] 0 [] (fun r=>.tup [.sl 0 9 0 r.1.length,VI r.2]) (fun r=>[(0,.vec 9 (r.1.map encS))]):=.st e e Tryz.call138 fun B r=>.q e (.a e e (.E e e (.n [0,1] [] [0] [] [10000000])) (.L2 e (fun g b=>[(0,VS d),(4,.sl 0 9 0 b.length),(5,VI g)]) (fun g b=>[(0,.vec 9 (b.map encS))]) (.n [0,4,5] [] [4] [] [10000000]) fun _ g b _ c=>.c0 e i q fun _ _=>.q e (.q e (.a e e (.Xr c e e (.e e (.Ek [0] e e e))) (.a e e (.Xr c e e (.e e (.Ek [0] e e e))) (.B fun j l=>.st e (Ev.ssB e e e l) e (.q e (.c0 e i q fun _ _=>.q e (.a e e (.Xr c e e (.e e (.Ek [0] e e e))) (.B fun _ m=>.st e (Ev.ssB e e e m) e (.a e e (.Xr c e e (.e e (.Ek [0] e e e))) (.st e (Ev.bsW (ys:=([j]:List BA)) (f:=encS) e (.d1 .nil) e e e e e) e (.B fun _ o=>.st e (Ev.apW (f:=encS) (ontoW e e e) (addsW e e e (fun _=>e)) e bt9 e o) e (.R e (fun h=>⟨_,_,h,e,e⟩) (.k [0,4,5] [50200])))))))))))))))
def i_ReadShort (N:Nat)(b:BA)(c:Int):Option (BA×Int×Bool):=
 (i_ReadVar N b c).bind fun a=>
 (if(!a.2.2)=true then
 some ((⟨#[]⟩:BA),0,false)
 else
 (if decide (a.1>20000)=true then
 some ((⟨#[]⟩:BA),0,false)
 else
 (if(decide (a.1>(w64 ((b.size:Int)-a.2.1))))=true then
 some ((⟨#[]⟩:BA),0,false)
 else
 (scut? b a.2.1 (w64 (a.2.1+a.1))).bind fun d=>
 some (d,w64 (a.2.1+a.1),true))))
instance i186 (N:Nat)(b:BA)(c:Int):JG 241 (i_ReadShort N b c) [VS b,VI c] 0 [] (fun r=>.tup [VS r.1,VI r.2.1,VB r.2.2]) (fun r=>[]):=.st e e Tryz.call241 fun B r=>.c0 e i q fun _ _=>.q e (.q e (.a e e (.Ek [] e e e) (.a e e (.Ek [] e e e) (.a e e (.Ek [] e e e) (.B fun _ d=>.st e (Ev.ssB e e e d) e (.Ek [] e e e))))))
def r_text (N:Nat)(a:Treader):Option (BA×Treader):=
 (i_ReadShort N a.s a.at').bind fun b=>
 (if a.bad=true then
 some ((⟨#[]⟩:BA),(Treader.mk a.s a.at' true))
 else
 (if(!b.2.2)=true then
 some ((⟨#[]⟩:BA),(Treader.mk a.s a.at' true))
 else
 some (b.1,(Treader.mk a.s b.2.1 a.bad))))
instance i187 (N:Nat)(b:Treader):JG 204 (r_text N b) [.ptr 0 0] 1 [(0,.box [VS b.s,VI b.at',VB b.bad])] (fun r=>VS r.1) (fun r=>[(0,.box [VS r.2.s,VI r.2.at',VB r.2.bad])]):=.st e e Tryz.call204 fun B r=>.c0 e i q fun _ _=>.dn e (.q e (.q e (.a e e (.Ek [0] e e e) (.a e e (.Ek [0] e e e) (.Ek [0] e e e)))))
def r_byte (N:Nat)(a:Treader):Option (Int×Treader):=
 (if a.bad=true then
 some (0,(Treader.mk a.s a.at' true))
 else
 (if decide (a.at'≥(a.s.size:Int))=true then
 some (0,(Treader.mk a.s a.at' true))
 else
 (sat? a.s (w64 ((w64 (a.at'+1))-1))).bind fun b=>
 some (w64 (b),(Treader.mk a.s (w64 (a.at'+1)) a.bad))))
instance i188 (N:Nat)(b:Treader):JG 205 (r_byte N b) [.ptr 0 0] 1 [(0,.box [VS b.s,VI b.at',VB b.bad])] (fun r=>VI r.1) (fun r=>[(0,.box [VS r.2.s,VI r.2.at',VB r.2.bad])]):=.st e e Tryz.call205 fun B r=>.q e (.q e (.a e e (.dn e (.Ek [0] e e e)) (.dn e (.a e e (.Ek [0] e e e) (.B fun _ c=>.st e (Ev.ixS e e c) e (.dn e (.Ek [0] e e e)))))))
def i_ReadBatch_1 (N:Nat)(f:Treader)(a:Batch):Option (Batch×Treader):=
 (r_text N f).bind fun b=>
 (r_byte N b.2).bind fun c=>
 (r_text N c.2).bind fun d=>
 (cat? a.Changes ([(Change.mk b.1 d.1 (c.1==1))]:List Change)).bind fun g=>
 some ((Batch.mk a.Stamp g),d.2)
instance i189 (N:Nat)(a:Treader)(b:Batch):JG 203 (i_ReadBatch_1 N a b) [.ptr 0 0,.ptr 1 0] 4 [(0,.box [.ptr 2 0]),(1,.box [VI b.Stamp,.sl 3 268 0 b.Changes.length]),(2,.box [VS a.s,VI a.at',VB a.bad]),(3,.vec 268 (b.Changes.map encChange))] (fun r=>.tup []) (fun r=>[(0,.box [.ptr 2 0]),(1,.box [VI r.1.Stamp,.sl 4 268 0 r.1.Changes.length]),(2,.box [VS r.2.s,VI r.2.at',VB r.2.bad]),(3,.gone),(4,.vec 268 (r.1.Changes.map encChange))]):=.st e e Tryz.call203 fun B r=>.f [2] [] 0 e i q fun c _=>.f [2] [] 0 e i q fun d _=>.f [2] [] 0 e i q fun g _=>.st e (Ev.bsW (ys:=([(Change.mk c.1 g.1 (d.1==1))]:List Change)) (f:=encChange) e (.d2 (.d1 .nil)) e e e e e) e (.B fun _ h=>.st e (Ev.apW (f:=encChange) (ontoW e e e) (addsW e e e (fun _=>e)) e bt268 e h) e (.Ek [0,1,2,3,13352] e e e))
def r_each_i2_l1 (N:Nat)(h:Int×Treader):Nat→Int→BA→Int→Bool→Int→(List Change)→Option (BA×Int×Bool×Int×(List Change))
 |0,_,_,_,_,_,_=>none
 |m+1,j,c,d,b,f,g=>
 (if decide (j<h.1)=true then
 (if(!b)=true then
 (i_ReadBatch_1 N (Treader.mk c d b) (Batch.mk f g)).bind fun a=>
 r_each_i2_l1 N h m (w64 (j+1)) a.2.s a.2.at' a.2.bad a.1.Stamp a.1.Changes
 else
 some (c,d,b,f,g))
 else
 some (c,d,b,f,g))
def r_each_i2 (N:Nat)(c:Treader)(d:Batch):Option (Treader×Batch):=
 (r_num N c).bind fun b=>
 (r_each_i2_l1 N b N 0 b.2.s b.2.at' b.2.bad d.Stamp ([]:(List Change))).bind (fun a=>some ((Treader.mk a.1 a.2.1 a.2.2.1),(Batch.mk a.2.2.2.1 a.2.2.2.2)))
instance i190 (N:Nat)(b:Treader)(o:Batch):JG 127 (r_each_i2 N b o) [.ptr 0 0,.fn 203 [.ptr 1 0,.ptr 2 0]] 3 [(0,.box [VS b.s,VI b.at',VB b.bad]),(1,.box [.ptr 0 0]),(2,.box [VI o.Stamp,NI 268])] (fun r=>.tup []) (fun r=>[(0,.box [VS r.1.s,VI r.1.at',VB r.1.bad]),(1,.box [.ptr 0 0]),(2,.box [VI r.2.Stamp,.sl 3 268 0 r.2.Changes.length]),(3,.vec 268 (r.2.Changes.map encChange))]):=.st e e Tryz.call127 fun B r=>.f [0] [] 0 e i q fun t _=>.L6 e (fun d g j l m c=>[(0,.ptr 0 0),(1,.fn 203 [.ptr 1 0,.ptr 2 0]),(4,VI t.1),(5,VI d)]) (fun d g j l m c=>[(0,.box [VS g,VI j,VB l]),(1,.box [.ptr 0 0]),(2,.box [VI m,.sl 3 268 0 c.length]),(3,.vec 268 (c.map encChange))]) (.n [0,1,4,5] [0,1,2] [] [2] [0,1,2,20000000]) fun _ d g j l m c _ p=>.q e (.q e (.a e e (.a e e (.B fun _ u=>.st e (Ev.callx [1,2,0,3] [] 1 e (sy u) e e (.cons (.ptr e) (.cons (.ptr e) .nil)) e (.inl e) e e) e (.R e (fun h=>⟨_,_,_,_,_,_,h,e,e⟩) (.k [0,1,4,5] [0,1,2,17400]))) (.X p e e (.n e (.Ek [0,1,2,3] e e e)))) (.X p e e (.n e (.Ek [0,1,2,3] e e e)))))
def i_keyOk (N:Nat)(a:BA):Option (Bool):=
 (i_within N (a.size:Int) 1 10).bind fun b=>
 some b
instance i191 (N:Nat)(a:BA):JB 146 (i_keyOk N a) [VS a]:=.st e e Tryz.call146 fun B r=>.c0 e i q fun _ _=>.Ek [] e e e
def i_BatchOk_l1 (N:Nat)(b:Batch):Nat→Int→Option ((Bool)⊕(Unit))
 |0,_=>none
 |m+1,a=>
 (if decide (a<(b.Changes.length:Int))=true then
 (at? b.Changes a).bind fun c=>
 (i_keyOk N c.Key).bind fun d=>
 (if(!d)=true then
 some (Sum.inl false)
 else
 (if decide ((c.Value.size:Int)>40)=true then
 some (Sum.inl false)
 else
 (if c.Gone=true then
 (if(!decide (c.Value=(⟨#[]⟩:BA)))=true then
 some (Sum.inl false)
 else
 (if decide (a>0)=true then
 (at? b.Changes (w64 (a-1))).bind fun f=>
 (if(!Op.bytesLess f.Key.toList c.Key.toList)=true then
 some (Sum.inl false)
 else
 i_BatchOk_l1 N b m (w64 (a+1)))
 else
 i_BatchOk_l1 N b m (w64 (a+1))))
 else
 (if decide (a>0)=true then
 (at? b.Changes (w64 (a-1))).bind fun g=>
 (if(!Op.bytesLess g.Key.toList c.Key.toList)=true then
 some (Sum.inl false)
 else
 i_BatchOk_l1 N b m (w64 (a+1)))
 else
 i_BatchOk_l1 N b m (w64 (a+1))))))
 else
 some (Sum.inr ()))
def i_BatchOk (N:Nat)(a:Batch):Option (Bool):=
 joinP (fun(f:Unit)=>
 (i_within N a.Stamp 0 100000).bind fun b=>
 (if b=true then
 some (decide ((a.Changes.length:Int)≤60))
 else
 some false)) fun c=>
 (i_BatchOk_l1 N a N 0).bind (Sum.elim (fun d=>some d) (fun(g:Unit)=>c ()))
instance i192 (N:Nat)(b:Batch):JB 242 (i_BatchOk N b) [.agg [VI b.Stamp,RO 268 (b.Changes.map encChange)]]:=.st e e Tryz.call242 fun B r=>.j e (fun _=>[(1,.ptr 0 0)]) (fun _=>[(0,.box [VI b.Stamp,RO 268 (b.Changes.map encChange)])]) (fun _=>.st e (Ev.lnF e) e (.L1 e (fun d=>[(1,.ptr 0 0),(6,RO 268 (b.Changes.map encChange)),(7,VI (b.Changes.length:Int)),(8,VI d)]) (fun d=>[(0,.box [VI b.Stamp,RO 268 (b.Changes.map encChange)])]) (.k [1,6,7,8] [1000]) fun _ d _ c=>.q e (.a e e (.q e (.B fun _ f=>.st e (Ev.iaF e e f) e (.q e (.c0 e i q fun _ _=>.a e e (.dn e (.Xr c e e (.il (.e e (.Ek [] e e e))))) (.a e e (.dn e (.Xr c e e (.il (.e e (.Ek [] e e e))))) (.a e e (.a e e (.dn e (.Xr c e e (.il (.e e (.Ek [] e e e))))) (.a e e (.B fun _ g=>.st e (Ev.iaF e e g) e (.dn e (.a e e (.Xr c e e (.il (.e e (.Ek [] e e e)))) (.R e (fun h=>⟨_,h,e,e⟩) (.k [1,6,7,8] [0]))))) (.dn e (.R e (fun h=>⟨_,h,e,e⟩) (.k [1,6,7,8] [0]))))) (.a e e (.B fun _ l=>.st e (Ev.iaF e e l) e (.dn e (.a e e (.Xr c e e (.il (.e e (.Ek [] e e e)))) (.R e (fun h=>⟨_,h,e,e⟩) (.k [1,6,7,8] [0]))))) (.dn e (.R e (fun h=>⟨_,h,e,e⟩) (.k [1,6,7,8] [0])))))))))) (.X c e e (.ir (.n e (.J e (.k [1] [0])))))))) fun _=>.q e (.c0 e i q fun _ _=>.a e e (.st e (Ev.lnF e) e (.Ek [] e e e)) (.Ek [] e e e))
def i_vars_l1 (N:Nat)(a:List Int):Nat→Int→(List Int)→Option ((BA×Bool)⊕((List Int)))
 |0,_,_=>none
 |m+1,b,c=>
 (if decide (b<(a.length:Int))=true then
 (at? a b).bind fun f=>
 (i_VarText N f).bind fun d=>
 (if(!d.2)=true then
 some (Sum.inl ((⟨#[]⟩:BA),false))
 else
 (cat? c (intsOf d.1)).bind fun g=>
 i_vars_l1 N a m (w64 (b+1)) g)
 else
 some (Sum.inr c))
def i_vars (N:Nat)(a:List Int):Option (BA×Bool):=
 joinP (fun(b:List Int)=>
 some (strOf b,true)) fun c=>
 (i_vars_l1 N a N 0 ([]:(List Int))).bind (Sum.elim (fun d=>some d) (fun(f:List Int)=>c f))
instance i193 (N:Nat)(b:List Int):JG 201 (i_vars N b) [RO 3 (b.map encI)] 0 [] (fun r=>.tup [VS r.1,VB r.2]) (fun r=>[]):=.st e e Tryz.call201 fun B r=>.j e (fun c=>[(4,.sl 0 5 0 c.length)]) (fun c=>[(0,.vec 5 (c.map encU))]) (fun _=>.st e (Ev.lnF e) e (.L2 e (fun g d=>[(4,.sl 0 5 0 d.length),(9,RO 3 (b.map encI)),(10,VI (b.length:Int)),(11,VI g)]) (fun g d=>[(0,.vec 5 (d.map encU))]) (.n [4,9,10,11] [] [4] [] [10000000]) fun _ g d _ l=>.q e (.a e e (.q e (.B fun _ m=>.st e (Ev.iaF e e m) e (.c0 e i q fun _ _=>.q e (.a e e (.Xr l e e (.il (.e e (.Ek [] e e e)))) (.B fun _ o=>.st e (Ev.apS (ontoW e e e) e e e o) e (.R e (fun h=>⟨_,_,h,e,e⟩) (.k [4,9,10,11] [33800]))))))) (.X l e e (.ir (.n e (.J e (.k [4] [0])))))))) fun c=>.st e (.sbC (addsW (f:=encU) e e e (fun _=>e))) e (.Ek [] e e e)
def i_ShortText (N:Nat)(a:BA):Option (BA×Bool):=
 (if decide ((a.size:Int)>20000)=true then
 some ((⟨#[]⟩:BA),false)
 else
 (i_VarText N (a.size:Int)).bind fun b=>
 (scat? b.1 a).bind fun c=>
 some (c,true))
instance i194 (N:Nat)(b:BA):JG 240 (i_ShortText N b) [VS b] 0 [] (fun r=>.tup [VS r.1,VB r.2]) (fun r=>[]):=.st e e Tryz.call240 fun B r=>.q e (.a e e (.Ek [] e e e) (.c0 e i q fun _ _=>.B fun _ c=>.st e (Ev.addS e e c) e (.Ek [] e e e)))
def i_short (N:Nat)(a:BA):Option (BA):=
 (i_ShortText N a).bind fun b=>
 some b.1
instance i195 (N:Nat)(a:BA):JS 202 (i_short N a) [VS a]:=.st e e Tryz.call202 fun B r=>.c0 e i q fun _ _=>.Ek [] e e e
def i_flag (N:Nat)(a:Bool):Option (BA):=
 (if a=true then
 some (⟨#[1]⟩:BA)
 else
 some (⟨#[0]⟩:BA))
instance i196 (N:Nat)(b:Bool):JS 243 (i_flag N b) [VB b]:=.st e e Tryz.call243 fun B r=>.q e (.a e e (.Ek [] e e e) (.Ek [] e e e))
def i_BatchText_l1 (N:Nat)(a:Batch):Nat→BA→Int→Option (BA)
 |0,_,_=>none
 |m+1,d,b=>
 (if decide (b<(a.Changes.length:Int))=true then
 (at? a.Changes b).bind fun c=>
 (i_short N c.Key).bind fun f=>
 (i_flag N c.Gone).bind fun g=>
 (scat? f g).bind fun h=>
 (i_short N c.Value).bind fun j=>
 (scat? h j).bind fun k=>
 (scat? d k).bind fun l=>
 i_BatchText_l1 N a m l (w64 (b+1))
 else
 some d)
def i_BatchText (N:Nat)(a:Batch):Option (BA×Bool):=
 (i_BatchOk N a).bind fun b=>
 (if(!b)=true then
 some ((⟨#[]⟩:BA),false)
 else
 (i_vars N ([a.Stamp,(a.Changes.length:Int)]:List Int)).bind fun c=>
 joinP (fun(d:BA)=>
 some (d,true)) fun f=>
 (i_BatchText_l1 N a N c.1 0).bind (fun g=>f g))
instance i197 (N:Nat)(b:Batch):JG 206 (i_BatchText N b) [.agg [VI b.Stamp,RO 268 (b.Changes.map encChange)]] 0 [] (fun r=>.tup [VS r.1,VB r.2]) (fun r=>[]):=.st e e Tryz.call206 fun B r=>.q e (.c0 e i q fun _ _=>.a e e (.Ek [] e e e) (.st e (Ev.lnF e) e (.st e (Ev.bsW (ys:=([b.Stamp,(b.Changes.length:Int)]:List Int)) (f:=encI) e (.d2 .nil) e e e e e) e (.f (hp:=(.cons (.borrow e (by decide) lw) .nil)) (hcase:=fun _=>(.inr ⟨rfl,ownL_root trivial⟩)) [] [13368] 0 e i q fun _ _=>.j e (fun c=>[(4,VS c)]) (fun c=>[]) (fun _=>.st e (Ev.lnF e) e (.L2 e (fun d g=>[(4,VS d),(22,RO 268 (b.Changes.map encChange)),(23,VI (b.Changes.length:Int)),(24,VI g)]) (fun d g=>[]) (.k [4,22,23,24] []) fun _ d g _ l=>.q e (.a e e (.B fun _ m=>.st e (Ev.iaF e e m) e (.c0 e i q fun _ _=>.c0 e i q fun _ _=>.B fun _ o=>.st e (Ev.addS e e o) e (.c0 e i q fun _ _=>.B fun _ p=>.st e (Ev.addS e e p) e (.B fun _ s=>.st e (Ev.addS e e s) e (.dn e (.R e (fun h=>⟨_,_,h,e,e⟩) (.k [4,22,23,24] []))))))) (.X l e e (.n e (.J e (.k [4] []))))))) fun c=>.Ek [] e e e))))
def i_ReadBatch (N:Nat)(b:BA):Option (Batch×Bool):=
 (r_num N (Treader.mk b 0 false)).bind fun c=>
 (r_each_i2 N c.2 (Batch.mk c.1 ([]))).bind fun a=>
 (i_BatchText N a.2).bind fun d=>
 (if a.1.bad=true then
 some ((Batch.mk 0 ([])),false)
 else
 (if(!d.2)=true then
 some ((Batch.mk 0 ([])),false)
 else
 (if(!decide (d.1=b))=true then
 some ((Batch.mk 0 ([])),false)
 else
 some (a.2,true))))
instance i198 (N:Nat)(b:BA):JG 139 (i_ReadBatch N b) [VS b] 0 [] (fun r=>.tup [.agg [VI r.1.Stamp,.sl 0 268 0 r.1.Changes.length],VB r.2]) (fun r=>[(0,.vec 268 (r.1.Changes.map encChange))]):=.st e e Tryz.call139 fun B r=>.f [5128] [] 0 e i q fun _ _=>.f [5128,5144,9240] [] 1 e i q fun _ _=>.q e (.f (hp:=(.cons (.agg (.d1 (.cons (.borrow e (by decide) lw) .nil))) .nil)) (hcase:=fun _=>(.inr ⟨rfl,ownL_root trivial⟩)) [] [13320] 0 e i q fun _ _=>.q e (.a e e (.E e e (.n [0,1] [] [0] [] [10000000])) (.a e e (.E e e (.n [0,1] [] [0] [] [10000000])) (.a e e (.E e e (.n [0,1] [] [0] [] [10000000])) (.Ek [13320] e e e)))))
def i_batchesOf_l1 (N:Nat)(c:(List BA)×Int):Nat→Int→Int→(List Tplaced)→Option (Int×(List Tplaced))
 |0,_,_,_=>none
 |m+1,a,d,f=>
 (if decide (d<(c.1.length:Int))=true then
 (at? c.1 d).bind fun b=>
 (i_ReadBatch N b).bind fun g=>
 (if(!g.2)=true then
 some (a,f)
 else
 (i_Frame N b).bind fun h=>
 (cat? f ([(Tplaced.mk g.1 b (w64 ((w64 (a+(h.1.size:Int)))-(b.size:Int))))]:List Tplaced)).bind fun j=>
 i_batchesOf_l1 N c m (w64 (a+(h.1.size:Int))) (w64 (d+1)) j)
 else
 some (a,f))
def i_batchesOf (N:Nat)(c:BA):Option ((List Tplaced)×Int):=
 (i_Unframe N c).bind fun d=>
 joinP (fun(a:Int×(List Tplaced))=>
 some (a.2,a.1)) fun f=>
 (i_batchesOf_l1 N d N 0 0 ([]:(List Tplaced))).bind (fun b=>f (b.1,b.2))
instance i199 (N:Nat)(o:BA):JG 76 (i_batchesOf N o) [VS o] 0 [] (fun r=>.tup [.sl 0 234 0 r.1.length,VI r.2]) (fun r=>[(0,.vec 234 (r.1.map (encTplaced false)))]):=.st e e Tryz.call76 fun B r=>.c1 e i q fun l _=>.j e (fun b=>[(6,.sl 0 234 0 b.2.length),(7,VI b.1)]) (fun b=>[(0,.vec 234 (b.2.map (encTplaced false)))]) (fun _=>.L3 e (fun c m d=>[(6,.sl 0 234 0 d.length),(7,VI c),(19,.sl 1 9 0 l.1.length),(20,VI (l.1.length:Int)),(21,VI m)]) (fun c m d=>[(0,.vec 234 (d.map (encTplaced false))),(1,.vec 9 (l.1.map encS))]) (.n [6,7,19,20,21] [5112] [6] [] [10000000,5112]) fun _ c m d _ p=>.q e (.a e e (.q e (.B fun s t=>.st e (Ev.iaW e e e t) e (.st e (Ev.ldE (f:=encS) e e (at_some t).2 e e e) e (.c1 e i q fun u _=>.q e (.a e e (.X p e e (.n e (.J e (.k [6,7] [0])))) (.c0 e i q fun w _=>.stz e (EvZ.frz (f:=encChange) (g:=encChange) (xs:=u.1.Changes) 29688 (fun _=>e) e (.mk (Ev.bsW (ys:=([(Tplaced.mk u.1 s (w64 ((w64 (c+(w.1.size:Int)))-(s.size:Int))))]:List Tplaced)) (f:=(encTplaced false)) e (.d1 (.cons (.ro e (shareW _ e)) (.d2 .nil))) e e e e e))) e (.B fun _ x=>.st e (Ev.apW (f:=(encTplaced false)) (ontoW e e e) (addsW e e e (fun _=>e)) e bt234 e x) e (.R e (fun h=>⟨_,_,_,h,e,e⟩) (.k [6,7,19,20,21] [46200,1]))))))))) (.X p e e (.n e (.J e (.k [6,7] [0])))))) fun b=>.Ek [0] e e e
def i_spotsOf_l1 (N:Nat)(c:Tplaced)(d:Int):Nat→Int→Int→(List Spot)→Option ((List Spot))
 |0,_,_,_=>none
 |m+1,g,f,h=>
 (if decide (f<(c.b.Changes.length:Int))=true then
 (at? c.b.Changes f).bind fun a=>
 (i_short N a.Value).bind fun j=>
 (i_short N a.Key).bind fun k=>
 (if a.Gone=true then
 (cat? h ([(Spot.mk a.Key d 0 (-1:Int))]:List Spot)).bind fun l=>
 i_spotsOf_l1 N c d m (w64 (g+(w64 ((w64 ((k.size:Int)+1))+(j.size:Int))))) (w64 (f+1)) l
 else
 (cat? h ([(Spot.mk a.Key d (w64 ((w64 (g+(w64 ((w64 ((k.size:Int)+1))+(j.size:Int)))))-(a.Value.size:Int))) (a.Value.size:Int))]:List Spot)).bind fun n=>
 i_spotsOf_l1 N c d m (w64 (g+(w64 ((w64 ((k.size:Int)+1))+(j.size:Int))))) (w64 (f+1)) n)
 else
 some h)
def i_spotsOf (N:Nat)(a:Tplaced)(c:Int):Option ((List Spot)):=
 (i_vars N ([a.b.Stamp,(a.b.Changes.length:Int)]:List Int)).bind fun d=>
 joinP (fun(f:List Spot)=>
 some f) fun g=>
 (i_spotsOf_l1 N a c N (w64 (a.at'+(d.1.size:Int))) 0 ([]:(List Spot))).bind (fun h=>g h)
instance i200 (N:Nat)(c:Tplaced)(d:Int):JG 137 (i_spotsOf N c d) [.agg [VI c.b.Stamp,RO 268 (c.b.Changes.map encChange),VS c.text,VI c.at'],VI d] 0 [] (fun r=>.sl 0 148 0 r.length) (fun r=>[(0,.vec 148 (r.map encSpot))]):=.st e e Tryz.call137 fun B r=>.st e (Ev.lnF e) e (.st e (Ev.bsW (ys:=([c.b.Stamp,(c.b.Changes.length:Int)]:List Int)) (f:=encI) e (.d2 .nil) e e e e e) e (.f (hp:=(.cons (.borrow e (by decide) lw) .nil)) (hcase:=fun _=>(.inr ⟨rfl,ownL_root trivial⟩)) [] [5208] 0 e i q fun _ _=>.j e (fun g=>[(8,.sl 0 148 0 g.length)]) (fun g=>[(0,.vec 148 (g.map encSpot))]) (fun _=>.st e (Ev.lnF e) e (.L3 e (fun l p m=>[(1,VI d),(7,VI l),(8,.sl 0 148 0 m.length),(31,RO 268 (c.b.Changes.map encChange)),(32,VI (c.b.Changes.length:Int)),(33,VI p)]) (fun l p m=>[(0,.vec 148 (m.map encSpot))]) (.n [1,7,8,31,32,33] [] [8] [] [10000000]) fun _ l p m _ s=>.q e (.a e e (.q e (.B fun o t=>.st e (Ev.iaF e e t) e (.c0 e i q fun u _=>.c0 e i q fun w _=>.a e e (.st e (Ev.bsW (ys:=([(Spot.mk o.Key d 0 (-1:Int))]:List Spot)) (f:=encSpot) e (.d4 .nil) e e e e e) e (.B fun _ x=>.st e (Ev.apW (f:=encSpot) (ontoW e e e) (addsW e e e (fun _=>e)) e bt148 e x) e (.R e (fun h=>⟨_,_,_,h,e,e⟩) (.k [1,7,8,31,32,33] [42056])))) (.st e (Ev.bsW (ys:=([(Spot.mk o.Key d (w64 ((w64 (l+(w64 ((w64 ((w.size:Int)+1))+(u.size:Int)))))-(o.Value.size:Int))) (o.Value.size:Int))]:List Spot)) (f:=encSpot) e (.d4 .nil) e e e e e) e (.B fun _ y=>.st e (Ev.apW (f:=encSpot) (ontoW e e e) (addsW e e e (fun _=>e)) e bt148 e y) e (.R e (fun h=>⟨_,_,_,h,e,e⟩) (.k [1,7,8,31,32,33] [46280]))))))) (.X s e e (.n e (.J e (.k [8] [0]))))))) fun g=>.Ek [0] e e e))
def i_ScanSeg_l1 (N:Nat)(f:Int)(a:(List Tplaced)×Int):Nat→Int→Int→(List Spot)→(List BA)→Option (Int×(List Spot)×(List BA))
 |0,_,_,_,_=>none
 |m+1,g,c,h,j=>
 (if decide (c<(a.1.length:Int))=true then
 (at? a.1 c).bind fun d=>
 (i_spotsOf N d f).bind fun k=>
 (cat? h k).bind fun l=>
 (cat? j ([d.text]:List BA)).bind fun n=>
 i_ScanSeg_l1 N f a m (imax g d.b.Stamp) (w64 (c+1)) l n
 else
 some (g,h,j))
def i_ScanSeg (N:Nat)(c:BA)(d:Int):Option ((List Spot)×(List BA)×Int):=
 (i_batchesOf N c).bind fun f=>
 joinP (fun(a:Int×(List Spot)×(List BA))=>
 some (a.2.1,a.2.2,a.1)) fun g=>
 (i_ScanSeg_l1 N d f N (-1:Int) 0 ([]:(List Spot)) ([]:(List BA))).bind (fun b=>g (b.1,b.2.1,b.2.2))
instance i201 (N:Nat)(p:BA)(g:Int):JG 75 (i_ScanSeg N p g) [VS p,VI g] 0 [] (fun r=>.tup [.sl 0 148 0 r.1.length,.sl 1 9 0 r.2.1.length,VI r.2.2]) (fun r=>[(0,.vec 148 (r.1.map encSpot)),(1,.vec 9 (r.2.1.map encS))]):=.st e e Tryz.call75 fun B r=>.c1 e i q fun l _=>.j e (fun b=>[(9,.sl 0 148 0 b.2.1.length),(10,.sl 1 9 0 b.2.2.length),(11,VI b.1)]) (fun b=>[(0,.vec 148 (b.2.1.map encSpot)),(1,.vec 9 (b.2.2.map encS))]) (fun _=>.L4 e (fun m o c d=>[(1,VI g),(9,.sl 0 148 0 c.length),(10,.sl 1 9 0 d.length),(11,VI m),(19,.sl 2 234 0 l.1.length),(20,VI (l.1.length:Int)),(21,VI o)]) (fun m o c d=>[(0,.vec 148 (c.map encSpot)),(1,.vec 9 (d.map encS)),(2,.vec 234 (l.1.map (encTplaced false)))]) (.n [1,9,10,11,19,20,21] [5112] [9,10] [] [10000000,10000064,5112]) fun _ m o c d _ t=>.q e (.a e e (.B fun u s=>.st e (Ev.iaW e e e s) e (.st e (Ev.ldE (f:=(encTplaced false)) e e (at_some s).2 e e e) e (.c1 e i q fun _ _=>.B fun _ w=>.st e (Ev.apW (f:=encSpot) (ontoW e e e) (addsW e e e (fun _=>e)) e bt148 e w) e (.st e (Ev.bsW (ys:=([u.text]:List BA)) (f:=encS) e (.d1 .nil) e e e e e) e (.B fun _ x=>.st e (Ev.apW (f:=encS) (ontoW e e e) (addsW e e e (fun _=>e)) e bt9 e x) e (.R e (fun h=>⟨_,_,_,_,h,e,e⟩) (.k [1,9,10,11,19,20,21] [33832,37928,2]))))))) (.X t e e (.n e (.J e (.k [9,10,11] [0,1])))))) fun b=>.Ek [0,1] e e e
def i_DirOk_l1 (N:Nat)(b:List Spot):Nat→Int→Option ((Bool)⊕(Unit))
 |0,_=>none
 |m+1,a=>
 (if decide (a<(b.length:Int))=true then
 (at? b a).bind fun c=>
 (i_keyOk N c.Key).bind fun d=>
 (if(!d)=true then
 some (Sum.inl false)
 else
 (i_within N c.Seg 0 999).bind fun f=>
 (if(!f)=true then
 some (Sum.inl false)
 else
 (i_within N c.At 0 20000).bind fun g=>
 (if(!g)=true then
 some (Sum.inl false)
 else
 (i_within N c.Size 0 40).bind fun h=>
 (if(!h)=true then
 some (Sum.inl false)
 else
 (if decide (a>0)=true then
 (at? b (w64 (a-1))).bind fun j=>
 (if(!Op.bytesLess j.Key.toList c.Key.toList)=true then
 some (Sum.inl false)
 else
 i_DirOk_l1 N b m (w64 (a+1)))
 else
 i_DirOk_l1 N b m (w64 (a+1)))))))
 else
 some (Sum.inr ()))
def i_DirOk (N:Nat)(a:List Spot):Option (Bool):=
 joinP (fun(d:Unit)=>
 some (decide ((a.length:Int)≤60))) fun b=>
 (i_DirOk_l1 N a N 0).bind (Sum.elim (fun c=>some c) (fun(f:Unit)=>b ()))
instance i202 (N:Nat)(b:List Spot):JB 78 (i_DirOk N b) [RO 148 (b.map encSpot)]:=.st e e Tryz.call78 fun B r=>.j e (fun _=>[(0,RO 148 (b.map encSpot))]) (fun _=>[]) (fun _=>.st e (Ev.lnF e) e (.L1 e (fun d=>[(0,RO 148 (b.map encSpot)),(5,RO 148 (b.map encSpot)),(6,VI (b.length:Int)),(7,VI d)]) (fun d=>[]) (.k [0,5,6,7] []) fun _ d _ c=>.q e (.a e e (.q e (.B fun _ f=>.st e (Ev.iaF e e f) e (.q e (.c0 e i q fun _ _=>.a e e (.dn e (.Xr c e e (.il (.e e (.Ek [] e e e))))) (.c0 e i q fun _ _=>.a e e (.dn e (.Xr c e e (.il (.e e (.Ek [] e e e))))) (.c0 e i q fun _ _=>.a e e (.dn e (.Xr c e e (.il (.e e (.Ek [] e e e))))) (.c0 e i q fun _ _=>.a e e (.dn e (.Xr c e e (.il (.e e (.Ek [] e e e))))) (.a e e (.B fun _ g=>.st e (Ev.iaF e e g) e (.dn e (.a e e (.Xr c e e (.il (.e e (.Ek [] e e e)))) (.R e (fun h=>⟨_,h,e,e⟩) (.k [0,5,6,7] []))))) (.dn e (.R e (fun h=>⟨_,h,e,e⟩) (.k [0,5,6,7] []))))))))))) (.X c e e (.ir (.n e (.J e (.k [0] [])))))))) fun _=>.st e (Ev.lnF e) e (.Ek [] e e e)
def i_DirMore_1 (N:Nat)(a:Spot)(b:BA):Option (Int):=
 (S_Compare N a.Key b).bind fun c=>
 some c
instance i203 (N:Nat)(a:Spot)(b:BA):JI 142 (i_DirMore_1 N a b) [.agg [VS a.Key,VI a.Seg,VI a.At,VI a.Size],VS b]:=.st e e Tryz.call142 fun B r=>.c0 e i q fun _ _=>.Ek [] e e e
def L_BF_string_i1_l1 (N:Nat)(b:List Spot)(c:BA):Nat→Int→Int→Option (Int)
 |0,_,_=>none
 |m+1,a,d=>
 (if decide (a<d)=true then
 (intSh .shr .u64 (IntKind.wrap .u64 (w64 (a+d))) 1).bind fun f=>
 (at? b (w64 (f))).bind fun g=>
 (i_DirMore_1 N g c).bind fun h=>
 (if decide (h<0)=true then
 L_BF_string_i1_l1 N b c m (w64 ((w64 (f))+1)) d
 else
 L_BF_string_i1_l1 N b c m a (w64 (f)))
 else
 some a)
def L_BF_string_i1 (N:Nat)(a:List Spot)(c:BA):Option (Int×Bool):=
 joinP (fun(b:Int)=>
 (if decide (b<(a.length:Int))=true then
 (at? a b).bind fun d=>
 (i_DirMore_1 N d c).bind fun f=>
 some (b,(f==0))
 else
 some (b,false))) fun g=>
 (L_BF_string_i1_l1 N a c N 0 (a.length:Int)).bind (fun h=>g h)
instance i204 (N:Nat)(b:List Spot)(c:BA):JG 141 (L_BF_string_i1 N b c) [RO 148 (b.map encSpot),VS c,.fn 142 []] 0 [] (fun r=>.tup [VI r.1,VB r.2]) (fun r=>[]):=.st e e Tryz.call141 fun B r=>.st e (Ev.lnF e) e (.j e (fun d=>[(0,RO 148 (b.map encSpot)),(1,VS c),(2,.fn 142 []),(8,VI (b.length:Int)),(9,VI d)]) (fun d=>[]) (fun _=>.L2 e (fun f g=>[(0,RO 148 (b.map encSpot)),(1,VS c),(2,.fn 142 []),(8,VI (b.length:Int)),(9,VI f),(10,VI g)]) (fun f g=>[]) (.k [0,1,2,8,9,10] []) fun _ f g _ l=>.q e (.a e e (.B fun _ m=>.st e (.sh e e m) e (.B fun _ o=>.st e (Ev.iaF e e o) e (.B fun _ p=>.st e (Ev.callx [] [] 0 e (sy p) e e (.cons (.agg (.d4 .nil)) (.d1 .nil)) e (.inl e) e e) e (.a e e (.R e (fun h=>⟨_,_,h,e,e⟩) (.k [0,1,2,8,9,10] [])) (.R e (fun h=>⟨_,_,h,e,e⟩) (.k [0,1,2,8,9,10] [])))))) (.X l e e (.n e (.J e (.k [0,1,2,8,9] [])))))) fun d=>.q e (.a e e (.B fun _ s=>.st e (Ev.iaF e e s) e (.B fun _ t=>.st e (Ev.callx [] [] 0 e (sy t) e e (.cons (.agg (.d4 .nil)) (.d1 .nil)) e (.inl e) e e) e (.Ek [] e e e))) (.Ek [] e e e)))
def L_Delete_Spot (N:Nat)(a:List Spot)(b:Int)(c:Int):Option ((List Spot)):=del? a b c
instance i205 (N:Nat)(a:List Spot)(b:Int)(c:Int):Sem Tryz.prog 144 (L_Delete_Spot N a b c) [.sl 0 148 0 a.length,VI b,VI c] 1 [(0,.vec 148 (a.map encSpot))] (fun r=>.sl 1 148 0 r.length) (fun r=>[(0,.gone),(1,.vec 148 (r.map encSpot))]):=⟨fun r h=>says_del Tryz.call144 Pe.ins144 (fun _=>e) h⟩
def L_Insert_Spot (N:Nat)(a:List Spot)(b:Int)(c:List Spot):Option ((List Spot)):=ins? a b c
instance i206 (N:Nat)(a:List Spot)(c:Int)(b:List Spot):Sem Tryz.prog 145 (L_Insert_Spot N a c b) [.sl 0 148 0 a.length,VI c,.sl 1 148 0 b.length] 2 [(0,.vec 148 (a.map encSpot)),(1,.vec 148 (b.map encSpot))] (fun r=>.sl 2 148 0 r.length) (fun r=>[(0,.gone),(1,.gone),(2,.vec 148 (r.map encSpot))]):=⟨fun r h=>says_ins Tryz.call145 Pe.ins145 (fun _=>e) h⟩
def i_DirMore_l1 (N:Nat)(c:List Spot):Nat→Int→(List Spot)→Option ((List Spot))
 |0,_,_=>none
 |m+1,d,a=>
 (if decide (d<(c.length:Int))=true then
 (at? c d).bind fun f=>
 (L_BF_string_i1 N a f.Key).bind fun b=>
 (if(f.Size==(-1:Int))=true then
 (if b.2=true then
 (L_Delete_Spot N a b.1 (w64 (b.1+1))).bind fun g=>
 i_DirMore_l1 N c m (w64 (d+1)) g
 else
 i_DirMore_l1 N c m (w64 (d+1)) a)
 else
 (if b.2=true then
 (at? a b.1).bind fun j=>
 i_DirMore_l1 N c m (w64 (d+1)) (a.set b.1.toNat f)
 else
 (L_Insert_Spot N a b.1 ([f]:List Spot)).bind fun h=>
 i_DirMore_l1 N c m (w64 (d+1)) h))
 else
 some a)
def i_DirMore (N:Nat)(a:List Spot)(c:List Spot):Option ((List Spot)×Bool):=
 (i_DirOk N a).bind fun d=>
 (if(!d)=true then
 some ([],false)
 else
 (cat? ([]:List Spot) a).bind fun f=>
 joinP (fun(b:List Spot)=>
 (i_DirOk N b).bind fun g=>
 (if(!g)=true then
 some ([],false)
 else
 some (b,true))) fun h=>
 (i_DirMore_l1 N c N 0 f).bind (fun j=>h j))
instance i207 (N:Nat)(m:List Spot)(b:List Spot):JG 77 (i_DirMore N m b) [RO 148 (m.map encSpot),RO 148 (b.map encSpot)] 0 [] (fun r=>.tup [.sl 0 148 0 r.1.length,VB r.2]) (fun r=>[(0,.vec 148 (r.1.map encSpot))]):=.st e e Tryz.call77 fun B r=>.q e (.c0 e i q fun _ _=>.a e e (.E e e (.n [0,1] [] [0] [] [10000000])) (.B fun _ s=>.st e (Ev.apW (f:=encSpot) (ontoN (f:=encSpot) e) (addsF e) e bt148 e s) e (.j e (fun c=>[(6,.sl 0 148 0 c.length)]) (fun c=>[(0,.vec 148 (c.map encSpot))]) (fun _=>.st e (Ev.lnF e) e (.L2 e (fun g d=>[(6,.sl 0 148 0 d.length),(16,RO 148 (b.map encSpot)),(17,VI (b.length:Int)),(18,VI g)]) (fun g d=>[(0,.vec 148 (d.map encSpot))]) (.k [6,16,17,18] [13304]) fun _ g d _ t=>.q e (.a e e (.q e (.B fun o u=>.st e (Ev.iaF e e u) e (.f (hp:=(.cons (.borrow e (by decide) lw) (.d1 (.cons (.fn .nil) .nil)))) (hcase:=fun _=>(.inr ⟨rfl,ownL_root trivial⟩)) [] [0] 0 e i q fun _ _=>.q e (.a' e e (fun l=>.a e e (.f [0] [] 1 e i q fun _ _=>.R e (fun h=>⟨_,_,h,e,e⟩) (.k [6,16,17,18] [42024])) (.kn e e e l (.R e (fun h=>⟨_,_,h,e,e⟩) (.k [6,16,17,18] [0])))) (fun l=>.kn e e e l (.a e e (.B fun _ p=>.st e (Ev.iaW e e e p) e (.st e (Ev.stE (f:=encSpot) (v':=o) e e (at_some p).2 e (.d4 .nil) e e e e e) e (.R e (fun h=>⟨_,_,h,e,e⟩) (.k [6,16,17,18] [0])))) (.st e (Ev.bsW (ys:=([o]:List Spot)) (f:=encSpot) e (.d4 .nil) e e e e e) e (.f [0,33816] [] 1 e i q fun _ _=>.R e (fun h=>⟨_,_,h,e,e⟩) (.k [6,16,17,18] [33832]))))))))) (.X t e e (.n e (.J e (.k [6] [0]))))))) fun c=>.q e (.f (hp:=(.cons (.borrow e (by decide) lw) .nil)) (hcase:=fun _=>(.inr ⟨rfl,ownL_root trivial⟩)) [] [0] 0 e i q fun _ _=>.a e e (.E e e (.n [0,1] [] [0] [] [10000000])) (.Ek [0] e e e)))))
def i_OpenShelf_l1 (N:Nat)(c:Disk)(a:Manifest×Bool):Nat→Int→Option ((Shelf×(List Raw)×Int)⊕(Unit))
 |0,_=>none
 |m+1,b=>
 (if decide (b<(a.1.Segs.length:Int))=true then
 (at? a.1.Segs b).bind fun d=>
 (i_SegName N d).bind fun f=>
 (i_FileAt N c f).bind fun g=>
 (if(!g.2)=true then
 some (Sum.inl ((Shelf.mk (Manifest.mk ([]) 0 0 0 ([])) ([]) 0),[],3))
 else
 i_OpenShelf_l1 N c a m (w64 (b+1)))
 else
 some (Sum.inr ()))
def i_OpenShelf_l2 (N:Nat)(h:Disk)(b:Manifest×Bool):Nat→Int→Int→(List Raw)→(List Spot)→Option ((Shelf×(List Raw)×Int)⊕(Int×(List Raw)×(List Spot)))
 |0,_,_,_,_=>none
 |m+1,c,j,d,k=>
 (if decide (c<(b.1.Segs.length:Int))=true then
 (at? b.1.Segs c).bind fun f=>
 (i_SegName N f).bind fun p=>
 (i_FileAt N h p).bind fun a=>
 (i_ScanSeg N a.1 f).bind fun l=>
 (i_batchesOf N a.1).bind fun g=>
 joinP (fun(y:Unit)=>
 joinP (fun(s:List Raw)=>
 (cat? k l.1).bind fun t=>
 i_OpenShelf_l2 N h b m (w64 (c+1)) (imax j l.2.2) s t) fun n=>
 (if decide (g.2<(a.1.size:Int))=true then
 (i_SegName N f).bind fun u=>
 (stake? a.1 g.2).bind fun w=>
 (cat? d ([(Raw.mk 1 u (⟨#[]⟩:BA) w)]:List Raw)).bind fun x=>
 n x
 else
 n d)) fun o=>
 (if decide (g.2<(a.1.size:Int))=true then
 (if(decide (c<(w64 ((b.1.Segs.length:Int)-1))))=true then
 some (Sum.inl ((Shelf.mk (Manifest.mk ([]) 0 0 0 ([])) ([]) 0),[],4))
 else
 o ())
 else
 o ())
 else
 some (Sum.inr (j,d,k)))
def i_OpenShelf (N:Nat)(b:Disk):Option (Shelf×(List Raw)×Int):=
 (i_DiskOk N b).bind fun h=>
 (if(!h)=true then
 some ((Shelf.mk (Manifest.mk ([]) 0 0 0 ([])) ([]) 0),[],1)
 else
 (i_FileAt N b (⟨#[109]⟩:BA)).bind fun f=>
 (i_ReadManifest N f.1).bind fun a=>
 (if(!f.2)=true then
 some ((Shelf.mk (Manifest.mk ([]) 0 0 0 ([])) ([]) 0),[],2)
 else
 (if(!a.2)=true then
 some ((Shelf.mk (Manifest.mk ([]) 0 0 0 ([])) ([]) 0),[],2)
 else
 joinP (fun(o:Unit)=>
 (i_cleaning N b a.1).bind fun j=>
 joinP (fun(c:Int×(List Raw)×(List Spot))=>
 (i_DirMore N ([]:List Spot) c.2.2).bind fun g=>
 (if(!g.2)=true then
 some ((Shelf.mk (Manifest.mk ([]) 0 0 0 ([])) ([]) 0),[],4)
 else
 some ((Shelf.mk a.1 g.1 c.1),c.2.1,0))) fun k=>
 (i_OpenShelf_l2 N b a N 0 a.1.Base j ([]:(List Spot))).bind (Sum.elim (fun l=>some l) (fun(d:Int×(List Raw)×(List Spot))=>k (d.1,d.2.1,d.2.2)))) fun m=>
 (i_OpenShelf_l1 N b a N 0).bind (Sum.elim (fun n=>some n) (fun(p:Unit)=>m ())))))
instance i208 (N:Nat)(d:Disk):JG 31 (i_OpenShelf N d) [.agg [RO 141 (d.Files.map encFile)]] 0 [] (fun r=>.tup [.agg [.sl 0 3 0 r.1.Man.Segs.length,VI r.1.Man.Next,VI r.1.Man.Base,VI r.1.Man.BaseTerm,.sl 1 3 0 r.1.Man.Conf.length,.sl 2 148 0 r.1.Dir.length,VI r.1.Stamp],.sl 3 138 0 r.2.1.length,VI r.2.2]) (fun r=>[(0,.vec 3 (r.1.Man.Segs.map encI)),(1,.vec 3 (r.1.Man.Conf.map encI)),(2,.vec 148 (r.1.Dir.map encSpot)),(3,.vec 138 (r.2.1.map encRaw))]):=.st e e Tryz.call31 fun B r=>.q e (.c0 e i q fun _ _=>.a e e (.E e e (.n [0,1,2] [] [0,1] [] [10000000,10000001,10000002,10000064])) (.c0 e i q fun _ _=>.f [] [] 2 e i q fun b _=>.q e (.q e (.a e e (.E e e (.n [0,1,2] [] [0,1] [] [10000000,10000001,10000002,10000064])) (.a e e (.E e e (.n [0,1,2] [] [0,1] [] [10000000,10000001,10000002,10000064])) (.j e (fun _=>[(1,.ptr 0 0),(2,.ptr 1 0),(7,.ptr 2 0)]) (fun _=>[(0,.box [RO 141 (d.Files.map encFile)]),(1,.box [.sl 3 3 0 (([]:(List Int)).length),VI 0,VI 0,VI 0,.sl 4 3 0 (([]:(List Int)).length),.sl 5 148 0 (([]:(List Spot)).length),VI 0]),(2,.box [.sl 6 3 0 b.1.Segs.length,VI b.1.Next,VI b.1.Base,VI b.1.BaseTerm,.sl 7 3 0 b.1.Conf.length]),(3,.vec 3 (([]:(List Int)).map encI)),(4,.vec 3 (([]:(List Int)).map encI)),(5,.vec 148 (([]:(List Spot)).map encSpot)),(6,.vec 3 (b.1.Segs.map encI)),(7,.vec 3 (b.1.Conf.map encI))]) (fun _=>.L1 e (fun t=>[(1,.ptr 0 0),(2,.ptr 1 0),(7,.ptr 2 0),(49,.sl 3 3 0 b.1.Segs.length),(50,VI (b.1.Segs.length:Int)),(51,VI t)]) (fun t=>[(0,.box [RO 141 (d.Files.map encFile)]),(1,.box [.sl 4 3 0 (([]:(List Int)).length),VI 0,VI 0,VI 0,.sl 5 3 0 (([]:(List Int)).length),.sl 6 148 0 (([]:(List Spot)).length),VI 0]),(2,.box [.sl 3 3 0 b.1.Segs.length,VI b.1.Next,VI b.1.Base,VI b.1.BaseTerm,.sl 7 3 0 b.1.Conf.length]),(3,.vec 3 (b.1.Segs.map encI)),(4,.vec 3 (([]:(List Int)).map encI)),(5,.vec 3 (([]:(List Int)).map encI)),(6,.vec 148 (([]:(List Spot)).map encSpot)),(7,.vec 3 (b.1.Conf.map encI))]) (.n [1,2,7,49,50,51] [1000,1016,17464,17400,17401] [] [1016] [1000,1016,17464,17400,20000000,20000001,20000002,17401]) fun _ t _ u=>.q e (.a e e (.q e (.B fun _ w=>.st e (Ev.iaW e e e w) e (.st e (Ev.ldE (f:=encI) e e (at_some w).2 e e e) e (.c0 e i q fun _ _=>.c0 e i q fun _ _=>.dn e (.a e e (.Xr u e e (.il (.e e (.E e e (.n [0,1,2] [] [0,1] [] [10000000,10000001,10000002,10000064]))))) (.R e (fun h=>⟨_,h,e,e⟩) (.k [1,2,7,49,50,51] [0,1,2,3,4,5,6,7]))))))) (.X u e e (.ir (.n e (.J e (.k [1,2,7] [0,1,2,4,5,6,3,7]))))))) fun _=>.f (hp:=(.cons (.agg (.d1 .nil)) (.cons (.agg (.cons (.borrow e (by decide) lw) (.d2 (.d1 (.cons (.borrow e (by decide) lw) .nil))))) .nil))) (hcase:=fun _=>(.inr ⟨rfl,ownL_root ⟨own_rows (fun _=>e) _,trivial⟩⟩)) [] [6,7] 1 e i q fun _ _=>.j e (fun g=>[(2,.ptr 0 0),(13,.ptr 1 0),(14,.sl 2 138 0 g.2.1.length),(15,.sl 3 148 0 g.2.2.length)]) (fun g=>[(0,.box [.sl 4 3 0 (([]:(List Int)).length),VI 0,VI 0,VI 0,.sl 5 3 0 (([]:(List Int)).length),.sl 6 148 0 (([]:(List Spot)).length),VI 0]),(1,.box [.sl 7 3 0 b.1.Segs.length,VI b.1.Next,VI b.1.Base,VI b.1.BaseTerm,.sl 8 3 0 b.1.Conf.length,.sl 9 148 0 (([]:(List Spot)).length),VI g.1]),(2,.vec 138 (g.2.1.map encRaw)),(3,.vec 148 (g.2.2.map encSpot)),(4,.vec 3 (([]:(List Int)).map encI)),(5,.vec 3 (([]:(List Int)).map encI)),(6,.vec 148 (([]:(List Spot)).map encSpot)),(7,.vec 3 (b.1.Segs.map encI)),(8,.vec 3 (b.1.Conf.map encI)),(9,.vec 148 (([]:(List Spot)).map encSpot))]) (fun _=>.L4 e (fun o p l c=>[(1,.ptr 0 0),(2,.ptr 1 0),(7,.ptr 2 0),(13,.ptr 3 0),(14,.sl 4 138 0 l.length),(15,.sl 5 148 0 c.length),(74,.sl 6 3 0 b.1.Segs.length),(75,VI (b.1.Segs.length:Int)),(76,VI o)]) (fun o p l c=>[(0,.box [RO 141 (d.Files.map encFile)]),(1,.box [.sl 7 3 0 (([]:(List Int)).length),VI 0,VI 0,VI 0,.sl 8 3 0 (([]:(List Int)).length),.sl 9 148 0 (([]:(List Spot)).length),VI 0]),(2,.box [.sl 6 3 0 b.1.Segs.length,VI b.1.Next,VI b.1.Base,VI b.1.BaseTerm,.sl 10 3 0 b.1.Conf.length]),(3,.box [.sl 6 3 0 b.1.Segs.length,VI b.1.Next,VI b.1.Base,VI b.1.BaseTerm,.sl 10 3 0 b.1.Conf.length,.sl 11 148 0 (([]:(List Spot)).length),VI p]),(4,.vec 138 (l.map encRaw)),(5,.vec 148 (c.map encSpot)),(6,.vec 3 (b.1.Segs.map encI)),(7,.vec 3 (([]:(List Int)).map encI)),(8,.vec 3 (([]:(List Int)).map encI)),(9,.vec 148 (([]:(List Spot)).map encSpot)),(10,.vec 3 (b.1.Conf.map encI)),(11,.vec 148 (([]:(List Spot)).map encSpot))]) (.n [1,2,7,13,14,15,74,75,76] [0,1,2,58408,62472,6,3,4,5,7] [15] [58408] [0,1,2,58408,62472,10000000,6,3,4,5,7,20000000]) fun _ o p l c _ x=>.q e (.a e e (.q e (.B fun v y=>.st e (Ev.iaW e e e y) e (.st e (Ev.ldE (f:=encI) e e (at_some y).2 e e e) e (.c0 e i q fun _ _=>.c0 e i q fun z _=>.dn e (.f [] [] 2 e i q fun m _=>.c1 e i q fun a0 _=>.j e (fun _=>[(1,.ptr 0 0),(2,.ptr 1 0),(7,.ptr 2 0),(13,.ptr 3 0),(14,.sl 4 138 0 l.length),(15,.sl 5 148 0 c.length),(17,VI v),(18,VS z.1),(20,.sl 6 148 0 m.1.length),(22,VI m.2.2),(24,VI a0.2),(74,.sl 7 3 0 b.1.Segs.length),(75,VI (b.1.Segs.length:Int)),(76,VI o)]) (fun _=>[(0,.box [RO 141 (d.Files.map encFile)]),(1,.box [.sl 8 3 0 (([]:(List Int)).length),VI 0,VI 0,VI 0,.sl 9 3 0 (([]:(List Int)).length),.sl 10 148 0 (([]:(List Spot)).length),VI 0]),(2,.box [.sl 7 3 0 b.1.Segs.length,VI b.1.Next,VI b.1.Base,VI b.1.BaseTerm,.sl 11 3 0 b.1.Conf.length]),(3,.box [.sl 7 3 0 b.1.Segs.length,VI b.1.Next,VI b.1.Base,VI b.1.BaseTerm,.sl 11 3 0 b.1.Conf.length,.sl 12 148 0 (([]:(List Spot)).length),VI p]),(4,.vec 138 (l.map encRaw)),(5,.vec 148 (c.map encSpot)),(6,.vec 148 (m.1.map encSpot)),(7,.vec 3 (b.1.Segs.map encI)),(8,.vec 3 (([]:(List Int)).map encI)),(9,.vec 3 (([]:(List Int)).map encI)),(10,.vec 148 (([]:(List Spot)).map encSpot)),(11,.vec 3 (b.1.Conf.map encI)),(12,.vec 148 (([]:(List Spot)).map encSpot))]) (fun _=>.q e (.a e e (.a e e (.Xr x e e (.il (.e e (.E e e (.n [0,1,2] [] [0,1] [] [10000000,10000001,10000002,10000064]))))) (.J e (.k [1,2,7,13,14,15,17,18,20,22,24,74,75,76] [0,1,2,3,4,5,87048,6,7,8,9,10,11]))) (.J e (.k [1,2,7,13,14,15,17,18,20,22,24,74,75,76] [0,1,2,3,4,5,87048,6,7,8,9,10,11])))) fun _=>.j e (fun s=>[(1,.ptr 0 0),(2,.ptr 1 0),(7,.ptr 2 0),(13,.ptr 3 0),(14,.sl 4 138 0 s.length),(15,.sl 5 148 0 c.length),(20,.sl 6 148 0 m.1.length),(22,VI m.2.2),(74,.sl 7 3 0 b.1.Segs.length),(75,VI (b.1.Segs.length:Int)),(76,VI o)]) (fun s=>[(0,.box [RO 141 (d.Files.map encFile)]),(1,.box [.sl 8 3 0 (([]:(List Int)).length),VI 0,VI 0,VI 0,.sl 9 3 0 (([]:(List Int)).length),.sl 10 148 0 (([]:(List Spot)).length),VI 0]),(2,.box [.sl 7 3 0 b.1.Segs.length,VI b.1.Next,VI b.1.Base,VI b.1.BaseTerm,.sl 11 3 0 b.1.Conf.length]),(3,.box [.sl 7 3 0 b.1.Segs.length,VI b.1.Next,VI b.1.Base,VI b.1.BaseTerm,.sl 11 3 0 b.1.Conf.length,.sl 12 148 0 (([]:(List Spot)).length),VI p]),(4,.vec 138 (s.map encRaw)),(5,.vec 148 (c.map encSpot)),(6,.vec 148 (m.1.map encSpot)),(7,.vec 3 (b.1.Segs.map encI)),(8,.vec 3 (([]:(List Int)).map encI)),(9,.vec 3 (([]:(List Int)).map encI)),(10,.vec 148 (([]:(List Spot)).map encSpot)),(11,.vec 3 (b.1.Conf.map encI)),(12,.vec 148 (([]:(List Spot)).map encSpot))]) (fun _=>.a e e (.c0 e i q fun a1 _=>.B fun a2 a3=>.st e (Ev.ssH e e a3) e (.st e (Ev.bsW (ys:=([(Raw.mk 1 a1 (⟨#[]⟩:BA) a2)]:List Raw)) (f:=encRaw) e (.d4 .nil) e e e e e) e (.B fun _ a4=>.st e (Ev.apW (f:=encRaw) (ontoW e e e) (addsW e e e (fun _=>e)) e bt138 e a4) e (.dn e (.J e (.k [1,2,7,13,14,15,20,22,74,75,76] [0,1,2,3,107624,5,6,7,8,9,10,11,12])))))) (.J e (.k [1,2,7,13,14,15,20,22,74,75,76] [0,1,2,3,4,5,6,7,8,9,10,11,12]))) fun s=>.B fun _ a5=>.st e (Ev.apW (f:=encSpot) (ontoW e e e) (addsW e e e (fun _=>e)) e bt148 e a5) e (.R e (fun h=>⟨_,_,_,_,h,e,e⟩) (.k [1,2,7,13,14,15,74,75,76] [0,1,2,3,4,111624,7,8,9,10,11,12]))))))) (.X x e e (.ir (.n e (.J e (.k [2,13,14,15] [1,3,4,5,7,8,9,6,10,11]))))))) fun g=>.f (hp:=(.cons (.nil _ _) (.cons (.borrow e (by decide) lw) .nil))) (hcase:=fun _=>(.inr ⟨rfl,ownL_root ⟨own_rows (fun _=>e) _,trivial⟩⟩)) [] [3] 1 e i q fun _ _=>.q e (.a e e (.E e e (.n [0,1,2] [] [0,1] [] [10000000,10000001,10000002,10000064])) (.Ek [7,8,123896,2] e e e))))))))
def i_ShelfMap_l1 (N:Nat)(d:Disk)(b:Shelf):Nat→Int→(List Pair)→Option (((List Pair)×Bool)⊕((List Pair)))
 |0,_,_=>none
 |m+1,c,f=>
 (if decide (c<(b.Dir.length:Int))=true then
 (at? b.Dir c).bind fun a=>
 (i_SegName N a.Seg).bind fun h=>
 (i_FileAt N d h).bind fun g=>
 (if decide ((w64 (a.At+a.Size))>(g.1.size:Int))=true then
 some (Sum.inl ([],false))
 else
 (scut? g.1 a.At (w64 (a.At+a.Size))).bind fun j=>
 (cat? f ([(Pair.mk a.Key j)]:List Pair)).bind fun k=>
 i_ShelfMap_l1 N d b m (w64 (c+1)) k)
 else
 some (Sum.inr f))
def i_ShelfMap (N:Nat)(a:Disk)(b:Shelf):Option ((List Pair)×Bool):=
 (i_DiskOk N a).bind fun c=>
 (if(!c)=true then
 some ([],false)
 else
 (i_DirOk N b.Dir).bind fun d=>
 (if(!d)=true then
 some ([],false)
 else
 joinP (fun(f:List Pair)=>
 some (f,true)) fun g=>
 (i_ShelfMap_l1 N a b N 0 ([]:(List Pair))).bind (Sum.elim (fun h=>some h) (fun(j:List Pair)=>g j))))
instance i209 (N:Nat)(g:Disk)(b:Shelf):JG 32 (i_ShelfMap N g b) [.agg [RO 141 (g.Files.map encFile)],.agg [RO 3 (b.Man.Segs.map encI),VI b.Man.Next,VI b.Man.Base,VI b.Man.BaseTerm,RO 3 (b.Man.Conf.map encI),RO 148 (b.Dir.map encSpot),VI b.Stamp]] 0 [] (fun r=>.tup [.sl 0 79 0 r.1.length,VB r.2]) (fun r=>[(0,.vec 79 (r.1.map encPair))]):=.st e e Tryz.call32 fun B r=>.q e (.q e (.c0 e i q fun _ _=>.a e e (.E e e (.n [0,1] [] [0] [] [10000000])) (.c0 e i q fun _ _=>.a e e (.E e e (.n [0,1] [] [0] [] [10000000])) (.j e (fun c=>[(6,.sl 0 79 0 c.length)]) (fun c=>[(0,.vec 79 (c.map encPair))]) (fun _=>.st e (Ev.lnF e) e (.L2 e (fun l d=>[(2,.ptr 0 0),(6,.sl 1 79 0 d.length),(21,RO 148 (b.Dir.map encSpot)),(22,VI (b.Dir.length:Int)),(23,VI l)]) (fun l d=>[(0,.box [RO 141 (g.Files.map encFile)]),(1,.vec 79 (d.map encPair))]) (.n [2,6,21,22,23] [1000] [6] [] [1000,10000000]) fun _ l d _ m=>.q e (.a e e (.q e (.B fun o p=>.st e (Ev.iaF e e p) e (.c0 e i q fun _ _=>.c0 e i q fun _ _=>.dn e (.q e (.a e e (.Xr m e e (.il (.e e (.E e e (.n [0,1] [] [0] [] [10000000]))))) (.B fun s t=>.st e (Ev.ssB e e e t) e (.st e (Ev.bsW (ys:=([(Pair.mk o.Key s)]:List Pair)) (f:=encPair) e (.d2 .nil) e e e e e) e (.B fun _ u=>.st e (Ev.apW (f:=encPair) (ontoW e e e) (addsW e e e (fun _=>e)) e bt79 e u) e (.dn e (.R e (fun h=>⟨_,_,h,e,e⟩) (.k [2,6,21,22,23] [0,42184]))))))))))) (.X m e e (.ir (.n e (.J e (.k [6] [1])))))))) fun c=>.Ek [0] e e e))))
def i_Fold_1 (N:Nat)(a:Applied)(b:Int):Option (Bool):=
 some (a.Index==b)
instance i210 (N:Nat)(a:Applied)(b:Int):JG 80 (i_Fold_1 N a b) [.agg [VI a.Node,VI a.Term,VI a.Index,VI a.Entry.Term,VI a.Entry.Kind,VS a.Entry.Data],.ptr 0 0] 1 [(0,.box [VI b])] (fun r=>VB r) (fun r=>[(0,.box [VI b])]):=.st e e Tryz.call80 fun B r=>.Ek [0] e e e
def L_IF_Applied_i1_l1 (N:Nat)(b:List Applied)(c:Int):Nat→Int→Option ((Int)⊕(Unit))
 |0,_=>none
 |m+1,a=>
 (if decide (a<(b.length:Int))=true then
 (at? b a).bind fun d=>
 (i_Fold_1 N d c).bind fun f=>
 (if f=true then
 some (Sum.inl a)
 else
 L_IF_Applied_i1_l1 N b c m (w64 (a+1)))
 else
 some (Sum.inr ()))
def L_IF_Applied_i1_l1_r (N:Nat)(c:List Applied)(b:Int):(List Applied)→Int→Option ((Int)⊕(Unit))
 |[],a=>
 some (Sum.inr ())
 |hd::tl,a=>
 (some hd).bind fun d=>
 (i_Fold_1 N d b).bind fun f=>
 (if f=true then
 some (Sum.inl a)
 else
 L_IF_Applied_i1_l1_r N c b tl (w64 (a+1)))
theorem L_IF_Applied_i1_l1_rng (N:Nat)(a:List Applied)(b:Int)(hx:a.length≤1099511627776):∀(d k m:Nat),a.length=k+d→d<m→L_IF_Applied_i1_l1 N a b m (k:Int)=L_IF_Applied_i1_l1_r N a b (a.drop k) (k:Int):=by
 intro d
 induction d with
 |zero=>
  intro k m hd hm
  obtain⟨m,rfl⟩:∃q,m=q+1:=⟨m-1,by omega⟩
  rw[L_IF_Applied_i1_l1,IQ (by simp;omega),DN (by omega),L_IF_Applied_i1_l1_r]
 |succ d ih=>
  intro k m hd hm
  obtain⟨m,rfl⟩:∃q,m=q+1:=⟨m-1,by omega⟩
  have hk:k<a.length:=by omega
  rw[L_IF_Applied_i1_l1,IP (by simp;omega),DG hk,L_IF_Applied_i1_l1_r]
  have c:=at_lt hk
  have f:=WS (k:=k) (by omega)
  have g:=ih (k+1) m
  simp only[c,f,g (by omega) (by omega)]
theorem L_IF_Applied_i1_l1_eq {N:Nat}(a:List Applied)(b:Int)(hx:a.length≤1099511627776)(hN:a.length<N):L_IF_Applied_i1_l1 N a b N 0=L_IF_Applied_i1_l1_r N a b a 0:=L_IF_Applied_i1_l1_rng N a b hx a.length 0 N (by omega) hN
def L_IF_Applied_i1 (N:Nat)(a:List Applied)(b:Int):Option (Int):=
 joinP (fun(f:Unit)=>
 some (-1:Int)) fun c=>
 (L_IF_Applied_i1_l1 N a b N 0).bind (Sum.elim (fun d=>some d) (fun(g:Unit)=>c ()))
instance i211 (N:Nat)(c:List Applied)(b:Int):JG 79 (L_IF_Applied_i1 N c b) [RO 102 (c.map encApplied),.fn 80 [.ptr 0 0]] 1 [(0,.box [VI b])] (fun r=>VI r) (fun r=>[(0,.box [VI b])]):=.st e e Tryz.call79 fun B r=>.j e (fun _=>[]) (fun _=>[(0,.box [VI b])]) (fun _=>.st e (Ev.lnF e) e (.L1 e (fun d=>[(0,RO 102 (c.map encApplied)),(1,.fn 80 [.ptr 0 0]),(7,VI (c.length:Int)),(8,VI d)]) (fun d=>[(0,.box [VI b])]) (.k [0,1,7,8] [0]) fun _ d _ f=>.q e (.a e e (.q e (.B fun _ g=>.st e (Ev.iaF e e g) e (.B fun _ l=>.st e (Ev.callx [0] [] 0 e (sy l) e e (.cons (.agg (.d4 (.d2 .nil))) (.cons (.ptr e) .nil)) e (.inl e) e e) e (.a e e (.Xr f e e (.il (.e e (.Ek [0] e e e)))) (.R e (fun h=>⟨_,h,e,e⟩) (.k [0,1,7,8] [0])))))) (.X f e e (.ir (.n e (.J e (.k [] [0])))))))) fun _=>.Ek [0] e e e
def i_CommandOk (N:Nat)(a:Command):Option (Bool):=
 joinP (fun(c:Bool×Bool)=>
 (i_within N a.Session 0 100000).bind fun d=>
 (if d=true then
 (i_within N a.Seq 0 100000).bind fun f=>
 (if f=true then
 (i_within N (a.Key.size:Int) 1 9).bind fun g=>
 (if g=true then
 (if c.1=true then
 some c.2
 else
 some false)
 else
 some false)
 else
 some false)
 else
 some false)) fun b=>
 (if(a.Op==1)=true then
 some (((a.Op==1)&&((a.Session==0)&&((a.Seq==0)&&(decide (a.Key=(⟨#[]⟩:BA))&&(decide (a.Value=(⟨#[]⟩:BA))&&(decide (a.Old=(⟨#[]⟩:BA))&&true)))))) ^^ false)
 else
 (if(a.Op==2)=true then
 b (decide (a.Value=(⟨#[]⟩:BA)),decide (a.Old=(⟨#[]⟩:BA)))
 else
 (if(a.Op==4)=true then
 b (decide (a.Value=(⟨#[]⟩:BA)),decide (a.Old=(⟨#[]⟩:BA)))
 else
 (if(a.Op==3)=true then
 b (decide ((a.Value.size:Int)≤12),decide (a.Old=(⟨#[]⟩:BA)))
 else
 (if(a.Op==5)=true then
 b (decide ((a.Value.size:Int)≤12),decide ((a.Old.size:Int)≤12))
 else
 some false)))))
instance i212 (N:Nat)(b:Command):Sem Tryz.prog 212 (i_CommandOk N b) [.agg [VI b.Op,VI b.Session,VI b.Seq,VS b.Key,VS b.Value,VS b.Old]] 0 [] (fun r=>VB r) (fun r=>[]):=.so s212 e Tryz.call212 fun B r=>.dn e (.j e (fun c=>[(1,.ptr 0 0),(3,VB c.1),(4,VB c.2)]) (fun c=>[(0,.box [VI b.Op,VI b.Session,VI b.Seq,VS b.Key,VS b.Value,VS b.Old])]) (fun _=>.a e e (.Ek [] e e e) (.q e (.a e e (.dn e (.J e (.k [1,3,4] [1000]))) (.a e e (.dn e (.J e (.k [1,3,4] [1000]))) (.a e e (.J e (.k [1,3,4] [1000])) (.a e e (.J e (.k [1,3,4] [1000])) (.Ek [] e e e))))))) fun c=>.q e (.c0 e i q fun _ _=>.a e e (.c0 e i q fun _ _=>.a e e (.c0 e i q fun _ _=>.a e e (.a e e (.Ek [] e e e) (.Ek [] e e e)) (.Ek [] e e e)) (.Ek [] e e e)) (.Ek [] e e e)))
def i_ReadCommand (N:Nat)(h:BA):Option (Command×Bool):=
 (r_byte N (Treader.mk h 0 false)).bind fun a=>
 (r_num N a.2).bind fun b=>
 (r_num N b.2).bind fun c=>
 (r_text N c.2).bind fun d=>
 (r_text N d.2).bind fun f=>
 (r_text N f.2).bind fun g=>
 (r_done N g.2).bind fun j=>
 (if(!j)=true then
 some ((Command.mk 0 0 0 (⟨#[]⟩:BA) (⟨#[]⟩:BA) (⟨#[]⟩:BA)),false)
 else
 (i_CommandOk N (Command.mk a.1 b.1 c.1 d.1 f.1 g.1)).bind fun k=>
 (if(!k)=true then
 some ((Command.mk 0 0 0 (⟨#[]⟩:BA) (⟨#[]⟩:BA) (⟨#[]⟩:BA)),false)
 else
 some ((Command.mk a.1 b.1 c.1 d.1 f.1 g.1),true)))
instance i213 (N:Nat)(b:BA):JG 147 (i_ReadCommand N b) [VS b] 0 [] (fun r=>.tup [.agg [VI r.1.Op,VI r.1.Session,VI r.1.Seq,VS r.1.Key,VS r.1.Value,VS r.1.Old],VB r.2]) (fun r=>[]):=.st e e Tryz.call147 fun B r=>.f [5128] [] 0 e i q fun _ _=>.f [5128] [] 0 e i q fun _ _=>.f [5128] [] 0 e i q fun _ _=>.f [5128] [] 0 e i q fun _ _=>.f [5128] [] 0 e i q fun _ _=>.f [5128] [] 0 e i q fun _ _=>.q e (.q e (.f [5128] [] 0 e i q fun _ _=>.a e e (.Ek [] e e e) (.c0 e i q fun _ _=>.a e e (.Ek [] e e e) (.Ek [] e e e))))
def S_Index (N:Nat)(a:BA)(b:BA):Option (Int):=index1? a b
instance i214 (N:Nat)(a:BA)(b:BA):Sem Tryz.prog 300 (S_Index N a b) [VS a,VS b] 0 [] (fun r=>VI r) (fun r=>[]):=⟨fun r h=>says_index1 Tryz.call300 Go.Proofs.Tryz.strings_Index_one h⟩
def S_genSplit_l1 (N:Nat)(g:BA)(d:BA)(h:Int)(j:Int):Nat→BA→Int→(List BA)→Option (BA×Int×(List BA))
 |0,_,_,_=>none
 |m+1,b,a,c=>
 (if(decide (a<(w64 ((imin j (w64 ((g.size:Int)+1)))-1))))=true then
 (S_Index N b d).bind fun f=>
 (if decide (f<0)=true then
 some (b,a,c)
 else
 (stake? b (w64 (f+h))).bind fun k=>
 (at? c a).bind fun n=>
 (sdrop? b (w64 (f+(d.size:Int)))).bind fun l=>
 S_genSplit_l1 N g d h j m l (w64 (a+1)) (c.set a.toNat k))
 else
 some (b,a,c))
def S_genSplit (N:Nat)(c:BA)(f:BA)(g:Int)(b:Int):Option (Nat×(List BA)):=
 (if(b==0)=true then
 some (0,[])
 else
 (if decide (f=(⟨#[]⟩:BA))=true then
 none
 else
 (if decide (b<0)=true then
 none
 else
 (mk? (⟨#[]⟩:BA) (imin b (w64 ((c.size:Int)+1)))).bind fun h=>
 joinP (fun(a:BA×Int×(List BA))=>
 (at? a.2.2 a.2.1).bind fun k=>
 (take? (a.2.2.set a.2.1.toNat a.1) (w64 (a.2.1+1))).bind fun l=>
 some ((w64 (a.2.1+1)).toNat,(a.2.2.set a.2.1.toNat a.1))) fun j=>
 (S_genSplit_l1 N c f g b N c 0 h).bind (fun d=>j (d.1,d.2.1,d.2.2)))))
instance i215 (N:Nat)(d:BA)(g:BA)(l:Int)(m:Int):JG 284 (S_genSplit N d g l m) [VS d,VS g,VI l,VI m] 0 [] (fun r=>.sl 0 9 0 r.1) (fun r=>[(0,.vec 9 (r.2.map encS))]):=.st e e Tryz.call284 fun B r=>.q e (.a e e (.E e e (.n [0] [] [0] [] [10000000])) (.q e (.a e e .no (.q e (.a e e .no (.B fun _ w=>.st e (Ev.msW (f:=encS) (zv:=(⟨#[]⟩:BA)) e e e bt9 e w) e (.j e (fun b=>[(0,VS b.1),(9,.sl 0 9 0 b.2.2.length),(10,VI b.2.1)]) (fun b=>[(0,.vec 9 (b.2.2.map encS))]) (fun _=>.L3 e (fun o p c=>[(0,VS o),(1,VS g),(2,VI l),(3,VI (w64 ((imin m (w64 ((d.size:Int)+1)))-1))),(9,.sl 0 9 0 c.length),(10,VI p)]) (fun o p c=>[(0,.vec 9 (c.map encS))]) (.k [0,1,2,3,9,10] [33784]) fun _ o p c _ s=>.q e (.a e e (.c0 e i q fun _ _=>.q e (.a e e (.X s e e (.n e (.J e (.k [0,9,10] [0])))) (.B fun x y=>.st e (Ev.ssH e e y) e (.B fun _ t=>.st e (Ev.iaW e e e t) e (.st e (Ev.stE (f:=encS) (v':=x) e e (at_some t).2 e (.d1 .nil) e e e e e) e (.B fun _ v=>.st e (Ev.ssL e e v) e (.R e (fun h=>⟨_,_,_,h,e,e⟩) (.k [0,1,2,3,9,10] [0])))))))) (.X s e e (.n e (.J e (.k [0,9,10] [0])))))) fun b=>.B fun _ u=>.st e (Ev.iaW e e e u) e (.st e (Ev.stE (f:=encS) (v':=b.1) e e (at_some u).2 e (.d1 .nil) e e e e e) e (.B fun _ z=>.st e (Ev.slWh (xs:=(b.2.2.set b.2.1.toNat b.1)) e (by simp) e z) e (.Ek [0] e e e))))))))))
def S_SplitN (N:Nat)(b:BA)(c:BA)(d:Int):Option (Nat×(List BA)):=
 (S_genSplit N b c 0 d).bind fun a=>
 some (a.1,a.2)
instance i216 (N:Nat)(a:BA)(b:BA)(c:Int):JG 266 (S_SplitN N a b c) [VS a,VS b,VI c] 0 [] (fun r=>.sl 0 9 0 r.1) (fun r=>[(0,.vec 9 (r.2.map encS))]):=.st e e Tryz.call266 fun B r=>.c1 e i q fun _ _=>.Ek [5144] e e e
def i_readSession (N:Nat)(g:Pair):Option (Tsession×Bool×Bool):=
 (S_CutPrefix N g.Key (⟨#[115]⟩:BA)).bind fun b=>
 (i_ReadDecimal N b.1).bind fun c=>
 (if(!b.2)=true then
 some ((Tsession.mk 0 0 0 (⟨#[]⟩:BA)),false,(!b.2))
 else
 (if(!c.2)=true then
 some ((Tsession.mk 0 0 0 (⟨#[]⟩:BA)),false,(!b.2))
 else
 (S_SplitN N g.Value (⟨#[32]⟩:BA) 3).bind fun a=>
 (if decide (((a.1:Nat):Int)<3)=true then
 some ((Tsession.mk 0 0 0 (⟨#[]⟩:BA)),true,false)
 else
 (at? (a.2.take a.1) 0).bind fun j=>
 (i_ReadDecimal N j).bind fun d=>
 (at? (a.2.take a.1) 1).bind fun k=>
 (i_ReadDecimal N k).bind fun f=>
 (at? (a.2.take a.1) 2).bind fun h=>
 (if d.2=true then
 some ((Tsession.mk c.1 d.1 f.1 h),true,f.2)
 else
 some ((Tsession.mk c.1 d.1 f.1 h),true,false)))))
instance i217 (N:Nat)(b:Pair):JG 247 (i_readSession N b) [.agg [VS b.Key,VS b.Value]] 0 [] (fun r=>.tup [.agg [VI r.1.number,VI r.1.seq,VI r.1.index,VS r.1.reply],VB r.2.1,VB r.2.2]) (fun r=>[]):=.st e e Tryz.call247 fun B r=>.c0 e i q fun _ _=>.c0 e i q fun _ _=>.q e (.q e (.a e e (.Ek [] e e e) (.a e e (.Ek [] e e e) (.c1 e i q fun c _=>.q e (.a e e (.Ek [] e e e) (.B fun _ d=>.st e (Ev.iaP (xs:=c.2) e e d) e (.st e (Ev.ldE (f:=encS) e e (at_part d) e e e) e (.c0 e i q fun _ _=>.B fun _ g=>.st e (Ev.iaP (xs:=c.2) e e g) e (.st e (Ev.ldE (f:=encS) e e (at_part g) e e e) e (.c0 e i q fun _ _=>.q e (.B fun _ h=>.st e (Ev.iaP (xs:=c.2) e e h) e (.st e (Ev.ldE (f:=encS) e e (at_part h) e e e) e (.a e e (.Ek [] e e e) (.Ek [] e e e))))))))))))))
def i_sessionsOf_l1 (N:Nat)(a:List Pair):Nat→Int→(List Tsession)→Option (((List Tsession)×Bool)⊕((List Tsession)))
 |0,_,_=>none
 |m+1,b,c=>
 (if decide (b<(a.length:Int))=true then
 (at? a b).bind fun f=>
 (i_readSession N f).bind fun d=>
 (if(!d.2.2)=true then
 some (Sum.inl ([],false))
 else
 (if d.2.1=true then
 (cat? c ([d.1]:List Tsession)).bind fun g=>
 i_sessionsOf_l1 N a m (w64 (b+1)) g
 else
 i_sessionsOf_l1 N a m (w64 (b+1)) c))
 else
 some (Sum.inr c))
def i_sessionsOf_l1_r (N:Nat)(d:List Pair):(List Pair)→Int→(List Tsession)→Option (((List Tsession)×Bool)⊕((List Tsession)))
 |[],b,a=>
 some (Sum.inr a)
 |hd::tl,b,a=>
 (some hd).bind fun f=>
 (i_readSession N f).bind fun c=>
 (if(!c.2.2)=true then
 some (Sum.inl ([],false))
 else
 (if c.2.1=true then
 (cat? a ([c.1]:List Tsession)).bind fun g=>
 i_sessionsOf_l1_r N d tl (w64 (b+1)) g
 else
 i_sessionsOf_l1_r N d tl (w64 (b+1)) a))
theorem i_sessionsOf_l1_rng (N:Nat)(a:List Pair)(hx:a.length≤1099511627776):∀(d k m:Nat)(b:List Tsession),a.length=k+d→d<m→i_sessionsOf_l1 N a m (k:Int) b=i_sessionsOf_l1_r N a (a.drop k) (k:Int) b:=by
 intro d
 induction d with
 |zero=>
  intro k m b hd hm
  obtain⟨m,rfl⟩:∃q,m=q+1:=⟨m-1,by omega⟩
  rw[i_sessionsOf_l1,IQ (by simp;omega),DN (by omega),i_sessionsOf_l1_r]
 |succ d ih=>
  intro k m b hd hm
  obtain⟨m,rfl⟩:∃q,m=q+1:=⟨m-1,by omega⟩
  have hk:k<a.length:=by omega
  rw[i_sessionsOf_l1,IP (by simp;omega),DG hk,i_sessionsOf_l1_r]
  have c:=at_lt hk
  have f:=WS (k:=k) (by omega)
  have g:=ih (k+1) m
  simp only[c,f,g _ (by omega) (by omega)]
theorem i_sessionsOf_l1_eq {N:Nat}(a:List Pair)(hx:a.length≤1099511627776)(hN:a.length<N)(b:List Tsession):i_sessionsOf_l1 N a N 0 b=i_sessionsOf_l1_r N a a 0 b:=i_sessionsOf_l1_rng N a hx a.length 0 N b (by omega) hN
def i_sessionsOf (N:Nat)(a:List Pair):Option ((List Tsession)×Bool):=
 joinP (fun(b:List Tsession)=>
 some (b,true)) fun c=>
 (i_sessionsOf_l1 N a N 0 ([]:(List Tsession))).bind (Sum.elim (fun d=>some d) (fun(f:List Tsession)=>c f))
instance i218 (N:Nat)(b:List Pair):JG 213 (i_sessionsOf N b) [RO 79 (b.map encPair)] 0 [] (fun r=>.tup [.sl 0 341 0 r.1.length,VB r.2]) (fun r=>[(0,.vec 341 (r.1.map encTsession))]):=.st e e Tryz.call213 fun B r=>.j e (fun c=>[(4,.sl 0 341 0 c.length)]) (fun c=>[(0,.vec 341 (c.map encTsession))]) (fun _=>.st e (Ev.lnF e) e (.L2 e (fun g d=>[(4,.sl 0 341 0 d.length),(10,RO 79 (b.map encPair)),(11,VI (b.length:Int)),(12,VI g)]) (fun g d=>[(0,.vec 341 (d.map encTsession))]) (.n [4,10,11,12] [] [4] [] [10000000]) fun _ g d _ l=>.q e (.a e e (.q e (.B fun _ m=>.st e (Ev.iaF e e m) e (.c0 e i q fun o _=>.q e (.a e e (.Xr l e e (.il (.e e (.E e e (.n [0,1] [] [0] [] [10000000]))))) (.a e e (.st e (Ev.bsW (ys:=([o.1]:List Tsession)) (f:=encTsession) e (.d4 .nil) e e e e e) e (.B fun _ p=>.st e (Ev.apW (f:=encTsession) (ontoW e e e) (addsW e e e (fun _=>e)) e bt341 e p) e (.R e (fun h=>⟨_,_,h,e,e⟩) (.k [4,10,11,12] [37912])))) (.R e (fun h=>⟨_,_,h,e,e⟩) (.k [4,10,11,12] [0]))))))) (.X l e e (.ir (.n e (.J e (.k [4] [0])))))))) fun c=>.Ek [0] e e e
def i_MapOk_l1 (N:Nat)(b:List Pair):Nat→Int→Option ((Bool)⊕(Unit))
 |0,_=>none
 |m+1,a=>
 (if decide (a<(b.length:Int))=true then
 (at? b a).bind fun c=>
 (i_keyOk N c.Key).bind fun d=>
 (if(!d)=true then
 some (Sum.inl false)
 else
 (if decide ((c.Value.size:Int)>40)=true then
 some (Sum.inl false)
 else
 (if decide (a>0)=true then
 (at? b (w64 (a-1))).bind fun f=>
 (if(!Op.bytesLess f.Key.toList c.Key.toList)=true then
 some (Sum.inl false)
 else
 i_MapOk_l1 N b m (w64 (a+1)))
 else
 i_MapOk_l1 N b m (w64 (a+1)))))
 else
 some (Sum.inr ()))
def i_MapOk_l1_r (N:Nat)(b:List Pair):(List Pair)→Int→Option ((Bool)⊕(Unit))
 |[],a=>
 some (Sum.inr ())
 |hd::tl,a=>
 (some hd).bind fun c=>
 (i_keyOk N c.Key).bind fun d=>
 (if(!d)=true then
 some (Sum.inl false)
 else
 (if decide ((c.Value.size:Int)>40)=true then
 some (Sum.inl false)
 else
 (if decide (a>0)=true then
 (at? b (w64 (a-1))).bind fun f=>
 (if(!Op.bytesLess f.Key.toList c.Key.toList)=true then
 some (Sum.inl false)
 else
 i_MapOk_l1_r N b tl (w64 (a+1)))
 else
 i_MapOk_l1_r N b tl (w64 (a+1)))))
theorem i_MapOk_l1_rng (N:Nat)(a:List Pair)(hx:a.length≤1099511627776):∀(d k m:Nat),a.length=k+d→d<m→i_MapOk_l1 N a m (k:Int)=i_MapOk_l1_r N a (a.drop k) (k:Int):=by
 intro d
 induction d with
 |zero=>
  intro k m hd hm
  obtain⟨m,rfl⟩:∃q,m=q+1:=⟨m-1,by omega⟩
  rw[i_MapOk_l1,IQ (by simp;omega),DN (by omega),i_MapOk_l1_r]
 |succ d ih=>
  intro k m hd hm
  obtain⟨m,rfl⟩:∃q,m=q+1:=⟨m-1,by omega⟩
  have hk:k<a.length:=by omega
  rw[i_MapOk_l1,IP (by simp;omega),DG hk,i_MapOk_l1_r]
  have b:=at_lt hk
  have c:=WS (k:=k) (by omega)
  have f:=ih (k+1) m
  simp only[b,c,f (by omega) (by omega)]
theorem i_MapOk_l1_eq {N:Nat}(a:List Pair)(hx:a.length≤1099511627776)(hN:a.length<N):i_MapOk_l1 N a N 0=i_MapOk_l1_r N a a 0:=i_MapOk_l1_rng N a hx a.length 0 N (by omega) hN
def i_MapOk (N:Nat)(a:List Pair):Option (Bool):=
 joinP (fun(d:Unit)=>
 some (decide ((a.length:Int)≤60))) fun b=>
 (i_MapOk_l1 N a N 0).bind (Sum.elim (fun c=>some c) (fun(f:Unit)=>b ()))
instance i219 (N:Nat)(b:List Pair):JB 214 (i_MapOk N b) [RO 79 (b.map encPair)]:=.st e e Tryz.call214 fun B r=>.j e (fun _=>[(0,RO 79 (b.map encPair))]) (fun _=>[]) (fun _=>.st e (Ev.lnF e) e (.L1 e (fun d=>[(0,RO 79 (b.map encPair)),(5,RO 79 (b.map encPair)),(6,VI (b.length:Int)),(7,VI d)]) (fun d=>[]) (.k [0,5,6,7] []) fun _ d _ c=>.q e (.a e e (.q e (.B fun _ f=>.st e (Ev.iaF e e f) e (.q e (.c0 e i q fun _ _=>.a e e (.dn e (.Xr c e e (.il (.e e (.Ek [] e e e))))) (.a e e (.dn e (.Xr c e e (.il (.e e (.Ek [] e e e))))) (.a e e (.B fun _ g=>.st e (Ev.iaF e e g) e (.dn e (.a e e (.Xr c e e (.il (.e e (.Ek [] e e e)))) (.R e (fun h=>⟨_,h,e,e⟩) (.k [0,5,6,7] []))))) (.dn e (.R e (fun h=>⟨_,h,e,e⟩) (.k [0,5,6,7] []))))))))) (.X c e e (.ir (.n e (.J e (.k [0] [])))))))) fun _=>.st e (Ev.lnF e) e (.Ek [] e e e)
def i_pairNo_1 (N:Nat)(a:Pair)(b:BA):Option (Int):=
 (S_Compare N a.Key b).bind fun c=>
 some c
instance i220 (N:Nat)(a:Pair)(b:BA):JI 286 (i_pairNo_1 N a b) [.agg [VS a.Key,VS a.Value],VS b]:=.st e e Tryz.call286 fun B r=>.c0 e i q fun _ _=>.Ek [] e e e
def L_BF_string_i2_l1 (N:Nat)(b:List Pair)(c:BA):Nat→Int→Int→Option (Int)
 |0,_,_=>none
 |m+1,a,d=>
 (if decide (a<d)=true then
 (intSh .shr .u64 (IntKind.wrap .u64 (w64 (a+d))) 1).bind fun f=>
 (at? b (w64 (f))).bind fun g=>
 (i_pairNo_1 N g c).bind fun h=>
 (if decide (h<0)=true then
 L_BF_string_i2_l1 N b c m (w64 ((w64 (f))+1)) d
 else
 L_BF_string_i2_l1 N b c m a (w64 (f)))
 else
 some a)
def L_BF_string_i2 (N:Nat)(a:List Pair)(c:BA):Option (Int×Bool):=
 joinP (fun(b:Int)=>
 (if decide (b<(a.length:Int))=true then
 (at? a b).bind fun d=>
 (i_pairNo_1 N d c).bind fun f=>
 some (b,(f==0))
 else
 some (b,false))) fun g=>
 (L_BF_string_i2_l1 N a c N 0 (a.length:Int)).bind (fun h=>g h)
instance i221 (N:Nat)(b:List Pair)(c:BA):JG 285 (L_BF_string_i2 N b c) [RO 79 (b.map encPair),VS c,.fn 286 []] 0 [] (fun r=>.tup [VI r.1,VB r.2]) (fun r=>[]):=.st e e Tryz.call285 fun B r=>.st e (Ev.lnF e) e (.j e (fun d=>[(0,RO 79 (b.map encPair)),(1,VS c),(2,.fn 286 []),(8,VI (b.length:Int)),(9,VI d)]) (fun d=>[]) (fun _=>.L2 e (fun f g=>[(0,RO 79 (b.map encPair)),(1,VS c),(2,.fn 286 []),(8,VI (b.length:Int)),(9,VI f),(10,VI g)]) (fun f g=>[]) (.k [0,1,2,8,9,10] []) fun _ f g _ l=>.q e (.a e e (.B fun _ m=>.st e (.sh e e m) e (.B fun _ o=>.st e (Ev.iaF e e o) e (.B fun _ p=>.st e (Ev.callx [] [] 0 e (sy p) e e (.cons (.agg (.d2 .nil)) (.d1 .nil)) e (.inl e) e e) e (.a e e (.R e (fun h=>⟨_,_,h,e,e⟩) (.k [0,1,2,8,9,10] [])) (.R e (fun h=>⟨_,_,h,e,e⟩) (.k [0,1,2,8,9,10] [])))))) (.X l e e (.n e (.J e (.k [0,1,2,8,9] [])))))) fun d=>.q e (.a e e (.B fun _ s=>.st e (Ev.iaF e e s) e (.B fun _ t=>.st e (Ev.callx [] [] 0 e (sy t) e e (.cons (.agg (.d2 .nil)) (.d1 .nil)) e (.inl e) e e) e (.Ek [] e e e))) (.Ek [] e e e)))
def i_pairNo (N:Nat)(b:List Pair)(c:BA):Option (Int×Bool):=
 (L_BF_string_i2 N b c).bind fun a=>
 some (a.1,a.2)
instance i222 (N:Nat)(a:List Pair)(b:BA):JG 267 (i_pairNo N a b) [RO 79 (a.map encPair),VS b] 0 [] (fun r=>.tup [VI r.1,VB r.2]) (fun r=>[]):=.st e e Tryz.call267 fun B r=>.c0 e i q fun _ _=>.Ek [] e e e
def cmp_isNaN_int (N:Nat)(a:Int):Option (Bool):=
 some (a !=a)
instance i223 (N:Nat)(a:Int):JB 287 (cmp_isNaN_int N a) [VI a]:=.st e e Tryz.call287 fun B r=>.Ek [] e e e
def cmp_Compare_int (N:Nat)(a:Int)(b:Int):Option (Int):=
 (cmp_isNaN_int N a).bind fun d=>
 (cmp_isNaN_int N b).bind fun c=>
 (if d=true then
 (if c=true then
 some 0
 else
 some (-1:Int))
 else
 (if c=true then
 some 1
 else
 (if decide (a<b)=true then
 some (-1:Int)
 else
 (if decide (a>b)=true then
 some 1
 else
 some 0))))
instance i224 (N:Nat)(b:Int)(c:Int):JI 271 (cmp_Compare_int N b c) [VI b,VI c]:=.st e e Tryz.call271 fun B r=>.c0 e i q fun _ _=>.c0 e i q fun _ _=>.q e (.a e e (.q e (.a e e (.Ek [] e e e) (.Ek [] e e e))) (.q e (.a e e (.Ek [] e e e) (.q e (.a e e (.Ek [] e e e) (.q e (.a e e (.Ek [] e e e) (.Ek [] e e e))))))))
def cmp_Or_int_l1 (N:Nat)(a:List Int):Nat→Int→Option ((Int)⊕(Unit))
 |0,_=>none
 |m+1,b=>
 (if decide (b<(a.length:Int))=true then
 (at? a b).bind fun c=>
 (if(c !=0)=true then
 some (Sum.inl c)
 else
 cmp_Or_int_l1 N a m (w64 (b+1)))
 else
 some (Sum.inr ()))
def cmp_Or_int_l1_r (N:Nat)(c:List Int):(List Int)→Int→Option ((Int)⊕(Unit))
 |[],a=>
 some (Sum.inr ())
 |hd::tl,a=>
 (some hd).bind fun b=>
 (if(b !=0)=true then
 some (Sum.inl b)
 else
 cmp_Or_int_l1_r N c tl (w64 (a+1)))
theorem cmp_Or_int_l1_rng (N:Nat)(a:List Int)(hx:a.length≤1099511627776):∀(d k m:Nat),a.length=k+d→d<m→cmp_Or_int_l1 N a m (k:Int)=cmp_Or_int_l1_r N a (a.drop k) (k:Int):=by
 intro d
 induction d with
 |zero=>
  intro k m hd hm
  obtain⟨m,rfl⟩:∃q,m=q+1:=⟨m-1,by omega⟩
  rw[cmp_Or_int_l1,IQ (by simp;omega),DN (by omega),cmp_Or_int_l1_r]
 |succ d ih=>
  intro k m hd hm
  obtain⟨m,rfl⟩:∃q,m=q+1:=⟨m-1,by omega⟩
  have hk:k<a.length:=by omega
  rw[cmp_Or_int_l1,IP (by simp;omega),DG hk,cmp_Or_int_l1_r]
  have b:=at_lt hk
  have c:=WS (k:=k) (by omega)
  have f:=ih (k+1) m
  simp only[b,c,f (by omega) (by omega)]
theorem cmp_Or_int_l1_eq {N:Nat}(a:List Int)(hx:a.length≤1099511627776)(hN:a.length<N):cmp_Or_int_l1 N a N 0=cmp_Or_int_l1_r N a a 0:=cmp_Or_int_l1_rng N a hx a.length 0 N (by omega) hN
def cmp_Or_int (N:Nat)(a:List Int):Option (Int):=
 joinP (fun(d:Unit)=>
 some 0) fun b=>
 (cmp_Or_int_l1 N a N 0).bind (Sum.elim (fun c=>some c) (fun(f:Unit)=>b ()))
instance i225 (N:Nat)(b:List Int):JI 270 (cmp_Or_int N b) [RO 3 (b.map encI)]:=.st e e Tryz.call270 fun B r=>.j e (fun _=>[(3,VI 0)]) (fun _=>[]) (fun _=>.st e (Ev.lnF e) e (.L1 e (fun c=>[(3,VI 0),(6,RO 3 (b.map encI)),(7,VI (b.length:Int)),(8,VI c)]) (fun c=>[]) (.k [3,6,7,8] []) fun _ c _ d=>.q e (.a e e (.q e (.B fun _ f=>.st e (Ev.iaF e e f) e (.a e e (.Xr d e e (.il (.e e (.Ek [] e e e)))) (.R e (fun h=>⟨_,h,e,e⟩) (.k [3,6,7,8] []))))) (.X d e e (.ir (.n e (.J e (.k [3] [])))))))) fun _=>.Ek [] e e e
def i_opened_1 (N:Nat)(a:Tsession)(b:Tsession):Option (Int):=
 (cmp_Compare_int N a.index b.index).bind fun c=>
 (cmp_Compare_int N a.number b.number).bind fun d=>
 (cmp_Or_int N ([c,d]:List Int)).bind fun f=>
 some f
instance i226 (N:Nat)(a:Tsession)(b:Tsession):JI 269 (i_opened_1 N a b) [.agg [VI a.number,VI a.seq,VI a.index,VS a.reply],.agg [VI b.number,VI b.seq,VI b.index,VS b.reply]]:=.st e e Tryz.call269 fun B r=>.c0 e i q fun c _=>.c0 e i q fun d _=>.st e (Ev.bsW (ys:=([c,d]:List Int)) (f:=encI) e (.d2 .nil) e e e e e) e (.f (hp:=(.cons (.borrow e (by decide) lw) .nil)) (hcase:=fun _=>(.inr ⟨rfl,ownL_root trivial⟩)) [] [5256] 0 e i q fun _ _=>.dn e (.Ek [] e e e))
def L_MinFunc_session_l1 (N:Nat)(a:List Tsession):Nat→Int→Int→Int→Int→BA→Option (Int×Int×Int×BA)
 |0,_,_,_,_,_=>none
 |m+1,b,f,g,h,j=>
 (if decide (b<(a.length:Int))=true then
 joinP (fun(c:Int×Int×Int×BA)=>
 L_MinFunc_session_l1 N a m (w64 (b+1)) c.1 c.2.1 c.2.2.1 c.2.2.2) fun k=>
 (at? a b).bind fun l=>
 (i_opened_1 N l (Tsession.mk f g h j)).bind fun n=>
 (if decide (n<0)=true then
 (at? a b).bind fun d=>
 k (d.number,d.seq,d.index,d.reply)
 else
 k (f,g,h,j))
 else
 some (f,g,h,j))
def L_MinFunc_session (N:Nat)(d:List Tsession):Option (Tsession):=
 (if decide ((d.length:Int)<1)=true then
 none
 else
 (at? d 0).bind fun a=>
 joinP (fun(b:Int×Int×Int×BA)=>
 some (Tsession.mk b.1 b.2.1 b.2.2.1 b.2.2.2)) fun f=>
 (L_MinFunc_session_l1 N d N 1 a.number a.seq a.index a.reply).bind (fun c=>f (c.1,c.2.1,c.2.2.1,c.2.2.2)))
instance i227 (N:Nat)(d:List Tsession):JG 268 (L_MinFunc_session N d) [RO 341 (d.map encTsession),.fn 269 []] 0 [] (fun r=>.agg [VI r.number,VI r.seq,VI r.index,VS r.reply]) (fun r=>[]):=.st e e Tryz.call268 fun B r=>.q e (.st e (Ev.lnF e) e (.a e e .no (.B fun _ p=>.st e (Ev.iaF e e p) e (.j e (fun b=>[(4,.ptr 0 0),(5,.ptr 1 0)]) (fun b=>[(0,.box [VI 0,VI 0,VI 0,VS (⟨#[]⟩:BA)]),(1,.box [VI b.1,VI b.2.1,VI b.2.2.1,VS b.2.2.2])]) (fun _=>.L5 e (fun f g l m o=>[(0,RO 341 (d.map encTsession)),(1,.fn 269 []),(4,.ptr 0 0),(5,.ptr 1 0),(6,VI f)]) (fun f g l m o=>[(0,.box [VI 0,VI 0,VI 0,VS (⟨#[]⟩:BA)]),(1,.box [VI g,VI l,VI m,VS o])]) (.k [0,1,4,5,6] [1000,13336]) fun _ f g l m o _ s=>.q e (.st e (Ev.lnF e) e (.a e e (.j e (fun c=>[(0,RO 341 (d.map encTsession)),(1,.fn 269 []),(4,.ptr 0 0),(5,.ptr 1 0),(6,VI f)]) (fun c=>[(0,.box [VI 0,VI 0,VI 0,VS (⟨#[]⟩:BA)]),(1,.box [VI c.1,VI c.2.1,VI c.2.2.1,VS c.2.2.2])]) (fun _=>.B fun _ t=>.st e (Ev.iaF e e t) e (.B fun _ u=>.st e (Ev.callx [] [] 0 e (sy u) e e (.cons (.agg (.d4 .nil)) (.cons (.agg (.d4 .nil)) .nil)) e (.inl e) e e) e (.dn e (.a e e (.B fun _ w=>.st e (Ev.iaF e e w) e (.J e (.k [0,1,4,5,6] [0,1]))) (.J e (.k [0,1,4,5,6] [0,1])))))) fun c=>.R e (fun h=>⟨_,_,_,_,_,h,e,e⟩) (.k [0,1,4,5,6] [0,1])) (.X s e e (.n e (.J e (.k [4,5] [0,1]))))))) fun b=>.Ek [] e e e))))
def i_sessionKey (N:Nat)(a:Int):Option (BA):=
 (i_Decimal N a).bind fun b=>
 (scat? (⟨#[115]⟩:BA) b).bind fun c=>
 some c
instance i228 (N:Nat)(a:Int):JS 273 (i_sessionKey N a) [VI a]:=.st e e Tryz.call273 fun B r=>.c0 e i q fun _ _=>.B fun _ b=>.st e (Ev.addS e e b) e (.Ek [] e e e)
def L_Delete_Pair (N:Nat)(a:List Pair)(b:Int)(c:Int):Option ((List Pair)):=del? a b c
instance i229 (N:Nat)(a:List Pair)(b:Int)(c:Int):Sem Tryz.prog 288 (L_Delete_Pair N a b c) [.sl 0 79 0 a.length,VI b,VI c] 1 [(0,.vec 79 (a.map encPair))] (fun r=>.sl 1 79 0 r.length) (fun r=>[(0,.gone),(1,.vec 79 (r.map encPair))]):=⟨fun r h=>says_del Tryz.call288 Pe.ins288 (fun _=>e) h⟩
def i_withoutKey (N:Nat)(b:List Pair)(d:BA):Option ((List Pair)):=
 (cat? ([]:List Pair) b).bind fun c=>
 (i_pairNo N b d).bind fun a=>
 (if a.2=true then
 (L_Delete_Pair N c a.1 (w64 (a.1+1))).bind fun f=>
 some f
 else
 some c)
instance i230 (N:Nat)(b:List Pair)(c:BA):JG 272 (i_withoutKey N b c) [RO 79 (b.map encPair),VS c] 0 [] (fun r=>.sl 0 79 0 r.length) (fun r=>[(0,.vec 79 (r.map encPair))]):=.st e e Tryz.call272 fun B r=>.B fun _ d=>.st e (Ev.apW (f:=encPair) (ontoN (f:=encPair) e) (addsF e) e bt79 e d) e (.q e (.c0 e i q fun _ _=>.a e e (.f [5112] [] 1 e i q fun _ _=>.Ek [17448] e e e) (.Ek [5112] e e e)))
def L_Insert_Pair (N:Nat)(a:List Pair)(b:Int)(c:List Pair):Option ((List Pair)):=ins? a b c
instance i231 (N:Nat)(a:List Pair)(c:Int)(b:List Pair):Sem Tryz.prog 289 (L_Insert_Pair N a c b) [.sl 0 79 0 a.length,VI c,.sl 1 79 0 b.length] 2 [(0,.vec 79 (a.map encPair)),(1,.vec 79 (b.map encPair))] (fun r=>.sl 2 79 0 r.length) (fun r=>[(0,.gone),(1,.gone),(2,.vec 79 (r.map encPair))]):=⟨fun r h=>says_ins Tryz.call289 Pe.ins289 (fun _=>e) h⟩
def i_withKey (N:Nat)(c:List Pair)(d:BA)(f:BA):Option ((List Pair)):=
 (cat? ([]:List Pair) c).bind fun b=>
 (i_pairNo N c d).bind fun a=>
 (if a.2=true then
 (at? b a.1).bind fun g=>
 some (b.set a.1.toNat (Pair.mk g.Key f))
 else
 (L_Insert_Pair N b a.1 ([(Pair.mk d f)]:List Pair)).bind fun h=>
 some h)
instance i232 (N:Nat)(d:List Pair)(c:BA)(b:BA):JG 274 (i_withKey N d c b) [RO 79 (d.map encPair),VS c,VS b] 0 [] (fun r=>.sl 0 79 0 r.length) (fun r=>[(0,.vec 79 (r.map encPair))]):=.st e e Tryz.call274 fun B r=>.B fun _ h=>.st e (Ev.apW (f:=encPair) (ontoN (f:=encPair) e) (addsF e) e bt79 e h) e (.c0 e i q fun _ _=>.q e (.a e e (.B fun j g=>.st e (Ev.iaW e e e g) e (.st e (Ev.stE (f:=encPair) (v':=(Pair.mk j.Key b)) e e (at_some g).2 e (.d1 .nil) e e e e e) e (.Ek [5112] e e e))) (.st e (Ev.bsW (ys:=([(Pair.mk c b)]:List Pair)) (f:=encPair) e (.d2 .nil) e e e e e) e (.f [5112,25656] [] 1 e i q fun _ _=>.Ek [25672] e e e))))
def i_withSession (N:Nat)(b:List Pair)(a:Tsession):Option ((List Pair)):=
 (i_sessionKey N a.number).bind fun c=>
 (i_Decimal N a.seq).bind fun d=>
 (scat? d (⟨#[32]⟩:BA)).bind fun f=>
 (i_Decimal N a.index).bind fun g=>
 (scat? f g).bind fun h=>
 (scat? h (⟨#[32]⟩:BA)).bind fun j=>
 (scat? j a.reply).bind fun k=>
 (i_withKey N b c k).bind fun l=>
 some l
instance i233 (N:Nat)(b:List Pair)(a:Tsession):JG 252 (i_withSession N b a) [RO 79 (b.map encPair),.agg [VI a.number,VI a.seq,VI a.index,VS a.reply]] 0 [] (fun r=>.sl 0 79 0 r.length) (fun r=>[(0,.vec 79 (r.map encPair))]):=.st e e Tryz.call252 fun B r=>.c0 e i q fun _ _=>.c0 e i q fun _ _=>.B fun _ c=>.st e (Ev.addS e e c) e (.c0 e i q fun _ _=>.B fun _ d=>.st e (Ev.addS e e d) e (.B fun _ f=>.st e (Ev.addS e e f) e (.B fun _ g=>.st e (Ev.addS e e g) e (.c1 e i q fun _ _=>.dn e (.Ek [5352] e e e)))))
def i_opened (N:Nat)(a:List Pair)(j:Int)(c:List Tsession):Option ((List Pair)×BA×Bool):=
 joinP (fun(b:Int×Bool)=>
 (if(!b.2)=true then
 some ([],(⟨#[]⟩:BA),false)
 else
 joinP (fun(k:List Pair)=>
 (i_withSession N k (Tsession.mk b.1 0 j (⟨#[]⟩:BA))).bind fun l=>
 (i_Decimal N (w64 (b.1+1))).bind fun m=>
 (i_withKey N l (⟨#[110]⟩:BA) m).bind fun n=>
 (i_Decimal N b.1).bind fun o=>
 (scat? (⟨#[111,112,101,110,32]⟩:BA) o).bind fun p=>
 some (n,p,true)) fun d=>
 (if decide ((c.length:Int)≥3)=true then
 (L_MinFunc_session N c).bind fun s=>
 (i_sessionKey N s.number).bind fun t=>
 (i_withoutKey N a t).bind fun u=>
 d u
 else
 d a))) fun f=>
 (i_pairNo N a (⟨#[110]⟩:BA)).bind fun g=>
 (if g.2=true then
 (at? a g.1).bind fun w=>
 (i_ReadDecimal N w.Value).bind fun h=>
 f (h.1,h.2)
 else
 f (1,true))
instance i234 (N:Nat)(d:List Pair)(c:Int)(h:List Tsession):JG 248 (i_opened N d c h) [RO 79 (d.map encPair),VI c,RO 341 (h.map encTsession)] 0 [] (fun r=>.tup [.sl 0 79 0 r.1.length,VS r.2.1,VB r.2.2]) (fun r=>[(0,.vec 79 (r.1.map encPair))]):=.st e e Tryz.call248 fun B r=>.j e (fun b=>[(0,RO 79 (d.map encPair)),(1,VI c),(2,RO 341 (h.map encTsession)),(9,VI b.1),(10,VB b.2)]) (fun b=>[]) (fun _=>.c0 e i q fun _ _=>.a e e (.B fun _ m=>.st e (Ev.iaF e e m) e (.c0 e i q fun _ _=>.J e (.k [0,1,2,9,10] []))) (.J e (.k [0,1,2,9,10] []))) fun b=>.q e (.a e e (.E e e (.n [0,1,2] [] [0] [] [10000000])) (.j e (fun l=>[(1,VI c),(9,VI b.1),(13,RO 79 (l.map encPair))]) (fun l=>[]) (fun _=>.st e (Ev.lnF e) e (.a e e (.c0 e i q fun _ _=>.c0 e i q fun _ _=>.c1 e i q fun o _=>.J e (.t (Gh.frz (f:=encPair) (g:=encPair) (xs:=o) 42024 (fun _=>e) e) (.ro [1,9,13] [42024] [] [42024] [13] []))) (.J e (.ro [1,9,13] [] [] [] [13] [])))) fun l=>.c1 e i q fun _ _=>.c0 e i q fun _ _=>.f (hp:=(.cons (.borrow e (by decide) lw) (.d2 .nil))) (hcase:=fun _=>(.inr ⟨rfl,ownL_root ⟨own_rows (fun _=>e) _,trivial⟩⟩)) [] [46120] 1 e i q fun _ _=>.c0 e i q fun _ _=>.B fun _ p=>.st e (Ev.addS e e p) e (.Ek [50216] e e e)))
def i_acted_1 (N:Nat)(a:Tsession)(b:Command):Option (Bool):=
 some (a.number==b.Session)
instance i235 (N:Nat)(b:Tsession)(a:Command):JG 250 (i_acted_1 N b a) [.agg [VI b.number,VI b.seq,VI b.index,VS b.reply],.ptr 0 0] 1 [(0,.box [VI a.Op,VI a.Session,VI a.Seq,VS a.Key,VS a.Value,VS a.Old])] (fun r=>VB r) (fun r=>[(0,.box [VI a.Op,VI a.Session,VI a.Seq,VS a.Key,VS a.Value,VS a.Old])]):=.st e e Tryz.call250 fun B r=>.Ek [0] e e e
def L_IF_session_l1 (N:Nat)(b:List Tsession)(c:Command):Nat→Int→Option ((Int)⊕(Unit))
 |0,_=>none
 |m+1,a=>
 (if decide (a<(b.length:Int))=true then
 (at? b a).bind fun d=>
 (i_acted_1 N d c).bind fun f=>
 (if f=true then
 some (Sum.inl a)
 else
 L_IF_session_l1 N b c m (w64 (a+1)))
 else
 some (Sum.inr ()))
def L_IF_session_l1_r (N:Nat)(c:List Tsession)(b:Command):(List Tsession)→Int→Option ((Int)⊕(Unit))
 |[],a=>
 some (Sum.inr ())
 |hd::tl,a=>
 (some hd).bind fun d=>
 (i_acted_1 N d b).bind fun f=>
 (if f=true then
 some (Sum.inl a)
 else
 L_IF_session_l1_r N c b tl (w64 (a+1)))
theorem L_IF_session_l1_rng (N:Nat)(a:List Tsession)(b:Command)(hx:a.length≤1099511627776):∀(d k m:Nat),a.length=k+d→d<m→L_IF_session_l1 N a b m (k:Int)=L_IF_session_l1_r N a b (a.drop k) (k:Int):=by
 intro d
 induction d with
 |zero=>
  intro k m hd hm
  obtain⟨m,rfl⟩:∃q,m=q+1:=⟨m-1,by omega⟩
  rw[L_IF_session_l1,IQ (by simp;omega),DN (by omega),L_IF_session_l1_r]
 |succ d ih=>
  intro k m hd hm
  obtain⟨m,rfl⟩:∃q,m=q+1:=⟨m-1,by omega⟩
  have hk:k<a.length:=by omega
  rw[L_IF_session_l1,IP (by simp;omega),DG hk,L_IF_session_l1_r]
  have c:=at_lt hk
  have f:=WS (k:=k) (by omega)
  have g:=ih (k+1) m
  simp only[c,f,g (by omega) (by omega)]
theorem L_IF_session_l1_eq {N:Nat}(a:List Tsession)(b:Command)(hx:a.length≤1099511627776)(hN:a.length<N):L_IF_session_l1 N a b N 0=L_IF_session_l1_r N a b a 0:=L_IF_session_l1_rng N a b hx a.length 0 N (by omega) hN
def L_IF_session (N:Nat)(a:List Tsession)(b:Command):Option (Int):=
 joinP (fun(f:Unit)=>
 some (-1:Int)) fun c=>
 (L_IF_session_l1 N a b N 0).bind (Sum.elim (fun d=>some d) (fun(g:Unit)=>c ()))
instance i236 (N:Nat)(c:List Tsession)(b:Command):JG 249 (L_IF_session N c b) [RO 341 (c.map encTsession),.fn 250 [.ptr 0 0]] 1 [(0,.box [VI b.Op,VI b.Session,VI b.Seq,VS b.Key,VS b.Value,VS b.Old])] (fun r=>VI r) (fun r=>[(0,.box [VI b.Op,VI b.Session,VI b.Seq,VS b.Key,VS b.Value,VS b.Old])]):=.st e e Tryz.call249 fun B r=>.j e (fun _=>[]) (fun _=>[(0,.box [VI b.Op,VI b.Session,VI b.Seq,VS b.Key,VS b.Value,VS b.Old])]) (fun _=>.st e (Ev.lnF e) e (.L1 e (fun d=>[(0,RO 341 (c.map encTsession)),(1,.fn 250 [.ptr 0 0]),(7,VI (c.length:Int)),(8,VI d)]) (fun d=>[(0,.box [VI b.Op,VI b.Session,VI b.Seq,VS b.Key,VS b.Value,VS b.Old])]) (.k [0,1,7,8] [0]) fun _ d _ f=>.q e (.a e e (.q e (.B fun _ g=>.st e (Ev.iaF e e g) e (.B fun _ l=>.st e (Ev.callx [0] [] 0 e (sy l) e e (.cons (.agg (.d4 .nil)) (.cons (.ptr e) .nil)) e (.inl e) e e) e (.a e e (.Xr f e e (.il (.e e (.Ek [0] e e e)))) (.R e (fun h=>⟨_,h,e,e⟩) (.k [0,1,7,8] [0])))))) (.X f e e (.ir (.n e (.J e (.k [] [0])))))))) fun _=>.Ek [0] e e e
def i_operated (N:Nat)(a:List Pair)(b:Command):Option ((List Pair)×BA):=
 (scat? (⟨#[107]⟩:BA) b.Key).bind fun c=>
 joinP (fun(d:BA×Bool)=>
 (if(b.Op==2)=true then
 (if(!d.2)=true then
 some (a,(⟨#[110,111,110,101]⟩:BA))
 else
 (scat? (⟨#[103,111,116,32]⟩:BA) d.1).bind fun h=>
 some (a,h))
 else
 (if(b.Op==3)=true then
 (i_withKey N a c b.Value).bind fun j=>
 some (j,(⟨#[112,117,116]⟩:BA))
 else
 (if(b.Op==4)=true then
 (if(!d.2)=true then
 some (a,(⟨#[110,111,110,101]⟩:BA))
 else
 (i_withoutKey N a c).bind fun k=>
 some (k,(⟨#[99,117,116]⟩:BA)))
 else
 (if(!decide (d.1=b.Old))=true then
 some (a,(⟨#[107,101,112,116]⟩:BA))
 else
 (i_withKey N a c b.Value).bind fun l=>
 some (l,(⟨#[115,119,97,112,112,101,100]⟩:BA))))))) fun f=>
 (i_pairNo N a c).bind fun g=>
 (if g.2=true then
 (at? a g.1).bind fun m=>
 f (m.Value,true)
 else
 f ((⟨#[]⟩:BA),false))
instance i237 (N:Nat)(d:List Pair)(b:Command):JG 251 (i_operated N d b) [RO 79 (d.map encPair),.agg [VI b.Op,VI b.Session,VI b.Seq,VS b.Key,VS b.Value,VS b.Old]] 0 [] (fun r=>.tup [RO 79 (r.1.map encPair),VS r.2]) (fun r=>[]):=.st e e Tryz.call251 fun B r=>.B fun h l=>.st e (Ev.addS e e l) e (.j e (fun c=>[(0,RO 79 (d.map encPair)),(3,.ptr 0 0),(6,VS h),(7,VS c.1),(8,VB c.2)]) (fun c=>[(0,.box [VI b.Op,VI b.Session,VI b.Seq,VS b.Key,VS b.Value,VS b.Old])]) (fun _=>.c0 e i q fun _ _=>.a e e (.B fun _ m=>.st e (Ev.iaF e e m) e (.J e (.k [0,3,6,7,8] [1000]))) (.J e (.k [0,3,6,7,8] [1000]))) fun c=>.q e (.a e e (.q e (.a e e (.E e e (.ro [0,1] [] [] [] [0] [])) (.B fun _ n=>.st e (Ev.addS e e n) e (.E e e (.ro [0,1] [] [] [] [0] []))))) (.a e e (.c1 e i q fun o _=>.E e e (.t (Gh.frz (f:=encPair) (g:=encPair) (xs:=o) 50216 (fun _=>e) e) (.ro [0,1] [50216] [] [50216] [0] []))) (.a e e (.q e (.a e e (.E e e (.ro [0,1] [] [] [] [0] [])) (.c1 e i q fun p _=>.E e e (.t (Gh.frz (f:=encPair) (g:=encPair) (xs:=p) 66568 (fun _=>e) e) (.ro [0,1] [66568] [] [66568] [0] []))))) (.q e (.a e e (.E e e (.ro [0,1] [] [] [] [0] [])) (.c1 e i q fun s _=>.E e e (.t (Gh.frz (f:=encPair) (g:=encPair) (xs:=s) 78888 (fun _=>e) e) (.ro [0,1] [78888] [] [78888] [0] [])))))))))
def i_acted (N:Nat)(b:List Pair)(h:Int)(a:Command)(c:List Tsession):Option ((List Pair)×BA×Bool):=
 (if(a.Op==1)=true then
 (i_opened N b h c).bind fun f=>
 some (f.1,f.2.1,f.2.2)
 else
 (L_IF_session N c a).bind fun d=>
 (if decide (d<0)=true then
 some (b,(⟨#[101,120,112,105,114,101,100]⟩:BA),true)
 else
 (at? c d).bind fun j=>
 (if decide (a.Seq<j.seq)=true then
 some (b,(⟨#[115,116,97,108,101]⟩:BA),true)
 else
 (at? c d).bind fun k=>
 (if(a.Seq==k.seq)=true then
 (at? c d).bind fun l=>
 some (b,l.reply,true)
 else
 (at? c d).bind fun m=>
 (if decide (a.Seq>(w64 (m.seq+1)))=true then
 some (b,(⟨#[103,97,112]⟩:BA),true)
 else
 (i_operated N b a).bind fun g=>
 (i_withSession N g.1 (Tsession.mk a.Session a.Seq h g.2)).bind fun n=>
 some (n,g.2,true))))))
instance i238 (N:Nat)(c:List Pair)(d:Int)(b:Command)(h:List Tsession):JG 215 (i_acted N c d b h) [RO 79 (c.map encPair),VI d,.agg [VI b.Op,VI b.Session,VI b.Seq,VS b.Key,VS b.Value,VS b.Old],RO 341 (h.map encTsession)] 0 [] (fun r=>.tup [RO 79 (r.1.map encPair),VS r.2.1,VB r.2.2]) (fun r=>[]):=.st e e Tryz.call215 fun B r=>.q e (.a e e (.c1 e i q fun j _=>.E e e (.t (Gh.frz (f:=encPair) (g:=encPair) (xs:=j.1) 9240 (fun _=>e) e) (.ro [0,1,2] [9240] [] [9240] [0] []))) (.f [1000] [] 0 e i q fun _ _=>.q e (.a e e (.E e e (.ro [0,1,2] [] [] [] [0] [])) (.B fun _ k=>.st e (Ev.iaF e e k) e (.dn e (.a e e (.E e e (.ro [0,1,2] [] [] [] [0] [])) (.B fun _ l=>.st e (Ev.iaF e e l) e (.dn e (.a e e (.B fun _ m=>.st e (Ev.iaF e e m) e (.dn e (.E e e (.ro [0,1,2] [] [] [] [0] [])))) (.B fun _ n=>.st e (Ev.iaF e e n) e (.dn e (.a e e (.E e e (.ro [0,1,2] [] [] [] [0] [])) (.c0 e i q fun _ _=>.c1 e i q fun o _=>.E e e (.t (Gh.frz (f:=encPair) (g:=encPair) (xs:=o) 54376 (fun _=>e) e) (.ro [0,1,2] [54376] [] [54376] [0] [])))))))))))))))
def i_acted_i1 (N:Nat)(b:List Pair)(h:Int)(a:Command)(c:List Tsession):Option ((List Pair)×BA×Bool):=
 (if(a.Op==1)=true then
 (i_opened N b h c).bind fun f=>
 some (f.1,f.2.1,f.2.2)
 else
 (L_IF_session N c a).bind fun d=>
 (if decide (d<0)=true then
 some (b,(⟨#[101,120,112,105,114,101,100]⟩:BA),true)
 else
 (at? c d).bind fun j=>
 (if decide (a.Seq<j.seq)=true then
 some (b,(⟨#[115,116,97,108,101]⟩:BA),true)
 else
 (at? c d).bind fun k=>
 (if(a.Seq==k.seq)=true then
 (at? c d).bind fun l=>
 some (b,l.reply,true)
 else
 (at? c d).bind fun m=>
 (if decide (a.Seq>(w64 (m.seq+1)))=true then
 some (b,(⟨#[103,97,112]⟩:BA),true)
 else
 (i_operated N b a).bind fun g=>
 (i_withSession N g.1 (Tsession.mk a.Session a.Seq h g.2)).bind fun n=>
 some (n,g.2,true))))))
instance i239 (N:Nat)(d:List Pair)(h:Int)(b:Command)(c:List Tsession):JG 215 (i_acted_i1 N d h b c) [RO 79 (d.map encPair),VI h,.agg [VI b.Op,VI b.Session,VI b.Seq,VS b.Key,VS b.Value,VS b.Old],.sl 0 341 0 c.length] 1 [(0,.vec 341 (c.map encTsession))] (fun r=>.tup [RO 79 (r.1.map encPair),VS r.2.1,VB r.2.2]) (fun r=>[(0,.vec 341 (c.map encTsession))]):=.st e e Tryz.call215 fun B r=>.q e (.a e e (.f (hp:=(.d2 (.cons (.borrow e (by decide) lw) .nil))) (hcase:=fun _=>(.inr ⟨rfl,ownL_root ⟨own_rows (fun _=>e) _,trivial⟩⟩)) [] [0] 1 e i q fun n _=>.E e e (.t (Gh.frz (f:=encPair) (g:=encPair) (xs:=n.1) 9240 (fun _=>e) e) (.ro [0,1,2] [0,9240] [] [9240] [0] [0]))) (.f (hp:=(.cons (.borrow e (by decide) lw) (.cons (.fn (.cons (.ptr e) .nil)) .nil))) (hcase:=fun _=>(.inr ⟨rfl,ownL_root ⟨e,trivial⟩⟩)) [1000] [0] 0 e i q fun _ _=>.q e (.a e e (.E e e (.ro [0,1,2] [0] [] [] [0] [0])) (.B fun _ j=>.st e (Ev.iaW e e e j) e (.st e (Ev.ldE (f:=encTsession) e e (at_some j).2 e e e) e (.dn e (.a e e (.E e e (.ro [0,1,2] [0] [] [] [0] [0])) (.B fun _ k=>.st e (Ev.iaW e e e k) e (.st e (Ev.ldE (f:=encTsession) e e (at_some k).2 e e e) e (.dn e (.a e e (.B fun _ l=>.st e (Ev.iaW e e e l) e (.st e (Ev.ldE (f:=encTsession) e e (at_some l).2 e e e) e (.dn e (.E e e (.ro [0,1,2] [0] [] [] [0] [0]))))) (.B fun _ m=>.st e (Ev.iaW e e e m) e (.st e (Ev.ldE (f:=encTsession) e e (at_some m).2 e e e) e (.dn e (.a e e (.E e e (.ro [0,1,2] [0] [] [] [0] [0])) (.c0 e i q fun _ _=>.c1 e i q fun o _=>.E e e (.t (Gh.frz (f:=encPair) (g:=encPair) (xs:=o) 54376 (fun _=>e) e) (.ro [0,1,2] [0,54376] [] [54376] [0] [0]))))))))))))))))))
def i_Act (N:Nat)(b:List Pair)(c:Int)(d:Command):Option ((List Pair)×BA×Bool):=
 (i_sessionsOf N b).bind fun f=>
 (i_MapOk N b).bind fun g=>
 (if(!g)=true then
 some ([],(⟨#[]⟩:BA),false)
 else
 (i_CommandOk N d).bind fun h=>
 (if(!h)=true then
 some ([],(⟨#[]⟩:BA),false)
 else
 (i_within N c 0 100000).bind fun j=>
 (if(!j)=true then
 some ([],(⟨#[]⟩:BA),false)
 else
 (if(!f.2)=true then
 some ([],(⟨#[]⟩:BA),false)
 else
 (i_acted_i1 N b c d f.1).bind fun a=>
 (if(!a.2.2)=true then
 some ([],(⟨#[]⟩:BA),false)
 else
 (i_MapOk N a.1).bind fun k=>
 (if(!k)=true then
 some ([],(⟨#[]⟩:BA),false)
 else
 (cat? ([]:List Pair) a.1).bind fun l=>
 some (l,a.2.1,true)))))))
instance i240 (N:Nat)(c:List Pair)(d:Int)(b:Command):JG 148 (i_Act N c d b) [RO 79 (c.map encPair),VI d,.agg [VI b.Op,VI b.Session,VI b.Seq,VS b.Key,VS b.Value,VS b.Old]] 0 [] (fun r=>.tup [.sl 0 79 0 r.1.length,VS r.2.1,VB r.2.2]) (fun r=>[(0,.vec 79 (r.1.map encPair))]):=.st e e Tryz.call148 fun B r=>.c1 e i q fun _ _=>.q e (.q e (.c0 e i q fun _ _=>.a e e (.E e e (.n [0,1,2] [] [0] [] [10000000])) (.c0 e i q fun _ _=>.a e e (.E e e (.n [0,1,2] [] [0] [] [10000000])) (.c0 e i q fun _ _=>.a e e (.E e e (.n [0,1,2] [] [0] [] [10000000])) (.a e e (.E e e (.n [0,1,2] [] [0] [] [10000000])) (.f [5112] [] 0 e i q fun _ _=>.q e (.q e (.a e e (.E e e (.n [0,1,2] [] [0] [] [10000000])) (.c0 e i q fun _ _=>.a e e (.E e e (.n [0,1,2] [] [0] [] [10000000])) (.B fun _ g=>.st e (Ev.apW (f:=encPair) (ontoN (f:=encPair) e) (addsF e) e bt79 e g) e (.Ek [29688] e e e)))))))))))
def i_made (N:Nat)(a:List Pair)(f:Int)(c:Entry):Option ((List Pair)×BA):=
 (i_ReadCommand N c.Data).bind fun d=>
 (if(c.Kind !=3)=true then
 some (a,(⟨#[]⟩:BA))
 else
 (if(!d.2)=true then
 some (a,(⟨#[]⟩:BA))
 else
 (i_Act N a f d.1).bind fun b=>
 (if(!b.2.2)=true then
 some (a,(⟨#[]⟩:BA))
 else
 some (b.1,b.2.1))))
instance i241 (N:Nat)(c:List Pair)(d:Int)(b:Entry):JG 81 (i_made N c d b) [RO 79 (c.map encPair),VI d,.agg [VI b.Term,VI b.Kind,VS b.Data]] 0 [] (fun r=>.tup [RO 79 (r.1.map encPair),VS r.2]) (fun r=>[]):=.st e e Tryz.call81 fun B r=>.c0 e i q fun _ _=>.q e (.q e (.a e e (.E e e (.ro [0,1] [] [] [] [0] [])) (.a e e (.E e e (.ro [0,1] [] [] [] [0] [])) (.c1 e i q fun h _=>.q e (.a e e (.E e e (.ro [0,1] [] [] [] [0] [])) (.E e e (.t (Gh.frz (f:=encPair) (g:=encPair) (xs:=h.1) 17432 (fun _=>e) e) (.ro [0,1] [17432] [] [17432] [0] []))))))))
def i_made_i1 (N:Nat)(a:List Pair)(f:Int)(c:Entry):Option ((List Pair)×BA):=
 (i_ReadCommand N c.Data).bind fun d=>
 (if(c.Kind !=3)=true then
 some (a,(⟨#[]⟩:BA))
 else
 (if(!d.2)=true then
 some (a,(⟨#[]⟩:BA))
 else
 (i_Act N a f d.1).bind fun b=>
 (if(!b.2.2)=true then
 some (a,(⟨#[]⟩:BA))
 else
 some (b.1,b.2.1))))
instance i242 (N:Nat)(c:List Pair)(d:Int)(b:Entry):JG 81 (i_made_i1 N c d b) [.sl 0 79 0 c.length,VI d,.agg [VI b.Term,VI b.Kind,VS b.Data]] 1 [(0,.vec 79 (c.map encPair))] (fun r=>.tup [.sl 1 79 0 r.1.length,VS r.2]) (fun r=>[(0,.gone),(1,.vec 79 (r.1.map encPair))]):=.st e e Tryz.call81 fun B r=>.c0 e i q fun _ _=>.q e (.q e (.a e e (.E e e (.mv [0,1] [0] [0] [0,30000000])) (.a e e (.E e e (.mv [0,1] [0] [0] [0,30000000])) (.f (hp:=(.cons (.borrow e (by decide) lw) (.d1 (.cons (.agg (.d4 (.d2 .nil))) .nil)))) (hcase:=fun _=>(.inr ⟨rfl,ownL_root ⟨own_rows (fun _=>e) _,trivial⟩⟩)) [] [0] 1 e i q fun _ _=>.q e (.a e e (.E e e (.mv [0,1] [0] [0] [0,30000000])) (.E e e (.mv [0,1] [0,17432] [0] [0,17432])))))))
def i_Fold_l1 (N:Nat)(b:List Applied)(c:Int):Nat→(List Pair)→Int→Option (((List Pair)×Bool)⊕((List Pair)))
 |0,_,_=>none
 |m+1,d,a=>
 (if decide (a≤c)=true then
 (L_IF_Applied_i1 N b a).bind fun f=>
 (if decide (f<0)=true then
 some (Sum.inl ([],false))
 else
 (at? b f).bind fun g=>
 (i_made_i1 N d a g.Entry).bind fun h=>
 i_Fold_l1 N b c m h.1 (w64 (a+1)))
 else
 some (Sum.inr d))
def i_Fold (N:Nat)(a:List Applied)(b:Int):Option ((List Pair)×Bool):=
 (i_within N b 0 100000).bind fun c=>
 (if(!c)=true then
 some ([],false)
 else
 (if decide ((a.length:Int)>400)=true then
 some ([],false)
 else
 joinP (fun(d:List Pair)=>
 some (d,true)) fun f=>
 (i_Fold_l1 N a b N ([]:(List Pair)) 1).bind (Sum.elim (fun g=>some g) (fun(h:List Pair)=>f h))))
instance i243 (N:Nat)(d:List Applied)(g:Int):JG 33 (i_Fold N d g) [RO 102 (d.map encApplied),VI g] 0 [] (fun r=>.tup [.sl 0 79 0 r.1.length,VB r.2]) (fun r=>[(0,.vec 79 (r.1.map encPair))]):=.st e e Tryz.call33 fun B r=>.q e (.q e (.c0 e i q fun _ _=>.a e e (.E e e (.n [0,1] [] [0] [] [10000000])) (.st e (Ev.lnF e) e (.a e e (.E e e (.n [0,1] [] [0] [] [10000000])) (.j e (fun b=>[(6,.sl 0 79 0 b.length)]) (fun b=>[(0,.vec 79 (b.map encPair))]) (fun _=>.L2 e (fun c l=>[(0,RO 102 (d.map encApplied)),(1,VI g),(6,.sl 0 79 0 c.length),(7,.ptr 1 0)]) (fun c l=>[(0,.vec 79 (c.map encPair)),(1,.box [VI l])]) (.n [0,1,6,7] [17384] [6] [] [10000000,17384]) fun _ c l _ m=>.q e (.a e e (.q e (.f [1] [] 0 e i q fun _ _=>.q e (.a e e (.Xr m e e (.il (.e e (.E e e (.n [0,1] [] [0] [] [10000000]))))) (.B fun _ o=>.st e (Ev.iaF e e o) e (.f [0] [] 1 e i q fun _ _=>.dn e (.R e (fun h=>⟨_,_,h,e,e⟩) (.k [0,1,6,7] [42072,50152]))))))) (.X m e e (.ir (.n e (.J e (.k [6] [0]))))))) fun b=>.Ek [0] e e e)))))
def L_Equal_Pair_l1 (N:Nat)(b:List Pair)(c:List Pair):Nat→Int→Option ((Bool)⊕(Unit))
 |0,_=>none
 |m+1,a=>
 (if decide (a<(b.length:Int))=true then
 (at? b a).bind fun d=>
 (at? c a).bind fun f=>
 (if((decide (d.Key=f.Key)&&(decide (d.Value=f.Value)&&true)) ^^ true)=true then
 some (Sum.inl false)
 else
 L_Equal_Pair_l1 N b c m (w64 (a+1)))
 else
 some (Sum.inr ()))
def L_Equal_Pair (N:Nat)(a:List Pair)(b:List Pair):Option (Bool):=
 (if((a.length:Int)!=(b.length:Int))=true then
 some false
 else
 joinP (fun(f:Unit)=>
 some true) fun c=>
 (L_Equal_Pair_l1 N a b N 0).bind (Sum.elim (fun d=>some d) (fun(g:Unit)=>c ())))
instance i244 (N:Nat)(b:List Pair)(c:List Pair):Sem Tryz.prog 34 (L_Equal_Pair N b c) [RO 79 (b.map encPair),RO 79 (c.map encPair)] 0 [] (fun r=>VB r) (fun r=>[]):=.so s34 e Tryz.call34 fun B r=>.q e (.st e (Ev.lnF e) e (.st e (Ev.lnF e) e (.a e e (.Ek [] e e e) (.j e (fun _=>[]) (fun _=>[]) (fun _=>.st e (Ev.lnF e) e (.L1 e (fun d=>[(0,RO 79 (b.map encPair)),(1,RO 79 (c.map encPair)),(12,VI (b.length:Int)),(13,VI d)]) (fun d=>[]) (.k [0,1,12,13] []) fun _ d _ f=>.q e (.a e e (.q e (.B fun _ g=>.st e (Ev.iaF e e g) e (.B fun _ l=>.st e (Ev.iaF e e l) e (.dn e (.a e e (.Xr f e e (.il (.e e (.Ek [] e e e)))) (.R e (fun h=>⟨_,h,e,e⟩) (.k [0,1,12,13] []))))))) (.X f e e (.ir (.n e (.J e (.k [] [])))))))) fun _=>.Ek [] e e e))))
def i_Folded (N:Nat)(a:World)(c:Int):Option (Bool):=
 (i_within N c 1 (a.Servers.length:Int)).bind fun h=>
 (if(!h)=true then
 some false
 else
 (at? a.Servers (w64 (c-1))).bind fun d=>
 (i_OpenShelf N d.Disk).bind fun b=>
 (if(b.2.2 !=0)=true then
 some false
 else
 (i_ShelfMap N d.Disk b.1).bind fun f=>
 (i_Fold N a.Applied b.1.Stamp).bind fun g=>
 (if f.2=true then
 (if g.2=true then
 (L_Equal_Pair N f.1 g.1).bind fun j=>
 some j
 else
 some false)
 else
 some false)))
instance i245 (N:Nat)(b:World)(c:Int):JB 8 (i_Folded N b c) [.agg [RO 4 (b.Up.map encB),RO 70 (b.Servers.map (encServer false)),RO 153 (b.Net.map (encMessage false)),RO 156 (b.Waits.map encWait),RO 160 (b.Leaders.map (encLeader false)),RO 102 (b.Applied.map encApplied),RO 165 (b.Replies.map encReply)],VI c]:=.st e e Tryz.call8 fun B r=>.q e (.st e (Ev.lnF e) e (.c0 e i q fun _ _=>.a e e (.Ek [] e e e) (.B fun _ d=>.st e (Ev.iaF e e d) e (.f [] [] 4 e i q fun _ _=>.q e (.a e e (.Ek [] e e e) (.f (hp:=(.cons (.agg (.d1 .nil)) (.cons (.agg (.cons (.borrow e (by decide) lw) (.d2 (.d1 (.cons (.borrow e (by decide) lw) (.cons (.borrow e (by decide) lw) (.d1 .nil))))))) .nil))) (hcase:=fun _=>(.inr ⟨rfl,ownL_root ⟨own_rows (fun _=>e) _,trivial⟩⟩)) [] [17400,17401,17402] 1 e i q fun _ _=>.c1 e i q fun _ _=>.q e (.a e e (.a e e (.f (hp:=(.cons (.borrow e (by decide) lw) (.cons (.borrow e (by decide) lw) .nil))) (hcase:=fun _=>(.inr ⟨rfl,ownL_root trivial⟩)) [] [29704,33832] 0 e i q fun _ _=>.Ek [] e e e) (.Ek [] e e e)) (.Ek [] e e e))))))))
def i_Sound_l1 (N:Nat)(a:World):Nat→Int→Option ((Bool)⊕(Unit))
 |0,_=>none
 |m+1,b=>
 (if decide (b<(a.Applied.length:Int))=true then
 (at? a.Applied b).bind fun c=>
 (i_Whole N a.Leaders c).bind fun d=>
 (if(!d)=true then
 some (Sum.inl false)
 else
 i_Sound_l1 N a m (w64 (b+1)))
 else
 some (Sum.inr ()))
def i_Sound_l2 (N:Nat)(a:World):Nat→Int→Option ((Bool)⊕(Unit))
 |0,_=>none
 |m+1,b=>
 (if decide (b<(a.Servers.length:Int))=true then
 (i_Folded N a (w64 (b+1))).bind fun c=>
 (if(!c)=true then
 some (Sum.inl false)
 else
 i_Sound_l2 N a m (w64 (b+1)))
 else
 some (Sum.inr ()))
def i_Sound (N:Nat)(a:World):Option (Bool):=
 (i_OneLeader N a.Leaders).bind fun b=>
 (if(!b)=true then
 some false
 else
 (i_SameApplied N a.Applied).bind fun c=>
 (if(!c)=true then
 some false
 else
 (i_Once N a.Replies).bind fun d=>
 (if(!d)=true then
 some false
 else
 joinP (fun(k:Unit)=>
 joinP (fun(l:Unit)=>
 some true) fun f=>
 (i_Sound_l2 N a N 0).bind (Sum.elim (fun g=>some g) (fun(m:Unit)=>f ()))) fun h=>
 (i_Sound_l1 N a N 0).bind (Sum.elim (fun j=>some j) (fun(n:Unit)=>h ())))))
instance i246 (N:Nat)(b:World):JB 11 (i_Sound N b) [.agg [RO 4 (b.Up.map encB),RO 70 (b.Servers.map (encServer false)),RO 153 (b.Net.map (encMessage false)),RO 156 (b.Waits.map encWait),RO 160 (b.Leaders.map (encLeader false)),RO 102 (b.Applied.map encApplied),RO 165 (b.Replies.map encReply)]]:=.st e e Tryz.call11 fun B r=>.q e (.q e (.c0 e i q fun _ _=>.a e e (.Ek [] e e e) (.c0 e i q fun _ _=>.a e e (.Ek [] e e e) (.c0 e i q fun _ _=>.a e e (.Ek [] e e e) (.j e (fun _=>[(1,.ptr 0 0)]) (fun _=>[(0,.box [RO 4 (b.Up.map encB),RO 70 (b.Servers.map (encServer false)),RO 153 (b.Net.map (encMessage false)),RO 156 (b.Waits.map encWait),RO 160 (b.Leaders.map (encLeader false)),RO 102 (b.Applied.map encApplied),RO 165 (b.Replies.map encReply)])]) (fun _=>.st e (Ev.lnF e) e (.L1 e (fun c=>[(1,.ptr 0 0),(23,RO 102 (b.Applied.map encApplied)),(24,VI (b.Applied.length:Int)),(25,VI c)]) (fun c=>[(0,.box [RO 4 (b.Up.map encB),RO 70 (b.Servers.map (encServer false)),RO 153 (b.Net.map (encMessage false)),RO 156 (b.Waits.map encWait),RO 160 (b.Leaders.map (encLeader false)),RO 102 (b.Applied.map encApplied),RO 165 (b.Replies.map encReply)])]) (.k [1,23,24,25] [1000]) fun _ c _ f=>.q e (.a e e (.q e (.B fun _ l=>.st e (Ev.iaF e e l) e (.c0 e i q fun _ _=>.a e e (.Xr f e e (.il (.e e (.Ek [] e e e)))) (.R e (fun h=>⟨_,h,e,e⟩) (.k [1,23,24,25] [0]))))) (.X f e e (.ir (.n e (.J e (.k [1] [0])))))))) fun _=>.j e (fun _=>[]) (fun _=>[]) (fun _=>.st e (Ev.lnF e) e (.L1 e (fun d=>[(1,.ptr 0 0),(37,VI (b.Servers.length:Int)),(38,VI d)]) (fun d=>[(0,.box [RO 4 (b.Up.map encB),RO 70 (b.Servers.map (encServer false)),RO 153 (b.Net.map (encMessage false)),RO 156 (b.Waits.map encWait),RO 160 (b.Leaders.map (encLeader false)),RO 102 (b.Applied.map encApplied),RO 165 (b.Replies.map encReply)])]) (.k [1,37,38] [0]) fun _ d _ g=>.q e (.a e e (.q e (.c0 e i q fun _ _=>.a e e (.Xr g e e (.il (.e e (.Ek [] e e e)))) (.R e (fun h=>⟨_,h,e,e⟩) (.k [1,37,38] [0])))) (.X g e e (.ir (.n e (.J e (.k [] [])))))))) fun _=>.Ek [] e e e)))))
def w_eqBoolS_l1 (N:Nat)(b:List Bool)(c:List Bool):Nat→Int→Option ((Bool)⊕(Unit))
 |0,_=>none
 |m+1,a=>
 (if decide (a<(b.length:Int))=true then
 (at? b a).bind fun d=>
 (at? c a).bind fun f=>
 (if((d==f) ^^ true)=true then
 some (Sum.inl false)
 else
 w_eqBoolS_l1 N b c m (w64 (a+1)))
 else
 some (Sum.inr ()))
def w_eqBoolS (N:Nat)(a:List Bool)(b:List Bool):Option (Bool):=
 (if((a.length:Int)!=(b.length:Int))=true then
 some false
 else
 joinP (fun(f:Unit)=>
 some true) fun c=>
 (w_eqBoolS_l1 N a b N 0).bind (Sum.elim (fun d=>some d) (fun(g:Unit)=>c ())))
instance i247 (N:Nat)(b:List Bool)(c:List Bool):JB 35 (w_eqBoolS N b c) [RO 4 (b.map encB),RO 4 (c.map encB)]:=.st e e Tryz.call35 fun B r=>.q e (.st e (Ev.lnF e) e (.st e (Ev.lnF e) e (.a e e (.Ek [] e e e) (.j e (fun _=>[]) (fun _=>[]) (fun _=>.L1 e (fun d=>[(0,RO 4 (b.map encB)),(1,RO 4 (c.map encB)),(5,VI d)]) (fun d=>[]) (.k [0,1,5] []) fun _ d _ f=>.q e (.st e (Ev.lnF e) e (.a e e (.q e (.B fun _ g=>.st e (Ev.iaF e e g) e (.B fun _ l=>.st e (Ev.iaF e e l) e (.dn e (.a e e (.Xr f e e (.il (.e e (.Ek [] e e e)))) (.R e (fun h=>⟨_,h,e,e⟩) (.k [0,1,5] []))))))) (.X f e e (.ir (.n e (.J e (.k [] [])))))))) fun _=>.Ek [] e e e))))
def w_eqIntS_l1 (N:Nat)(b:List Int)(c:List Int):Nat→Int→Option ((Bool)⊕(Unit))
 |0,_=>none
 |m+1,a=>
 (if decide (a<(b.length:Int))=true then
 (at? b a).bind fun d=>
 (at? c a).bind fun f=>
 (if(d !=f)=true then
 some (Sum.inl false)
 else
 w_eqIntS_l1 N b c m (w64 (a+1)))
 else
 some (Sum.inr ()))
def w_eqIntS (N:Nat)(a:List Int)(b:List Int):Option (Bool):=
 (if((a.length:Int)!=(b.length:Int))=true then
 some false
 else
 joinP (fun(f:Unit)=>
 some true) fun c=>
 (w_eqIntS_l1 N a b N 0).bind (Sum.elim (fun d=>some d) (fun(g:Unit)=>c ())))
instance i248 (N:Nat)(b:List Int)(c:List Int):JB 153 (w_eqIntS N b c) [RO 3 (b.map encI),RO 3 (c.map encI)]:=.st e e Tryz.call153 fun B r=>.q e (.st e (Ev.lnF e) e (.st e (Ev.lnF e) e (.a e e (.Ek [] e e e) (.j e (fun _=>[]) (fun _=>[]) (fun _=>.L1 e (fun d=>[(0,RO 3 (b.map encI)),(1,RO 3 (c.map encI)),(5,VI d)]) (fun d=>[]) (.k [0,1,5] []) fun _ d _ f=>.q e (.st e (Ev.lnF e) e (.a e e (.q e (.B fun _ g=>.st e (Ev.iaF e e g) e (.B fun _ l=>.st e (Ev.iaF e e l) e (.dn e (.a e e (.Xr f e e (.il (.e e (.Ek [] e e e)))) (.R e (fun h=>⟨_,h,e,e⟩) (.k [0,1,5] []))))))) (.X f e e (.ir (.n e (.J e (.k [] [])))))))) fun _=>.Ek [] e e e))))
def w_eqEntry (N:Nat)(a:Entry)(b:Entry):Option (Bool):=
 (if(a.Term !=b.Term)=true then
 some false
 else
 (if(a.Kind !=b.Kind)=true then
 some false
 else
 (if(!decide (a.Data=b.Data))=true then
 some false
 else
 some true)))
instance i249 (N:Nat)(b:Entry)(c:Entry):JB 155 (w_eqEntry N b c) [.agg [VI b.Term,VI b.Kind,VS b.Data],.agg [VI c.Term,VI c.Kind,VS c.Data]]:=.st e e Tryz.call155 fun B r=>.q e (.a e e (.Ek [] e e e) (.q e (.a e e (.Ek [] e e e) (.q e (.a e e (.Ek [] e e e) (.Ek [] e e e))))))
def w_eqEntryS_l1 (N:Nat)(b:List Entry)(c:List Entry):Nat→Int→Option ((Bool)⊕(Unit))
 |0,_=>none
 |m+1,a=>
 (if decide (a<(b.length:Int))=true then
 (at? b a).bind fun d=>
 (at? c a).bind fun f=>
 (w_eqEntry N d f).bind fun g=>
 (if(!g)=true then
 some (Sum.inl false)
 else
 w_eqEntryS_l1 N b c m (w64 (a+1)))
 else
 some (Sum.inr ()))
def w_eqEntryS (N:Nat)(a:List Entry)(b:List Entry):Option (Bool):=
 (if((a.length:Int)!=(b.length:Int))=true then
 some false
 else
 joinP (fun(f:Unit)=>
 some true) fun c=>
 (w_eqEntryS_l1 N a b N 0).bind (Sum.elim (fun d=>some d) (fun(g:Unit)=>c ())))
instance i250 (N:Nat)(b:List Entry)(c:List Entry):JB 152 (w_eqEntryS N b c) [RO 100 (b.map encEntry),RO 100 (c.map encEntry)]:=.st e e Tryz.call152 fun B r=>.q e (.st e (Ev.lnF e) e (.st e (Ev.lnF e) e (.a e e (.Ek [] e e e) (.j e (fun _=>[]) (fun _=>[]) (fun _=>.L1 e (fun d=>[(0,RO 100 (b.map encEntry)),(1,RO 100 (c.map encEntry)),(5,VI d)]) (fun d=>[]) (.k [0,1,5] []) fun _ d _ f=>.q e (.st e (Ev.lnF e) e (.a e e (.q e (.B fun _ g=>.st e (Ev.iaF e e g) e (.B fun _ l=>.st e (Ev.iaF e e l) e (.c0 e i q fun _ _=>.dn e (.a e e (.Xr f e e (.il (.e e (.Ek [] e e e)))) (.R e (fun h=>⟨_,h,e,e⟩) (.k [0,1,5] []))))))) (.X f e e (.ir (.n e (.J e (.k [] [])))))))) fun _=>.Ek [] e e e))))
def w_eqLog (N:Nat)(a:Log)(b:Log):Option (Bool):=
 (if(a.Start !=b.Start)=true then
 some false
 else
 (if(a.StartTerm !=b.StartTerm)=true then
 some false
 else
 (w_eqEntryS N a.Entries b.Entries).bind fun c=>
 (if(!c)=true then
 some false
 else
 some true)))
instance i251 (N:Nat)(b:Log)(c:Log):JB 154 (w_eqLog N b c) [.agg [VI b.Start,VI b.StartTerm,RO 100 (b.Entries.map encEntry)],.agg [VI c.Start,VI c.StartTerm,RO 100 (c.Entries.map encEntry)]]:=.st e e Tryz.call154 fun B r=>.q e (.a e e (.Ek [] e e e) (.q e (.a e e (.Ek [] e e e) (.q e (.c0 e i q fun _ _=>.a e e (.Ek [] e e e) (.Ek [] e e e))))))
def w_eqPeer (N:Nat)(a:Peer)(b:Peer):Option (Bool):=
 (if(a.Id !=b.Id)=true then
 some false
 else
 (if(a.Next !=b.Next)=true then
 some false
 else
 (if(a.Match !=b.Match)=true then
 some false
 else
 (if(a.Sent !=b.Sent)=true then
 some false
 else
 some true))))
instance i252 (N:Nat)(b:Peer)(c:Peer):JB 253 (w_eqPeer N b c) [.agg [VI b.Id,VI b.Next,VI b.Match,VI b.Sent],.agg [VI c.Id,VI c.Next,VI c.Match,VI c.Sent]]:=.st e e Tryz.call253 fun B r=>.q e (.a e e (.Ek [] e e e) (.q e (.a e e (.Ek [] e e e) (.q e (.a e e (.Ek [] e e e) (.q e (.a e e (.Ek [] e e e) (.Ek [] e e e))))))))
def w_eqPeerS_l1 (N:Nat)(b:List Peer)(c:List Peer):Nat→Int→Option ((Bool)⊕(Unit))
 |0,_=>none
 |m+1,a=>
 (if decide (a<(b.length:Int))=true then
 (at? b a).bind fun d=>
 (at? c a).bind fun f=>
 (w_eqPeer N d f).bind fun g=>
 (if(!g)=true then
 some (Sum.inl false)
 else
 w_eqPeerS_l1 N b c m (w64 (a+1)))
 else
 some (Sum.inr ()))
def w_eqPeerS (N:Nat)(a:List Peer)(b:List Peer):Option (Bool):=
 (if((a.length:Int)!=(b.length:Int))=true then
 some false
 else
 joinP (fun(f:Unit)=>
 some true) fun c=>
 (w_eqPeerS_l1 N a b N 0).bind (Sum.elim (fun d=>some d) (fun(g:Unit)=>c ())))
instance i253 (N:Nat)(b:List Peer)(c:List Peer):JB 216 (w_eqPeerS N b c) [RO 327 (b.map encPeer),RO 327 (c.map encPeer)]:=.st e e Tryz.call216 fun B r=>.q e (.st e (Ev.lnF e) e (.st e (Ev.lnF e) e (.a e e (.Ek [] e e e) (.j e (fun _=>[]) (fun _=>[]) (fun _=>.L1 e (fun d=>[(0,RO 327 (b.map encPeer)),(1,RO 327 (c.map encPeer)),(5,VI d)]) (fun d=>[]) (.k [0,1,5] []) fun _ d _ f=>.q e (.st e (Ev.lnF e) e (.a e e (.q e (.B fun _ g=>.st e (Ev.iaF e e g) e (.B fun _ l=>.st e (Ev.iaF e e l) e (.c0 e i q fun _ _=>.dn e (.a e e (.Xr f e e (.il (.e e (.Ek [] e e e)))) (.R e (fun h=>⟨_,h,e,e⟩) (.k [0,1,5] []))))))) (.X f e e (.ir (.n e (.J e (.k [] [])))))))) fun _=>.Ek [] e e e))))
def w_eqNode (N:Nat)(a:Node)(b:Node):Option (Bool):=
 (if(a.Id !=b.Id)=true then
 some false
 else
 (if(a.Term !=b.Term)=true then
 some false
 else
 (if(a.Vote !=b.Vote)=true then
 some false
 else
 (if(a.Role !=b.Role)=true then
 some false
 else
 (if(a.Lead !=b.Lead)=true then
 some false
 else
 (w_eqIntS N a.Conf b.Conf).bind fun c=>
 (if(!c)=true then
 some false
 else
 (w_eqLog N a.Log b.Log).bind fun d=>
 (if(!d)=true then
 some false
 else
 (if(a.Commit !=b.Commit)=true then
 some false
 else
 (if(a.Clock !=b.Clock)=true then
 some false
 else
 (if(a.Limit !=b.Limit)=true then
 some false
 else
 (w_eqIntS N a.Votes b.Votes).bind fun f=>
 (if(!f)=true then
 some false
 else
 (w_eqPeerS N a.Peers b.Peers).bind fun g=>
 (if(!g)=true then
 some false
 else
 some true))))))))))))
instance i254 (N:Nat)(b:Node)(c:Node):JB 149 (w_eqNode N b c) [.agg [VI b.Id,VI b.Term,VI b.Vote,VI b.Role,VI b.Lead,RO 3 (b.Conf.map encI),VI b.Log.Start,VI b.Log.StartTerm,RO 100 (b.Log.Entries.map encEntry),VI b.Commit,VI b.Clock,VI b.Limit,RO 3 (b.Votes.map encI),RO 327 (b.Peers.map encPeer)],.agg [VI c.Id,VI c.Term,VI c.Vote,VI c.Role,VI c.Lead,RO 3 (c.Conf.map encI),VI c.Log.Start,VI c.Log.StartTerm,RO 100 (c.Log.Entries.map encEntry),VI c.Commit,VI c.Clock,VI c.Limit,RO 3 (c.Votes.map encI),RO 327 (c.Peers.map encPeer)]]:=.st e e Tryz.call149 fun B r=>.q e (.a e e (.Ek [] e e e) (.q e (.a e e (.Ek [] e e e) (.q e (.a e e (.Ek [] e e e) (.q e (.a e e (.Ek [] e e e) (.q e (.a e e (.Ek [] e e e) (.q e (.c0 e i q fun _ _=>.a e e (.Ek [] e e e) (.q e (.c0 e i q fun _ _=>.a e e (.Ek [] e e e) (.q e (.a e e (.Ek [] e e e) (.q e (.a e e (.Ek [] e e e) (.q e (.a e e (.Ek [] e e e) (.q e (.c0 e i q fun _ _=>.a e e (.Ek [] e e e) (.q e (.c0 e i q fun _ _=>.a e e (.Ek [] e e e) (.Ek [] e e e))))))))))))))))))))))))
def w_eqFile (N:Nat)(a:File)(b:File):Option (Bool):=
 (if(!decide (a.Name=b.Name))=true then
 some false
 else
 (if(!decide (a.Text=b.Text))=true then
 some false
 else
 some true))
instance i255 (N:Nat)(b:File)(c:File):JB 254 (w_eqFile N b c) [.agg [VS b.Name,VS b.Text],.agg [VS c.Name,VS c.Text]]:=.st e e Tryz.call254 fun B r=>.q e (.a e e (.Ek [] e e e) (.q e (.a e e (.Ek [] e e e) (.Ek [] e e e))))
def w_eqFileS_l1 (N:Nat)(b:List File)(c:List File):Nat→Int→Option ((Bool)⊕(Unit))
 |0,_=>none
 |m+1,a=>
 (if decide (a<(b.length:Int))=true then
 (at? b a).bind fun d=>
 (at? c a).bind fun f=>
 (w_eqFile N d f).bind fun g=>
 (if(!g)=true then
 some (Sum.inl false)
 else
 w_eqFileS_l1 N b c m (w64 (a+1)))
 else
 some (Sum.inr ()))
def w_eqFileS (N:Nat)(a:List File)(b:List File):Option (Bool):=
 (if((a.length:Int)!=(b.length:Int))=true then
 some false
 else
 joinP (fun(f:Unit)=>
 some true) fun c=>
 (w_eqFileS_l1 N a b N 0).bind (Sum.elim (fun d=>some d) (fun(g:Unit)=>c ())))
instance i256 (N:Nat)(b:List File)(c:List File):JB 217 (w_eqFileS N b c) [RO 141 (b.map encFile),RO 141 (c.map encFile)]:=.st e e Tryz.call217 fun B r=>.q e (.st e (Ev.lnF e) e (.st e (Ev.lnF e) e (.a e e (.Ek [] e e e) (.j e (fun _=>[]) (fun _=>[]) (fun _=>.L1 e (fun d=>[(0,RO 141 (b.map encFile)),(1,RO 141 (c.map encFile)),(5,VI d)]) (fun d=>[]) (.k [0,1,5] []) fun _ d _ f=>.q e (.st e (Ev.lnF e) e (.a e e (.q e (.B fun _ g=>.st e (Ev.iaF e e g) e (.B fun _ l=>.st e (Ev.iaF e e l) e (.c0 e i q fun _ _=>.dn e (.a e e (.Xr f e e (.il (.e e (.Ek [] e e e)))) (.R e (fun h=>⟨_,h,e,e⟩) (.k [0,1,5] []))))))) (.X f e e (.ir (.n e (.J e (.k [] [])))))))) fun _=>.Ek [] e e e))))
def w_eqDisk (N:Nat)(a:Disk)(b:Disk):Option (Bool):=
 (w_eqFileS N a.Files b.Files).bind fun c=>
 (if(!c)=true then
 some false
 else
 some true)
instance i257 (N:Nat)(b:Disk)(c:Disk):JB 150 (w_eqDisk N b c) [.agg [RO 141 (b.Files.map encFile)],.agg [RO 141 (c.Files.map encFile)]]:=.st e e Tryz.call150 fun B r=>.q e (.c0 e i q fun _ _=>.a e e (.Ek [] e e e) (.Ek [] e e e))
def w_eqManifest (N:Nat)(a:Manifest)(b:Manifest):Option (Bool):=
 (w_eqIntS N a.Segs b.Segs).bind fun c=>
 (if(!c)=true then
 some false
 else
 (if(a.Next !=b.Next)=true then
 some false
 else
 (if(a.Base !=b.Base)=true then
 some false
 else
 (if(a.BaseTerm !=b.BaseTerm)=true then
 some false
 else
 (w_eqIntS N a.Conf b.Conf).bind fun d=>
 (if(!d)=true then
 some false
 else
 some true)))))
instance i258 (N:Nat)(b:Manifest)(c:Manifest):JB 218 (w_eqManifest N b c) [.agg [RO 3 (b.Segs.map encI),VI b.Next,VI b.Base,VI b.BaseTerm,RO 3 (b.Conf.map encI)],.agg [RO 3 (c.Segs.map encI),VI c.Next,VI c.Base,VI c.BaseTerm,RO 3 (c.Conf.map encI)]]:=.st e e Tryz.call218 fun B r=>.q e (.c0 e i q fun _ _=>.a e e (.Ek [] e e e) (.q e (.a e e (.Ek [] e e e) (.q e (.a e e (.Ek [] e e e) (.q e (.a e e (.Ek [] e e e) (.q e (.c0 e i q fun _ _=>.a e e (.Ek [] e e e) (.Ek [] e e e))))))))))
def w_eqSpot (N:Nat)(a:Spot)(b:Spot):Option (Bool):=
 (if(!decide (a.Key=b.Key))=true then
 some false
 else
 (if(a.Seg !=b.Seg)=true then
 some false
 else
 (if(a.At !=b.At)=true then
 some false
 else
 (if(a.Size !=b.Size)=true then
 some false
 else
 some true))))
instance i259 (N:Nat)(b:Spot)(c:Spot):JB 255 (w_eqSpot N b c) [.agg [VS b.Key,VI b.Seg,VI b.At,VI b.Size],.agg [VS c.Key,VI c.Seg,VI c.At,VI c.Size]]:=.st e e Tryz.call255 fun B r=>.q e (.a e e (.Ek [] e e e) (.q e (.a e e (.Ek [] e e e) (.q e (.a e e (.Ek [] e e e) (.q e (.a e e (.Ek [] e e e) (.Ek [] e e e))))))))
def w_eqSpotS_l1 (N:Nat)(b:List Spot)(c:List Spot):Nat→Int→Option ((Bool)⊕(Unit))
 |0,_=>none
 |m+1,a=>
 (if decide (a<(b.length:Int))=true then
 (at? b a).bind fun d=>
 (at? c a).bind fun f=>
 (w_eqSpot N d f).bind fun g=>
 (if(!g)=true then
 some (Sum.inl false)
 else
 w_eqSpotS_l1 N b c m (w64 (a+1)))
 else
 some (Sum.inr ()))
def w_eqSpotS (N:Nat)(a:List Spot)(b:List Spot):Option (Bool):=
 (if((a.length:Int)!=(b.length:Int))=true then
 some false
 else
 joinP (fun(f:Unit)=>
 some true) fun c=>
 (w_eqSpotS_l1 N a b N 0).bind (Sum.elim (fun d=>some d) (fun(g:Unit)=>c ())))
instance i260 (N:Nat)(b:List Spot)(c:List Spot):JB 219 (w_eqSpotS N b c) [RO 148 (b.map encSpot),RO 148 (c.map encSpot)]:=.st e e Tryz.call219 fun B r=>.q e (.st e (Ev.lnF e) e (.st e (Ev.lnF e) e (.a e e (.Ek [] e e e) (.j e (fun _=>[]) (fun _=>[]) (fun _=>.L1 e (fun d=>[(0,RO 148 (b.map encSpot)),(1,RO 148 (c.map encSpot)),(5,VI d)]) (fun d=>[]) (.k [0,1,5] []) fun _ d _ f=>.q e (.st e (Ev.lnF e) e (.a e e (.q e (.B fun _ g=>.st e (Ev.iaF e e g) e (.B fun _ l=>.st e (Ev.iaF e e l) e (.c0 e i q fun _ _=>.dn e (.a e e (.Xr f e e (.il (.e e (.Ek [] e e e)))) (.R e (fun h=>⟨_,h,e,e⟩) (.k [0,1,5] []))))))) (.X f e e (.ir (.n e (.J e (.k [] [])))))))) fun _=>.Ek [] e e e))))
def w_eqShelf (N:Nat)(a:Shelf)(b:Shelf):Option (Bool):=
 (w_eqManifest N a.Man b.Man).bind fun c=>
 (if(!c)=true then
 some false
 else
 (w_eqSpotS N a.Dir b.Dir).bind fun d=>
 (if(!d)=true then
 some false
 else
 (if(a.Stamp !=b.Stamp)=true then
 some false
 else
 some true)))
instance i261 (N:Nat)(b:Shelf)(c:Shelf):JB 151 (w_eqShelf N b c) [.agg [RO 3 (b.Man.Segs.map encI),VI b.Man.Next,VI b.Man.Base,VI b.Man.BaseTerm,RO 3 (b.Man.Conf.map encI),RO 148 (b.Dir.map encSpot),VI b.Stamp],.agg [RO 3 (c.Man.Segs.map encI),VI c.Man.Next,VI c.Man.Base,VI c.Man.BaseTerm,RO 3 (c.Man.Conf.map encI),RO 148 (c.Dir.map encSpot),VI c.Stamp]]:=.st e e Tryz.call151 fun B r=>.q e (.c0 e i q fun _ _=>.a e e (.Ek [] e e e) (.q e (.c0 e i q fun _ _=>.a e e (.Ek [] e e e) (.q e (.a e e (.Ek [] e e e) (.Ek [] e e e))))))
def w_eqServer (N:Nat)(a:Server)(b:Server):Option (Bool):=
 (w_eqNode N a.Node b.Node).bind fun c=>
 (if(!c)=true then
 some false
 else
 (w_eqDisk N a.Disk b.Disk).bind fun d=>
 (if(!d)=true then
 some false
 else
 (w_eqShelf N a.Shelf b.Shelf).bind fun f=>
 (if(!f)=true then
 some false
 else
 (if(!decide (a.Stage=b.Stage))=true then
 some false
 else
 (if(a.StageAt !=b.StageAt)=true then
 some false
 else
 (if(a.StageTerm !=b.StageTerm)=true then
 some false
 else
 some true))))))
instance i262 (N:Nat)(b:Server)(c:Server):JB 82 (w_eqServer N b c) [.agg [VI b.Node.Id,VI b.Node.Term,VI b.Node.Vote,VI b.Node.Role,VI b.Node.Lead,RO 3 (b.Node.Conf.map encI),VI b.Node.Log.Start,VI b.Node.Log.StartTerm,RO 100 (b.Node.Log.Entries.map encEntry),VI b.Node.Commit,VI b.Node.Clock,VI b.Node.Limit,RO 3 (b.Node.Votes.map encI),RO 327 (b.Node.Peers.map encPeer),RO 141 (b.Disk.Files.map encFile),RO 3 (b.Shelf.Man.Segs.map encI),VI b.Shelf.Man.Next,VI b.Shelf.Man.Base,VI b.Shelf.Man.BaseTerm,RO 3 (b.Shelf.Man.Conf.map encI),RO 148 (b.Shelf.Dir.map encSpot),VI b.Shelf.Stamp,VS b.Stage,VI b.StageAt,VI b.StageTerm],.agg [VI c.Node.Id,VI c.Node.Term,VI c.Node.Vote,VI c.Node.Role,VI c.Node.Lead,RO 3 (c.Node.Conf.map encI),VI c.Node.Log.Start,VI c.Node.Log.StartTerm,RO 100 (c.Node.Log.Entries.map encEntry),VI c.Node.Commit,VI c.Node.Clock,VI c.Node.Limit,RO 3 (c.Node.Votes.map encI),RO 327 (c.Node.Peers.map encPeer),RO 141 (c.Disk.Files.map encFile),RO 3 (c.Shelf.Man.Segs.map encI),VI c.Shelf.Man.Next,VI c.Shelf.Man.Base,VI c.Shelf.Man.BaseTerm,RO 3 (c.Shelf.Man.Conf.map encI),RO 148 (c.Shelf.Dir.map encSpot),VI c.Shelf.Stamp,VS c.Stage,VI c.StageAt,VI c.StageTerm]]:=.st e e Tryz.call82 fun B r=>.q e (.c0 e i q fun _ _=>.a e e (.Ek [] e e e) (.q e (.c0 e i q fun _ _=>.a e e (.Ek [] e e e) (.q e (.c0 e i q fun _ _=>.a e e (.Ek [] e e e) (.q e (.a e e (.Ek [] e e e) (.q e (.a e e (.Ek [] e e e) (.q e (.a e e (.Ek [] e e e) (.Ek [] e e e))))))))))))
def w_eqServerS_l1 (N:Nat)(b:List Server)(c:List Server):Nat→Int→Option ((Bool)⊕(Unit))
 |0,_=>none
 |m+1,a=>
 (if decide (a<(b.length:Int))=true then
 (at? b a).bind fun d=>
 (at? c a).bind fun f=>
 (w_eqServer N d f).bind fun g=>
 (if(!g)=true then
 some (Sum.inl false)
 else
 w_eqServerS_l1 N b c m (w64 (a+1)))
 else
 some (Sum.inr ()))
def w_eqServerS (N:Nat)(a:List Server)(b:List Server):Option (Bool):=
 (if((a.length:Int)!=(b.length:Int))=true then
 some false
 else
 joinP (fun(f:Unit)=>
 some true) fun c=>
 (w_eqServerS_l1 N a b N 0).bind (Sum.elim (fun d=>some d) (fun(g:Unit)=>c ())))
instance i263 (N:Nat)(b:List Server)(c:List Server):JB 36 (w_eqServerS N b c) [RO 70 (b.map (encServer false)),RO 70 (c.map (encServer false))]:=.st e e Tryz.call36 fun B r=>.q e (.st e (Ev.lnF e) e (.st e (Ev.lnF e) e (.a e e (.Ek [] e e e) (.j e (fun _=>[]) (fun _=>[]) (fun _=>.L1 e (fun d=>[(0,RO 70 (b.map (encServer false))),(1,RO 70 (c.map (encServer false))),(5,VI d)]) (fun d=>[]) (.k [0,1,5] []) fun _ d _ f=>.q e (.st e (Ev.lnF e) e (.a e e (.q e (.B fun _ g=>.st e (Ev.iaF e e g) e (.B fun _ l=>.st e (Ev.iaF e e l) e (.c0 e i q fun _ _=>.dn e (.a e e (.Xr f e e (.il (.e e (.Ek [] e e e)))) (.R e (fun h=>⟨_,h,e,e⟩) (.k [0,1,5] []))))))) (.X f e e (.ir (.n e (.J e (.k [] [])))))))) fun _=>.Ek [] e e e))))
def w_eqMessage (N:Nat)(a:Message)(b:Message):Option (Bool):=
 (if(a.Kind !=b.Kind)=true then
 some false
 else
 (if(a.From !=b.From)=true then
 some false
 else
 (if(a.To !=b.To)=true then
 some false
 else
 (if(a.Term !=b.Term)=true then
 some false
 else
 (if(a.Index !=b.Index)=true then
 some false
 else
 (if(a.LogTerm !=b.LogTerm)=true then
 some false
 else
 (if(a.Commit !=b.Commit)=true then
 some false
 else
 (if((a.Ok==b.Ok) ^^ true)=true then
 some false
 else
 (w_eqEntryS N a.Entries b.Entries).bind fun c=>
 (if(!c)=true then
 some false
 else
 (w_eqIntS N a.Conf b.Conf).bind fun d=>
 (if(!d)=true then
 some false
 else
 (if(!decide (a.Data=b.Data))=true then
 some false
 else
 (if((a.Last==b.Last) ^^ true)=true then
 some false
 else
 some true))))))))))))
instance i264 (N:Nat)(b:Message)(c:Message):JB 83 (w_eqMessage N b c) [.agg [VI b.Kind,VI b.From,VI b.To,VI b.Term,VI b.Index,VI b.LogTerm,VI b.Commit,VB b.Ok,RO 100 (b.Entries.map encEntry),RO 3 (b.Conf.map encI),VS b.Data,VB b.Last],.agg [VI c.Kind,VI c.From,VI c.To,VI c.Term,VI c.Index,VI c.LogTerm,VI c.Commit,VB c.Ok,RO 100 (c.Entries.map encEntry),RO 3 (c.Conf.map encI),VS c.Data,VB c.Last]]:=.st e e Tryz.call83 fun B r=>.q e (.a e e (.Ek [] e e e) (.q e (.a e e (.Ek [] e e e) (.q e (.a e e (.Ek [] e e e) (.q e (.a e e (.Ek [] e e e) (.q e (.a e e (.Ek [] e e e) (.q e (.a e e (.Ek [] e e e) (.q e (.a e e (.Ek [] e e e) (.q e (.a e e (.Ek [] e e e) (.q e (.c0 e i q fun _ _=>.a e e (.Ek [] e e e) (.q e (.c0 e i q fun _ _=>.a e e (.Ek [] e e e) (.q e (.a e e (.Ek [] e e e) (.q e (.a e e (.Ek [] e e e) (.Ek [] e e e))))))))))))))))))))))))
def w_eqMessageS_l1 (N:Nat)(b:List Message)(c:List Message):Nat→Int→Option ((Bool)⊕(Unit))
 |0,_=>none
 |m+1,a=>
 (if decide (a<(b.length:Int))=true then
 (at? b a).bind fun d=>
 (at? c a).bind fun f=>
 (w_eqMessage N d f).bind fun g=>
 (if(!g)=true then
 some (Sum.inl false)
 else
 w_eqMessageS_l1 N b c m (w64 (a+1)))
 else
 some (Sum.inr ()))
def w_eqMessageS (N:Nat)(a:List Message)(b:List Message):Option (Bool):=
 (if((a.length:Int)!=(b.length:Int))=true then
 some false
 else
 joinP (fun(f:Unit)=>
 some true) fun c=>
 (w_eqMessageS_l1 N a b N 0).bind (Sum.elim (fun d=>some d) (fun(g:Unit)=>c ())))
instance i265 (N:Nat)(b:List Message)(c:List Message):JB 37 (w_eqMessageS N b c) [RO 153 (b.map (encMessage false)),RO 153 (c.map (encMessage false))]:=.st e e Tryz.call37 fun B r=>.q e (.st e (Ev.lnF e) e (.st e (Ev.lnF e) e (.a e e (.Ek [] e e e) (.j e (fun _=>[]) (fun _=>[]) (fun _=>.L1 e (fun d=>[(0,RO 153 (b.map (encMessage false))),(1,RO 153 (c.map (encMessage false))),(5,VI d)]) (fun d=>[]) (.k [0,1,5] []) fun _ d _ f=>.q e (.st e (Ev.lnF e) e (.a e e (.q e (.B fun _ g=>.st e (Ev.iaF e e g) e (.B fun _ l=>.st e (Ev.iaF e e l) e (.c0 e i q fun _ _=>.dn e (.a e e (.Xr f e e (.il (.e e (.Ek [] e e e)))) (.R e (fun h=>⟨_,h,e,e⟩) (.k [0,1,5] []))))))) (.X f e e (.ir (.n e (.J e (.k [] [])))))))) fun _=>.Ek [] e e e))))
def w_eqWait (N:Nat)(a:Wait)(b:Wait):Option (Bool):=
 (if(a.Node !=b.Node)=true then
 some false
 else
 (if(a.Index !=b.Index)=true then
 some false
 else
 (if(a.Term !=b.Term)=true then
 some false
 else
 (if(a.Call !=b.Call)=true then
 some false
 else
 some true))))
instance i266 (N:Nat)(b:Wait)(c:Wait):JB 84 (w_eqWait N b c) [.agg [VI b.Node,VI b.Index,VI b.Term,VI b.Call],.agg [VI c.Node,VI c.Index,VI c.Term,VI c.Call]]:=.st e e Tryz.call84 fun B r=>.q e (.a e e (.Ek [] e e e) (.q e (.a e e (.Ek [] e e e) (.q e (.a e e (.Ek [] e e e) (.q e (.a e e (.Ek [] e e e) (.Ek [] e e e))))))))
def w_eqWaitS_l1 (N:Nat)(b:List Wait)(c:List Wait):Nat→Int→Option ((Bool)⊕(Unit))
 |0,_=>none
 |m+1,a=>
 (if decide (a<(b.length:Int))=true then
 (at? b a).bind fun d=>
 (at? c a).bind fun f=>
 (w_eqWait N d f).bind fun g=>
 (if(!g)=true then
 some (Sum.inl false)
 else
 w_eqWaitS_l1 N b c m (w64 (a+1)))
 else
 some (Sum.inr ()))
def w_eqWaitS (N:Nat)(a:List Wait)(b:List Wait):Option (Bool):=
 (if((a.length:Int)!=(b.length:Int))=true then
 some false
 else
 joinP (fun(f:Unit)=>
 some true) fun c=>
 (w_eqWaitS_l1 N a b N 0).bind (Sum.elim (fun d=>some d) (fun(g:Unit)=>c ())))
instance i267 (N:Nat)(b:List Wait)(c:List Wait):JB 38 (w_eqWaitS N b c) [RO 156 (b.map encWait),RO 156 (c.map encWait)]:=.st e e Tryz.call38 fun B r=>.q e (.st e (Ev.lnF e) e (.st e (Ev.lnF e) e (.a e e (.Ek [] e e e) (.j e (fun _=>[]) (fun _=>[]) (fun _=>.L1 e (fun d=>[(0,RO 156 (b.map encWait)),(1,RO 156 (c.map encWait)),(5,VI d)]) (fun d=>[]) (.k [0,1,5] []) fun _ d _ f=>.q e (.st e (Ev.lnF e) e (.a e e (.q e (.B fun _ g=>.st e (Ev.iaF e e g) e (.B fun _ l=>.st e (Ev.iaF e e l) e (.c0 e i q fun _ _=>.dn e (.a e e (.Xr f e e (.il (.e e (.Ek [] e e e)))) (.R e (fun h=>⟨_,h,e,e⟩) (.k [0,1,5] []))))))) (.X f e e (.ir (.n e (.J e (.k [] [])))))))) fun _=>.Ek [] e e e))))
def w_eqLeader (N:Nat)(a:Leader)(b:Leader):Option (Bool):=
 (if(a.Node !=b.Node)=true then
 some false
 else
 (if(a.Term !=b.Term)=true then
 some false
 else
 (w_eqLog N a.Log b.Log).bind fun c=>
 (if(!c)=true then
 some false
 else
 some true)))
instance i268 (N:Nat)(b:Leader)(c:Leader):JB 85 (w_eqLeader N b c) [.agg [VI b.Node,VI b.Term,VI b.Log.Start,VI b.Log.StartTerm,RO 100 (b.Log.Entries.map encEntry)],.agg [VI c.Node,VI c.Term,VI c.Log.Start,VI c.Log.StartTerm,RO 100 (c.Log.Entries.map encEntry)]]:=.st e e Tryz.call85 fun B r=>.q e (.a e e (.Ek [] e e e) (.q e (.a e e (.Ek [] e e e) (.q e (.c0 e i q fun _ _=>.a e e (.Ek [] e e e) (.Ek [] e e e))))))
def w_eqLeaderS_l1 (N:Nat)(b:List Leader)(c:List Leader):Nat→Int→Option ((Bool)⊕(Unit))
 |0,_=>none
 |m+1,a=>
 (if decide (a<(b.length:Int))=true then
 (at? b a).bind fun d=>
 (at? c a).bind fun f=>
 (w_eqLeader N d f).bind fun g=>
 (if(!g)=true then
 some (Sum.inl false)
 else
 w_eqLeaderS_l1 N b c m (w64 (a+1)))
 else
 some (Sum.inr ()))
def w_eqLeaderS (N:Nat)(a:List Leader)(b:List Leader):Option (Bool):=
 (if((a.length:Int)!=(b.length:Int))=true then
 some false
 else
 joinP (fun(f:Unit)=>
 some true) fun c=>
 (w_eqLeaderS_l1 N a b N 0).bind (Sum.elim (fun d=>some d) (fun(g:Unit)=>c ())))
instance i269 (N:Nat)(b:List Leader)(c:List Leader):JB 39 (w_eqLeaderS N b c) [RO 160 (b.map (encLeader false)),RO 160 (c.map (encLeader false))]:=.st e e Tryz.call39 fun B r=>.q e (.st e (Ev.lnF e) e (.st e (Ev.lnF e) e (.a e e (.Ek [] e e e) (.j e (fun _=>[]) (fun _=>[]) (fun _=>.L1 e (fun d=>[(0,RO 160 (b.map (encLeader false))),(1,RO 160 (c.map (encLeader false))),(5,VI d)]) (fun d=>[]) (.k [0,1,5] []) fun _ d _ f=>.q e (.st e (Ev.lnF e) e (.a e e (.q e (.B fun _ g=>.st e (Ev.iaF e e g) e (.B fun _ l=>.st e (Ev.iaF e e l) e (.c0 e i q fun _ _=>.dn e (.a e e (.Xr f e e (.il (.e e (.Ek [] e e e)))) (.R e (fun h=>⟨_,h,e,e⟩) (.k [0,1,5] []))))))) (.X f e e (.ir (.n e (.J e (.k [] [])))))))) fun _=>.Ek [] e e e))))
def w_eqApplied (N:Nat)(a:Applied)(b:Applied):Option (Bool):=
 (if(a.Node !=b.Node)=true then
 some false
 else
 (if(a.Term !=b.Term)=true then
 some false
 else
 (if(a.Index !=b.Index)=true then
 some false
 else
 (w_eqEntry N a.Entry b.Entry).bind fun c=>
 (if(!c)=true then
 some false
 else
 some true))))
instance i270 (N:Nat)(b:Applied)(c:Applied):JB 86 (w_eqApplied N b c) [.agg [VI b.Node,VI b.Term,VI b.Index,VI b.Entry.Term,VI b.Entry.Kind,VS b.Entry.Data],.agg [VI c.Node,VI c.Term,VI c.Index,VI c.Entry.Term,VI c.Entry.Kind,VS c.Entry.Data]]:=.st e e Tryz.call86 fun B r=>.q e (.a e e (.Ek [] e e e) (.q e (.a e e (.Ek [] e e e) (.q e (.a e e (.Ek [] e e e) (.q e (.c0 e i q fun _ _=>.a e e (.Ek [] e e e) (.Ek [] e e e))))))))
def w_eqAppliedS_l1 (N:Nat)(b:List Applied)(c:List Applied):Nat→Int→Option ((Bool)⊕(Unit))
 |0,_=>none
 |m+1,a=>
 (if decide (a<(b.length:Int))=true then
 (at? b a).bind fun d=>
 (at? c a).bind fun f=>
 (w_eqApplied N d f).bind fun g=>
 (if(!g)=true then
 some (Sum.inl false)
 else
 w_eqAppliedS_l1 N b c m (w64 (a+1)))
 else
 some (Sum.inr ()))
def w_eqAppliedS (N:Nat)(a:List Applied)(b:List Applied):Option (Bool):=
 (if((a.length:Int)!=(b.length:Int))=true then
 some false
 else
 joinP (fun(f:Unit)=>
 some true) fun c=>
 (w_eqAppliedS_l1 N a b N 0).bind (Sum.elim (fun d=>some d) (fun(g:Unit)=>c ())))
instance i271 (N:Nat)(b:List Applied)(c:List Applied):JB 40 (w_eqAppliedS N b c) [RO 102 (b.map encApplied),RO 102 (c.map encApplied)]:=.st e e Tryz.call40 fun B r=>.q e (.st e (Ev.lnF e) e (.st e (Ev.lnF e) e (.a e e (.Ek [] e e e) (.j e (fun _=>[]) (fun _=>[]) (fun _=>.L1 e (fun d=>[(0,RO 102 (b.map encApplied)),(1,RO 102 (c.map encApplied)),(5,VI d)]) (fun d=>[]) (.k [0,1,5] []) fun _ d _ f=>.q e (.st e (Ev.lnF e) e (.a e e (.q e (.B fun _ g=>.st e (Ev.iaF e e g) e (.B fun _ l=>.st e (Ev.iaF e e l) e (.c0 e i q fun _ _=>.dn e (.a e e (.Xr f e e (.il (.e e (.Ek [] e e e)))) (.R e (fun h=>⟨_,h,e,e⟩) (.k [0,1,5] []))))))) (.X f e e (.ir (.n e (.J e (.k [] [])))))))) fun _=>.Ek [] e e e))))
def w_eqCommand (N:Nat)(a:Command)(b:Command):Option (Bool):=
 (if(a.Op !=b.Op)=true then
 some false
 else
 (if(a.Session !=b.Session)=true then
 some false
 else
 (if(a.Seq !=b.Seq)=true then
 some false
 else
 (if(!decide (a.Key=b.Key))=true then
 some false
 else
 (if(!decide (a.Value=b.Value))=true then
 some false
 else
 (if(!decide (a.Old=b.Old))=true then
 some false
 else
 some true))))))
instance i272 (N:Nat)(b:Command)(c:Command):JB 156 (w_eqCommand N b c) [.agg [VI b.Op,VI b.Session,VI b.Seq,VS b.Key,VS b.Value,VS b.Old],.agg [VI c.Op,VI c.Session,VI c.Seq,VS c.Key,VS c.Value,VS c.Old]]:=.st e e Tryz.call156 fun B r=>.q e (.a e e (.Ek [] e e e) (.q e (.a e e (.Ek [] e e e) (.q e (.a e e (.Ek [] e e e) (.q e (.a e e (.Ek [] e e e) (.q e (.a e e (.Ek [] e e e) (.q e (.a e e (.Ek [] e e e) (.Ek [] e e e))))))))))))
def w_eqReply (N:Nat)(a:Reply)(b:Reply):Option (Bool):=
 (if(a.Call !=b.Call)=true then
 some false
 else
 (if(a.Index !=b.Index)=true then
 some false
 else
 (w_eqCommand N a.Command b.Command).bind fun c=>
 (if(!c)=true then
 some false
 else
 (if(!decide (a.Text=b.Text))=true then
 some false
 else
 some true))))
instance i273 (N:Nat)(b:Reply)(c:Reply):JB 87 (w_eqReply N b c) [.agg [VI b.Call,VI b.Index,VI b.Command.Op,VI b.Command.Session,VI b.Command.Seq,VS b.Command.Key,VS b.Command.Value,VS b.Command.Old,VS b.Text],.agg [VI c.Call,VI c.Index,VI c.Command.Op,VI c.Command.Session,VI c.Command.Seq,VS c.Command.Key,VS c.Command.Value,VS c.Command.Old,VS c.Text]]:=.st e e Tryz.call87 fun B r=>.q e (.a e e (.Ek [] e e e) (.q e (.a e e (.Ek [] e e e) (.q e (.c0 e i q fun _ _=>.a e e (.Ek [] e e e) (.q e (.a e e (.Ek [] e e e) (.Ek [] e e e))))))))
def w_eqReplyS_l1 (N:Nat)(b:List Reply)(c:List Reply):Nat→Int→Option ((Bool)⊕(Unit))
 |0,_=>none
 |m+1,a=>
 (if decide (a<(b.length:Int))=true then
 (at? b a).bind fun d=>
 (at? c a).bind fun f=>
 (w_eqReply N d f).bind fun g=>
 (if(!g)=true then
 some (Sum.inl false)
 else
 w_eqReplyS_l1 N b c m (w64 (a+1)))
 else
 some (Sum.inr ()))
def w_eqReplyS (N:Nat)(a:List Reply)(b:List Reply):Option (Bool):=
 (if((a.length:Int)!=(b.length:Int))=true then
 some false
 else
 joinP (fun(f:Unit)=>
 some true) fun c=>
 (w_eqReplyS_l1 N a b N 0).bind (Sum.elim (fun d=>some d) (fun(g:Unit)=>c ())))
instance i274 (N:Nat)(b:List Reply)(c:List Reply):JB 41 (w_eqReplyS N b c) [RO 165 (b.map encReply),RO 165 (c.map encReply)]:=.st e e Tryz.call41 fun B r=>.q e (.st e (Ev.lnF e) e (.st e (Ev.lnF e) e (.a e e (.Ek [] e e e) (.j e (fun _=>[]) (fun _=>[]) (fun _=>.L1 e (fun d=>[(0,RO 165 (b.map encReply)),(1,RO 165 (c.map encReply)),(5,VI d)]) (fun d=>[]) (.k [0,1,5] []) fun _ d _ f=>.q e (.st e (Ev.lnF e) e (.a e e (.q e (.B fun _ g=>.st e (Ev.iaF e e g) e (.B fun _ l=>.st e (Ev.iaF e e l) e (.c0 e i q fun _ _=>.dn e (.a e e (.Xr f e e (.il (.e e (.Ek [] e e e)))) (.R e (fun h=>⟨_,h,e,e⟩) (.k [0,1,5] []))))))) (.X f e e (.ir (.n e (.J e (.k [] [])))))))) fun _=>.Ek [] e e e))))
def w_eqWorld (N:Nat)(a:World)(b:World):Option (Bool):=
 (w_eqBoolS N a.Up b.Up).bind fun c=>
 (if(!c)=true then
 some false
 else
 (w_eqServerS N a.Servers b.Servers).bind fun d=>
 (if(!d)=true then
 some false
 else
 (w_eqMessageS N a.Net b.Net).bind fun f=>
 (if(!f)=true then
 some false
 else
 (w_eqWaitS N a.Waits b.Waits).bind fun g=>
 (if(!g)=true then
 some false
 else
 (w_eqLeaderS N a.Leaders b.Leaders).bind fun h=>
 (if(!h)=true then
 some false
 else
 (w_eqAppliedS N a.Applied b.Applied).bind fun j=>
 (if(!j)=true then
 some false
 else
 (w_eqReplyS N a.Replies b.Replies).bind fun k=>
 (if(!k)=true then
 some false
 else
 some true)))))))
instance i275 (N:Nat)(b:World)(c:World):JB 9 (w_eqWorld N b c) [.agg [RO 4 (b.Up.map encB),RO 70 (b.Servers.map (encServer false)),RO 153 (b.Net.map (encMessage false)),RO 156 (b.Waits.map encWait),RO 160 (b.Leaders.map (encLeader false)),RO 102 (b.Applied.map encApplied),RO 165 (b.Replies.map encReply)],.agg [RO 4 (c.Up.map encB),RO 70 (c.Servers.map (encServer false)),RO 153 (c.Net.map (encMessage false)),RO 156 (c.Waits.map encWait),RO 160 (c.Leaders.map (encLeader false)),RO 102 (c.Applied.map encApplied),RO 165 (c.Replies.map encReply)]]:=.st e e Tryz.call9 fun B r=>.q e (.c0 e i q fun _ _=>.a e e (.Ek [] e e e) (.q e (.c0 e i q fun _ _=>.a e e (.Ek [] e e e) (.q e (.c0 e i q fun _ _=>.a e e (.Ek [] e e e) (.q e (.c0 e i q fun _ _=>.a e e (.Ek [] e e e) (.q e (.c0 e i q fun _ _=>.a e e (.Ek [] e e e) (.q e (.c0 e i q fun _ _=>.a e e (.Ek [] e e e) (.q e (.c0 e i q fun _ _=>.a e e (.Ek [] e e e) (.Ek [] e e e))))))))))))))
def w_FnExactSound (N:Nat)(a:World):Option (Bool):=
 (w_szWorld N a 1048576).bind fun c=>
 (if decide (c<0)=true then
 some true
 else
 (w_toWorld N a).bind fun d=>
 (s_Sound N d).bind fun f=>
 (w_toWorld N a).bind fun b=>
 (i_Sound N b).bind fun g=>
 (if((g==f) ^^ true)=true then
 some false
 else
 (w_toWorld N a).bind fun h=>
 (w_eqWorld N b h).bind fun j=>
 (if(!j)=true then
 some false
 else
 some true)))
instance i276 (N:Nat)(b:World):JB 4 (w_FnExactSound N b) [.agg [RO 4 (b.Up.map encB),RO 118 (b.Servers.map (encServerL false)),RO 121 (b.Net.map (encMessageL false)),RO 158 (b.Waits.map encWait),RO 124 (b.Leaders.map (encLeaderL false)),RO 128 (b.Applied.map encApplied),RO 133 (b.Replies.map encReply)]]:=.st e e Tryz.call4 fun B r=>.c0 e i q fun _ _=>.q e (.a e e (.Ek [] e e e) (.f [] [] 7 e i q fun _ _=>.f (hp:=(.cons (.agg (.cons (.borrow e (by decide) lw) (.cons (.borrow e (by decide) (lendW ro_encServer _ e)) (.cons (.borrow e (by decide) (lendW ro_encMessage _ e)) (.cons (.borrow e (by decide) lw) (.cons (.borrow e (by decide) (lendW ro_encLeader _ e)) (.cons (.borrow e (by decide) lw) (.cons (.borrow e (by decide) lw) .nil)))))))) .nil)) (hcase:=fun _=>(.inr ⟨rfl,ownL_root trivial⟩)) [] [21496,21497,21498,21499,21500,21501,21502] 0 e i q fun _ _=>.f [] [] 7 e i q fun _ _=>.f (hp:=(.cons (.agg (.cons (.borrow e (by decide) lw) (.cons (.borrow e (by decide) (lendW ro_encServer _ e)) (.cons (.borrow e (by decide) (lendW ro_encMessage _ e)) (.cons (.borrow e (by decide) lw) (.cons (.borrow e (by decide) (lendW ro_encLeader _ e)) (.cons (.borrow e (by decide) lw) (.cons (.borrow e (by decide) lw) .nil)))))))) .nil)) (hcase:=fun _=>(.inr ⟨rfl,ownL_root trivial⟩)) [] [25592,25593,25594,25595,25596,25597,25598] 0 e i q fun _ _=>.q e (.a e e (.Ek [] e e e) (.q e (.f [] [] 7 e i q fun _ _=>.f (hp:=(.cons (.agg (.cons (.borrow e (by decide) lw) (.cons (.borrow e (by decide) (lendW ro_encServer _ e)) (.cons (.borrow e (by decide) (lendW ro_encMessage _ e)) (.cons (.borrow e (by decide) lw) (.cons (.borrow e (by decide) (lendW ro_encLeader _ e)) (.cons (.borrow e (by decide) lw) (.cons (.borrow e (by decide) lw) .nil)))))))) (.cons (.agg (.cons (.borrow e (by decide) lw) (.cons (.borrow e (by decide) (lendW ro_encServer _ e)) (.cons (.borrow e (by decide) (lendW ro_encMessage _ e)) (.cons (.borrow e (by decide) lw) (.cons (.borrow e (by decide) (lendW ro_encLeader _ e)) (.cons (.borrow e (by decide) lw) (.cons (.borrow e (by decide) lw) .nil)))))))) .nil))) (hcase:=fun _=>(.inr ⟨rfl,ownL_root trivial⟩)) [] [25592,25593,25594,25595,25596,25597,25598,41992,41993,41994,41995,41996,41997,41998] 0 e i q fun _ _=>.dn e (.a e e (.Ek [] e e e) (.Ek [] e e e)))))))
end Go.Proofs.YthfjkhlgkjgkjaaGreatDoor.Pe.FnExactSound
