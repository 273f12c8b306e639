/- Functions,as pure functions; and that Go does just that. -/
import Derived.Test.YtmcbbifeekhmgaaGreatDoorPeFFnBoots3
namespace Go.Proofs.YtmcbbifeekhmgaaGreatDoor.Pe.FnBoots
open Go Go.RowKit
set_option linter.unusedVariables false
set_option linter.unusedSimpArgs false
set_option maxHeartbeats 40000000
set_option maxRecDepth 100000
def s_l01Text_l1 (N:Nat)(c:Int):Nat->Int->(List Int)->Int->Int->(List Int)->Option ((List Int)×Int×Int×(List Int))
 |0,_,_,_,_,_=>none
 |m+1,d,f,g,j,k=>
 (if decide (d<c)then
 (s_l01Byte N (Tl01Cur.mk f g j)).bind λa=>
 (cat? k ([IntKind.wrap .u8 (a.1)]:List Int)).bind λl=>
 s_l01Text_l1 N c m (w64 (d+1)) a.2.b a.2.i a.2.h l
 else
 some (f,g,j,k))
def s_l01Text (N:Nat)(d:Tl01Cur)(f:Int):Option (BA×Tl01Cur):=
 joinP (λ(j:Int)=>
 joinP (λ(a:(List Int)×Int×Int×(List Int))=>
 some (strOf a.2.2.2,(Tl01Cur.mk a.1 a.2.1 a.2.2.1))) λk=>
 (s_l01Text_l1 N j N 0 d.b d.i d.h ([]:List Int)).bind (λc=>k (c.1,c.2.1,c.2.2.1,c.2.2.2))) λg=>
 (if decide (f>5000)then
 g 5000
 else
 g f)
instance i165 (N:Nat)(d:Tl01Cur)(l:Int):JG 187 (s_l01Text N d l) [.ptr 0 0,VI l] 1 [(0,.box [RO 5 (d.b.map encU),VI d.i,VI d.h])] (λr=>VS r.1) (λr=>[(0,.box [RO 5 (r.2.b.map encU),VI r.2.i,VI r.2.h])]):=.st e e Tryz.call187 λB r=>.jk e [0,1] [0] (λm=>[.f 1 (VI m)]) (λ_=>e) (λ_=>.a e e (.J e (.k [0,1] [0])) (.J e (.k [0,1] [0]))) λm=>.st e (Ev.bsW (ys:=([]:List Int)) (f:=encU) e .nil e e e e e) e (.j e (λc=>[(5,.sl 1 5 0 c.2.2.2.length)]) (λc=>[(0,.box [RO 5 (c.1.map encU),VI c.2.1,VI c.2.2.1]),(1,.vec 5 (c.2.2.2.map encU))]) (λ_=>.K5 e [0,1,5,6] [0,13288] (λo p s t g=>[.f 5 (.sl 1 5 0 g.length),.f 6 (VI o),.r 0 (.box [RO 5 (p.map encU),VI s,VI t]),.r 1 (.vec 5 (g.map encU))]) (λ_ _ _ _ _=>e) λ_ o p s t g _ u=>.q e (.a e e (.f [0] [] 0 e i q λw _=>.st e (Ev.bsW (ys:=([IntKind.wrap .u8 (w.1)]:List Int)) (f:=encU) e (.d1 .nil) e e e e e) e (.B λ_ x=>.st e (Ev.apW (f:=encU) (ontoW e e e) (addsW e e e (λ_=>e)) e bt5 e x) e (.R e (λh=>⟨_,_,_,_,_,h,e,e⟩) (.k [0,1,5,6] [0,29752])))) (.X u e e (.n e (.J e (.k [5] [0,1])))))) λc=>.st e (.sbC (addsW (f:=encU) e e e (λ_=>e))) e (.Ek [0] e e e))
def s_l14Right_l1 (N:Nat)(g:Int×Tl01Cur):Nat->Int->Int->(List Int)->Int->Int->(List Entry)->Option ((List Int)×Int×Int×(List Entry))
 |0,_,_,_,_,_,_=>none
 |m+1,d,j,l,n,o,k=>
 (s_l01Below N (Tl01Cur.mk l n o) 5).bind λa=>
 (if decide (j<a.1)then
 (s_l01Below N a.2 (w64 ((w64 (g.1-d))+1))).bind λf=>
 (s_l11Right N f.2 (w64 (d+f.1))).bind λc=>
 (cat? k ([c.1]:List Entry)).bind λp=>
 s_l14Right_l1 N g m (w64 (d+f.1)) (w64 (j+1)) c.2.b c.2.i c.2.h p
 else
 some (a.2.b,a.2.i,a.2.h,k))
def s_l14Right (N:Nat)(x:Tl01Cur):Option (Message×Tl01Cur):=
 (s_l01Below N x 6).bind λc=>
 (s_l01Below N c.2 4).bind λf=>
 (s_l01Below N f.2 8).bind λj=>
 (s_l01Below N j.2 12).bind λp=>
 (s_l01Below N p.2 5).bind λm=>
 (s_l01Below N m.2 9).bind λs=>
 (s_l01Once N s.2 2).bind λd=>
 (intD .rem .i64 (w64 (1+f.1)) 4).bind λn=>
 joinP (λ(a:(List Int)×Int×Int×Int×Int×Int×Int×BA×Bool×(List Entry)×(List Int))=>
 some ((Message.mk a.2.2.2.1 a.2.2.2.2.1 a.2.2.2.2.2.1 j.1 p.1 a.2.2.2.2.2.2.1 s.1 d.1 a.2.2.2.2.2.2.2.2.2.1 a.2.2.2.2.2.2.2.2.2.2 a.2.2.2.2.2.2.2.1 a.2.2.2.2.2.2.2.2.1),(Tl01Cur.mk a.1 a.2.1 a.2.2.1))) λo=>
 (if((w64 (1+c.1))==3)then
 (s_l01Below N d.2 (w64 (j.1+1))).bind λg=>
 (s_l14Right_l1 N j N g.1 0 g.2.b g.2.i g.2.h ([]:(List Entry))).bind (λk=>o (k.1,k.2.1,k.2.2.1,(w64 (1+c.1)),(w64 (1+f.1)),(w64 (n+1)),g.1,(⟨#[]⟩:BA),false,k.2.2.2,([]:(List Int))))
 else
 (if((w64 (1+c.1))==5)then
 (s_l07Conf N d.2).bind λt=>
 (s_l01Below N t.2 9).bind λu=>
 (s_l01Text N u.2 u.1).bind λw=>
 (s_l01Once N w.2 2).bind λl=>
 o (l.2.b,l.2.i,l.2.h,w64 (1+c.1),w64 (1+f.1),w64 (n+1),m.1,w.1,l.1,([]:(List Entry)),t.1)
 else
 o (d.2.b,d.2.i,d.2.h,w64 (1+c.1),w64 (1+f.1),w64 (n+1),m.1,(⟨#[]⟩:BA),false,([]:(List Entry)),([]:(List Int)))))
instance i166 (N:Nat)(d:Tl01Cur):JG 93 (s_l14Right N d) [.ptr 0 0] 1 [(0,.box [RO 5 (d.b.map encU),VI d.i,VI d.h])] (λr=>.agg (cMessage1 r.1 1 2 [])) (λr=>((0,.box [RO 5 (r.2.b.map encU),VI r.2.i,VI r.2.h])::(rMessage0 r.1 1 2 []))):=.st e e Tryz.call93 λB r=>.f [0] [] 0 e i q λy _=>.f [0] [] 0 e i q λv _=>.f [0] [] 0 e i q λt _=>.f [0] [] 0 e i q λu _=>.f [0] [] 0 e i q λ_ _=>.f [0] [] 0 e i q λw _=>.f [0] [] 0 e i q λx _=>.B λz a0=>.st e (.bin e e a0) e (.j e (λc=>[(2,.ptr 1 0),(3,.ptr 2 0)]) (λc=>[(0,.box [RO 5 (c.1.map encU),VI c.2.1,VI c.2.2.1]),(1,.box [VI 0,VI 0,VI 0,VI 0,VI 0,VI 0,VI 0,VB false,.sl 3 91 0 (([]:List Entry).length),.sl 4 3 0 (([]:List Int).length),VS (⟨#[]⟩:BA),VB false]),(2,.box [VI c.2.2.2.1,VI c.2.2.2.2.1,VI c.2.2.2.2.2.1,VI t.1,VI u.1,VI c.2.2.2.2.2.2.1,VI w.1,VB x.1,.sl 5 91 0 c.2.2.2.2.2.2.2.2.2.1.length,.sl 6 3 0 c.2.2.2.2.2.2.2.2.2.2.length,VS c.2.2.2.2.2.2.2.1,VB c.2.2.2.2.2.2.2.2.1]),(3,.vec 91 (([]:List Entry).map encEntry)),(4,.vec 3 (([]:List Int).map encI)),(5,.vec 91 (c.2.2.2.2.2.2.2.2.2.1.map encEntry)),(6,.vec 3 (c.2.2.2.2.2.2.2.2.2.2.map encI))]) (λ_=>.a e e (.f [0] [] 0 e i q λa1 _=>.L6 e (λl m o p s g=>[(0,.ptr 0 0),(2,.ptr 1 0),(3,.ptr 2 0),(4,VI l),(5,VI m)]) (λl m o p s g=>[(0,.box [RO 5 (o.map encU),VI p,VI s]),(1,.box [VI 0,VI 0,VI 0,VI 0,VI 0,VI 0,VI 0,VB false,NI 91,NI 3,VS (⟨#[]⟩:BA),VB false]),(2,.box [VI (w64 (1+y.1)),VI (w64 (1+v.1)),VI (w64 (z+1)),VI t.1,VI u.1,VI a1.1,VI w.1,VB x.1,.sl 3 91 0 g.length,.sl 4 3 0 (([]:(List Int)).length),VS (⟨#[]⟩:BA),VB false]),(3,.vec 91 (g.map encEntry)),(4,.vec 3 (([]:(List Int)).map encI))]) (.n [0,2,3,4,5] [0,1000,5368] [] [5368] [0,1000,5368,20000000,20000001]) λ_ l m o p s g _ a2=>.q e (.f [0] [] 0 e i q λ_ _=>.a e e (.f [0] [] 0 e i q λ_ _=>.f [0] [] 0 e i q λa3 _=>.st e (Ev.bsW (ys:=([a3.1]:List Entry)) (f:=encEntry) e (.d2 (.d1 .nil)) e e e e e) e (.B λ_ a4=>.st e (Ev.apW (f:=encEntry) (ontoW e e e) (addsW e e e (λ_=>e)) e bt91 e a4) e (.dn e (.R e (λh=>⟨_,_,_,_,_,_,h,e,e⟩) (.k [0,2,3,4,5] [0,1,2,46152,4]))))) (.X a2 e e (.n e (.J e (.n [2,3] [0,1,2,3,4] [] [1] [0,1,2,20000000,20000001,3,4])))))) (.a e e (.f [0] [] 1 e i q λ_ _=>.f [0] [] 0 e i q λ_ _=>.f [0] [] 0 e i q λ_ _=>.f [0] [] 0 e i q λ_ _=>.J e (.n [2,3] [0,1000,5368,54264] [] [1000,5368] [0,1000,5368,20000000,20000001,20000064,54264])) (.J e (.n [2,3] [0,1000,5368] [] [1000,5368] [0,1000,5368,20000000,20000001,20000064,20000065])))) λc=>.Ek [0,5,6] e e e)
def s_l01Long_l1 (N:Nat)(c:Int)(d:Int):Nat->Int->(List Int)->Option ((List Int))
 |0,_,_=>none
 |m+1,a,b=>
 (if decide (a<c)then
 (at? b a).bind λf=>
 s_l01Long_l1 N c d m (w64 (a+1)) (b.set a.toNat d)
 else
 some b)
def s_l01Long (N:Nat)(a:Int)(b:Int):Option (BA):=
 (mk? 0 a).bind λc=>
 joinP (λ(d:List Int)=>
 some (strOf d)) λf=>
 (s_l01Long_l1 N a b N 0 c).bind (λg=>f g)
instance i167 (N:Nat)(l:Int)(d:Int):JS 95 (s_l01Long N l d) [VI l,.c (.i .u8 d)]:=.st e e Tryz.call95 λB r=>.B λ_ p=>.st e (Ev.msW (f:=encU) (zv:=0) e e e bt5 e p) e (.j e (λb=>[(5,.sl 0 5 0 b.length)]) (λb=>[(0,.vec 5 (b.map encU))]) (λ_=>.K2 e [0,1,5,6] [5112] (λm g=>[.f 5 (.sl 0 5 0 g.length),.f 6 (VI m),.r 0 (.vec 5 (g.map encU))]) (λ_ _=>e) λ_ m g _ s=>.q e (.a e e (.B λ_ o=>.st e (Ev.iaW e e e o) e (.st e (Ev.stE (f:=encU) (v':=d) e e (at_some o).2 e (.d1 .nil) e e e e e) e (.R e (λh=>⟨_,_,h,e,e⟩) (.k [0,1,5,6] [0])))) (.X s e e (.n e (.J e (.k [5] [0])))))) λb=>.st e (.sbC (addsW (f:=encU) e e e (λ_=>e))) e (.Ek [] e e e))
def s_l11Any (N:Nat)(m:Tl01Cur):Option (Entry×Tl01Cur):=
 (s_l01Below N m 9).bind λl=>
 (s_l11Right N l.2 l.1).bind λc=>
 joinP (λ(d:(List Int)×Int×Int×Int×Int×BA)=>
 some ((Entry.mk d.2.2.2.1 d.2.2.2.2.1 d.2.2.2.2.2),(Tl01Cur.mk d.1 d.2.1 d.2.2.1))) λf=>
 (s_l01Below N c.2 30).bind λa=>
 (if(a.1==0)then
 (s_l01PickInt_i1 N a.2 ([(-1:Int),100000,100001]:List Int)).bind λg=>
 f (g.2.b,g.2.i,g.2.h,g.1,c.1.Kind,c.1.Data)
 else
 (if(a.1==1)then
 (s_l01PickInt_i1 N a.2 ([0,4,1,2]:List Int)).bind λj=>
 f (j.2.b,j.2.i,j.2.h,c.1.Term,j.1,c.1.Data)
 else
 (if(a.1==2)then
 (s_l01Below N a.2 2).bind λk=>
 (s_l01Long N (w64 (120+k.1)) 65).bind λn=>
 f (k.2.b,k.2.i,k.2.h,0,3,n)
 else
 f (a.2.b,a.2.i,a.2.h,c.1.Term,c.1.Kind,c.1.Data))))
instance i168 (N:Nat)(d:Tl01Cur):JG 94 (s_l11Any N d) [.ptr 0 0] 1 [(0,.box [RO 5 (d.b.map encU),VI d.i,VI d.h])] (λr=>.agg [VI r.1.Term,VI r.1.Kind,VS r.1.Data]) (λr=>[(0,.box [RO 5 (r.2.b.map encU),VI r.2.i,VI r.2.h])]):=.st e e Tryz.call94 λB r=>.f [0] [] 0 e i q λ_ _=>.f [0] [] 0 e i q λ_ _=>.jk e [2,3] [0,1000,5160] (λc=>[.r 0 (.box [RO 5 (c.1.map encU),VI c.2.1,VI c.2.2.1]),.r 2 (.box [VI c.2.2.2.1,VI c.2.2.2.2.1,VS c.2.2.2.2.2])]) (λ_=>e) (λ_=>.f [0] [] 0 e i q λ_ _=>.a e e (.st e (Ev.bsW (ys:=([(-1:Int),100000,100001]:List Int)) (f:=encI) e (.d2 (.d1 .nil)) e e e e e) e (.f [0,17400] [] 0 e i q λ_ _=>.J e (.k [2,3] [0,1000,5160]))) (.a e e (.st e (Ev.bsW (ys:=([0,4,1,2]:List Int)) (f:=encI) e (.d4 .nil) e e e e e) e (.f [0,25592] [] 0 e i q λ_ _=>.J e (.k [2,3] [0,1000,5160]))) (.a e e (.f [0] [] 0 e i q λ_ _=>.c0 e i q λ_ _=>.J e (.k [2,3] [0,1000,5160])) (.J e (.k [2,3] [0,1000,5160]))))) λc=>.Ek [0] e e e
def s_l07AnyConf (N:Nat)(j:Tl01Cur):Option ((List Int)×Tl01Cur):=
 (s_l07Conf N j).bind λf=>
 joinP (λ(c:(List Int)×Int×Int×(List Int))=>
 some (c.2.2.2,(Tl01Cur.mk c.1 c.2.1 c.2.2.1))) λg=>
 (s_l01Below N f.2 12).bind λa=>
 (if(a.1==0)then
 (s_l01PickInt_i1 N a.2 ([0,4,5,1]:List Int)).bind λd=>
 (cat? f.1 ([d.1]:List Int)).bind λk=>
 g (d.2.b,d.2.i,d.2.h,k)
 else
 (if(a.1==1)then
 g (a.2.b,a.2.i,a.2.h,([]:List Int))
 else
 g (a.2.b,a.2.i,a.2.h,f.1)))
instance i169 (N:Nat)(d:Tl01Cur):JG 96 (s_l07AnyConf N d) [.ptr 0 0] 1 [(0,.box [RO 5 (d.b.map encU),VI d.i,VI d.h])] (λr=>.sl 1 3 0 r.1.length) (λr=>[(0,.box [RO 5 (r.2.b.map encU),VI r.2.i,VI r.2.h]),(1,.vec 3 (r.1.map encI))]):=.st e e Tryz.call96 λB r=>.f [0] [] 1 e i q λ_ _=>.j e (λc=>[(3,.sl 1 3 0 c.2.2.2.length)]) (λc=>[(0,.box [RO 5 (c.1.map encU),VI c.2.1,VI c.2.2.1]),(1,.vec 3 (c.2.2.2.map encI))]) (λ_=>.f [0] [] 0 e i q λ_ _=>.a e e (.st e (Ev.bsW (ys:=([0,4,5,1]:List Int)) (f:=encI) e (.d4 .nil) e e e e e) e (.f [0,17416] [] 0 e i q λg _=>.st e (Ev.bsW (ys:=([g.1]:List Int)) (f:=encI) e (.d1 .nil) e e e e e) e (.B λ_ l=>.st e (Ev.apW (f:=encI) (ontoW e e e) (addsW e e e (λ_=>e)) e bt3 e l) e (.J e (.k [3] [0,17464]))))) (.a e e (.st e (Ev.bsW (ys:=([]:List Int)) (f:=encI) e .nil e e e e e) e (.J e (.k [3] [0,25576]))) (.J e (.k [3] [0,5112])))) λc=>.Ek [0,1] e e e
def s_l14Any (N:Nat)(p:Tl01Cur):Option (Message×Tl01Cur):=
 (s_l14Right N p).bind λa=>
 joinP (λ(d:(List Int)×Int×Int×Int×Int×Int×Int×BA×Bool×(List Entry)×(List Int))=>
 some ((Message.mk d.2.2.2.1 d.2.2.2.2.1 a.1.To d.2.2.2.2.2.1 d.2.2.2.2.2.2.1 a.1.LogTerm a.1.Commit a.1.Ok d.2.2.2.2.2.2.2.2.2.1 d.2.2.2.2.2.2.2.2.2.2 d.2.2.2.2.2.2.2.1 d.2.2.2.2.2.2.2.2.1),(Tl01Cur.mk d.1 d.2.1 d.2.2.1))) λf=>
 (s_l01Below N a.2 40).bind λc=>
 (if(c.1==0)then
 (s_l01PickInt_i1 N c.2 ([0,7,1,5]:List Int)).bind λg=>
 f (g.2.b,g.2.i,g.2.h,g.1,a.1.From,a.1.Term,a.1.Index,a.1.Data,a.1.Last,a.1.Entries,a.1.Conf)
 else
 (if(c.1==1)then
 (s_l01PickInt_i1 N c.2 ([0,5,a.1.To]:List Int)).bind λj=>
 f (j.2.b,j.2.i,j.2.h,a.1.Kind,j.1,a.1.Term,a.1.Index,a.1.Data,a.1.Last,a.1.Entries,a.1.Conf)
 else
 (if(c.1==2)then
 (s_l01PickInt_i1 N c.2 ([(-1:Int),100000,100001]:List Int)).bind λk=>
 f (k.2.b,k.2.i,k.2.h,a.1.Kind,a.1.From,k.1,a.1.Index,a.1.Data,a.1.Last,a.1.Entries,a.1.Conf)
 else
 (if(c.1==3)then
 (s_l01PickInt_i1 N c.2 ([(-1:Int),100000,100001]:List Int)).bind λl=>
 f (l.2.b,l.2.i,l.2.h,a.1.Kind,a.1.From,a.1.Term,l.1,a.1.Data,a.1.Last,a.1.Entries,a.1.Conf)
 else
 (if(c.1==4)then
 (s_l11Any N c.2).bind λm=>
 (cat? a.1.Entries ([m.1]:List Entry)).bind λs=>
 f (m.2.b,m.2.i,m.2.h,a.1.Kind,a.1.From,a.1.Term,a.1.Index,a.1.Data,a.1.Last,s,a.1.Conf)
 else
 (if(c.1==5)then
 (s_l01Below N c.2 2).bind λn=>
 (s_l01Long N (w64 (60+n.1)) 65).bind λt=>
 f (n.2.b,n.2.i,n.2.h,a.1.Kind,a.1.From,a.1.Term,a.1.Index,t,a.1.Last,a.1.Entries,a.1.Conf)
 else
 (if(c.1==6)then
 (s_l07AnyConf N c.2).bind λo=>
 f (o.2.b,o.2.i,o.2.h,a.1.Kind,a.1.From,a.1.Term,a.1.Index,a.1.Data,a.1.Last,a.1.Entries,o.1)
 else
 (if(c.1==7)then
 f (c.2.b,c.2.i,c.2.h,a.1.Kind,a.1.From,a.1.Term,a.1.Index,a.1.Data,true,a.1.Entries,a.1.Conf)
 else
 f (c.2.b,c.2.i,c.2.h,a.1.Kind,a.1.From,a.1.Term,a.1.Index,a.1.Data,a.1.Last,a.1.Entries,a.1.Conf)))))))))
instance i170 (N:Nat)(g:Tl01Cur):JG 34 (s_l14Any N g) [.ptr 0 0] 1 [(0,.box [RO 5 (g.b.map encU),VI g.i,VI g.h])] (λr=>.agg (cMessage1 r.1 1 2 [])) (λr=>((0,.box [RO 5 (r.2.b.map encU),VI r.2.i,VI r.2.h])::(rMessage0 r.1 1 2 []))):=.st e e Tryz.call34 λB r=>.f [0] [] 2 e i q λd _=>.j e (λc=>[(2,.ptr 1 0),(3,.ptr 2 0)]) (λc=>[(0,.box [RO 5 (c.1.map encU),VI c.2.1,VI c.2.2.1]),(1,.box [VI 0,VI 0,VI 0,VI 0,VI 0,VI 0,VI 0,VB false,NI 91,NI 3,VS (⟨#[]⟩:BA),VB false]),(2,.box [VI c.2.2.2.1,VI c.2.2.2.2.1,VI d.1.To,VI c.2.2.2.2.2.1,VI c.2.2.2.2.2.2.1,VI d.1.LogTerm,VI d.1.Commit,VB d.1.Ok,.sl 3 91 0 c.2.2.2.2.2.2.2.2.2.1.length,.sl 4 3 0 c.2.2.2.2.2.2.2.2.2.2.length,VS c.2.2.2.2.2.2.2.1,VB c.2.2.2.2.2.2.2.2.1]),(3,.vec 91 (c.2.2.2.2.2.2.2.2.2.1.map encEntry)),(4,.vec 3 (c.2.2.2.2.2.2.2.2.2.2.map encI))]) (λ_=>.f [0] [] 0 e i q λ_ _=>.a e e (.st e (Ev.bsW (ys:=([0,7,1,5]:List Int)) (f:=encI) e (.d4 .nil) e e e e e) e (.f [0,17400] [] 0 e i q λ_ _=>.J e (.k [2,3] [0,1000,5128,5112,5113]))) (.a e e (.st e (Ev.bsW (ys:=([0,5,d.1.To]:List Int)) (f:=encI) e (.d2 (.d1 .nil)) e e e e e) e (.f [0,25624] [] 0 e i q λ_ _=>.J e (.k [2,3] [0,1000,5128,5112,5113]))) (.a e e (.st e (Ev.bsW (ys:=([(-1:Int),100000,100001]:List Int)) (f:=encI) e (.d2 (.d1 .nil)) e e e e e) e (.f [0,33784] [] 0 e i q λ_ _=>.J e (.k [2,3] [0,1000,5128,5112,5113]))) (.a e e (.st e (Ev.bsW (ys:=([(-1:Int),100000,100001]:List Int)) (f:=encI) e (.d2 (.d1 .nil)) e e e e e) e (.f [0,41976] [] 0 e i q λ_ _=>.J e (.k [2,3] [0,1000,5128,5112,5113]))) (.a e e (.f [0] [] 0 e i q λl _=>.st e (Ev.bsW (ys:=([l.1]:List Entry)) (f:=encEntry) e (.d2 (.d1 .nil)) e e e e e) e (.B λ_ m=>.st e (Ev.apW (f:=encEntry) (ontoW e e e) (addsW e e e (λ_=>e)) e bt91 e m) e (.dn e (.J e (.k [2,3] [0,1000,5128,50232,5113]))))) (.a e e (.f [0] [] 0 e i q λ_ _=>.c0 e i q λ_ _=>.J e (.k [2,3] [0,1000,5128,5112,5113])) (.a e e (.f [0] [] 1 e i q λ_ _=>.J e (.k [2,3] [0,1000,5128,5112,66552])) (.a e e (.J e (.k [2,3] [0,1000,5128,5112,5113])) (.J e (.k [2,3] [0,1000,5128,5112,5113])))))))))) λc=>.Ek [0,3,4] e e e
def s_l17Input_l1 (N:Nat)(c:Tl17Live)(g:Server):Nat->Int->(List Int)->Int->Int->Message->Option ((List Int)×Int×Int×Message)
 |0,_,_,_,_,_=>none
 |m+1,d,j,k,l,f=>
 (if decide (d<(c.net.length:Int))then
 (s_l01Once N (Tl01Cur.mk j k l) 5).bind λa=>
 (if(!a.1)then
 joinP (λ(o:Message)=>
 s_l17Input_l1 N c g m (w64 (d+1)) a.2.b a.2.i a.2.h o) λn=>
 (at? c.net d).bind λp=>
 (if(p.To==g.Node.Id)then
 (at? c.net d).bind λs=>
 n s
 else
 n f)
 else
 some (a.2.b,a.2.i,a.2.h,f))
 else
 some (j,k,l,f))
def s_l17Input (N:Nat)(u:Tl01Cur)(w:Tl17Live)(f:Server):Option (Input×Tl01Cur):=
 (s_l01Below N u 4).bind λj=>
 (s_l01Below N j.2 8).bind λd=>
 (s_ShelfMap N f.Disk f.Shelf).bind λx=>
 joinP (λ(g:(List Int)×Int×Int×(List Entry)×(List Int)×Input)=>
 joinP (λ(m:(List Int)×Int×Int×Int)=>
 some ((Input.mk m.2.2.2 g.2.2.2.2.2.Limit g.2.2.2.2.2.Message g.2.2.2.2.2.Entry g.2.2.2.2.2.Data),(Tl01Cur.mk m.1 m.2.1 m.2.2.1))) λt=>
 (s_l01Once N (Tl01Cur.mk g.1 g.2.1 g.2.2.1) 40).bind λk=>
 (if k.1 then
 (s_l01PickInt_i1 N k.2 ([0,5]:List Int)).bind λn=>
 t (n.2.b,n.2.i,n.2.h,n.1)
 else
 t (k.2.b,k.2.i,k.2.h,g.2.2.2.2.2.Kind))) λl=>
 (if((w64 (1+j.1))==2)then
 (s_l14Any N d.2).bind λo=>
 joinP (λ(a:(List Int)×Int×Int×Message)=>
 (s_l01Once N (Tl01Cur.mk a.1 a.2.1 a.2.2.1) 8).bind λc=>
 (if(!c.1)then
 (if(a.2.2.2.From==f.Node.Id)then
 (intD .rem .i64 f.Node.Id 4).bind λy=>
 l (c.2.b,c.2.i,c.2.h,([]:(List Entry)),([]:(List Int)),(Input.mk (w64 (1+j.1)) (w64 (1+d.1)) (Message.mk a.2.2.2.Kind (w64 (y+1)) f.Node.Id a.2.2.2.Term a.2.2.2.Index a.2.2.2.LogTerm a.2.2.2.Commit a.2.2.2.Ok a.2.2.2.Entries a.2.2.2.Conf a.2.2.2.Data a.2.2.2.Last) 0 (⟨#[]⟩:BA)))
 else
 l (c.2.b,c.2.i,c.2.h,([]:(List Entry)),([]:(List Int)),(Input.mk (w64 (1+j.1)) (w64 (1+d.1)) (Message.mk a.2.2.2.Kind a.2.2.2.From f.Node.Id a.2.2.2.Term a.2.2.2.Index a.2.2.2.LogTerm a.2.2.2.Commit a.2.2.2.Ok a.2.2.2.Entries a.2.2.2.Conf a.2.2.2.Data a.2.2.2.Last) 0 (⟨#[]⟩:BA))))
 else
 l (c.2.b,c.2.i,c.2.h,([]:(List Entry)),([]:(List Int)),(Input.mk (w64 (1+j.1)) (w64 (1+d.1)) a.2.2.2 0 (⟨#[]⟩:BA))))) λv=>
 (s_l17Input_l1 N w f N 0 o.2.b o.2.i o.2.h o.1).bind (λp=>v (p.1,p.2.1,p.2.2.1,p.2.2.2))
 else
 (if((w64 (1+j.1))==3)then
 (s_l17Propose_i1 N d.2 f x.1).bind λs=>
 l (s.2.b,s.2.i,s.2.h,([]:(List Entry)),([]:(List Int)),s.1)
 else
 l (d.2.b,d.2.i,d.2.h,([]:(List Entry)),([]:(List Int)),(Input.mk (w64 (1+j.1)) (w64 (1+d.1)) (Message.mk 0 0 0 0 0 0 0 false ([]) ([]) (⟨#[]⟩:BA) false) 0 (⟨#[]⟩:BA)))))
instance i171 (N:Nat)(s:Tl01Cur)(d:Tl17Live)(o:Server):JG 15 (s_l17Input N s d o) [.ptr 0 0,.ptr 1 0,.agg (cServer1 o [])] 4 ((0,.box [RO 5 (s.b.map encU),VI s.i,VI s.h])::(1,.box [.sl 2 40 0 d.list.length,.sl 3 42 0 d.net.length])::(rTl17Live0 d 2 3 [])) (λr=>.agg (cInput1 r.1 [])) (λr=>((0,.box [RO 5 (r.2.b.map encU),VI r.2.i,VI r.2.h])::(1,.box [.sl 2 40 0 d.list.length,.sl 3 42 0 d.net.length])::(rTl17Live0 d 2 3 []))):=.st e e Tryz.call15 λB r=>.f [0] [] 0 e i q λw _=>.f [0] [] 0 e i q λx _=>.c1 e i q λ_ _=>.jk e [0,6,7] [0,1,2,3,1016,5208] (λl=>[.r 0 (.box [RO 5 (l.1.map encU),VI l.2.1,VI l.2.2.1]),.c 4 10 (RO 91 (l.2.2.2.1.map encEntry)),.c 4 11 (RO 3 (l.2.2.2.2.1.map encI)),.r 5 (.box (cInput1 l.2.2.2.2.2 []))]) (λ_=>e) (λ_=>.a e e (.f [0] [] 2 e i q λa3 _=>.j e (λm=>[(0,.ptr 0 0),(5,.ptr 4 0),(6,.ptr 5 0),(7,.ptr 6 0)]) (λm=>((0,.box [RO 5 (m.1.map encU),VI m.2.1,VI m.2.2.1])::(1,.box [.sl 2 40 0 d.list.length,.sl 3 42 0 d.net.length])::(rTl17Live0 d 2 3 [(4,.box (cServer1 o [])),(5,.box [VI 0,VI 0,VI 0,VI 0,VI 0,VI 0,VI 0,VI 0,VI 0,VB false,RO 91 (([]:(List Entry)).map encEntry),RO 3 (([]:(List Int)).map encI),VS (⟨#[]⟩:BA),VB false,VI 0,VS (⟨#[]⟩:BA)]),(6,.box (VI (w64 (1+w.1))::VI (w64 (1+x.1))::(cMessage0 m.2.2.2 [VI 0,VS (⟨#[]⟩:BA)])))]))) (λ_=>.L5 e (λu y v z a0=>[(0,.ptr 0 0),(1,.ptr 1 0),(5,.ptr 4 0),(6,.ptr 5 0),(7,.ptr 6 0),(10,VI u)]) (λu y v z a0=>((0,.box [RO 5 (y.map encU),VI v,VI z])::(1,.box [.sl 2 40 0 d.list.length,.sl 3 42 0 d.net.length])::(rTl17Live0 d 2 3 [(4,.box (cServer1 o [])),(5,.box [VI 0,VI 0,VI 0,VI 0,VI 0,VI 0,VI 0,VI 0,VI 0,VB false,RO 91 (([]:(List Entry)).map encEntry),RO 3 (([]:(List Int)).map encI),VS (⟨#[]⟩:BA),VB false,VI 0,VS (⟨#[]⟩:BA)]),(6,.box (VI (w64 (1+w.1))::VI (w64 (1+x.1))::(cMessage0 a0 [VI 0,VS (⟨#[]⟩:BA)])))]))) (.t (Gh.frz (f:=encEntry) (g:=encEntry) (xs:=a3.1.Entries) 21496 (λ_=>e) e) (.t (Gh.frz (f:=encI) (g:=encI) (xs:=a3.1.Conf) 21497 (λ_=>e) e) (.ro [0,1,5,6,7,10] [0,1,2,3,1000,1016,5208,21496,21497] [1016,5208] [21496,21497] [1001016] [0,1,2,3,1000,1016,5208]))) λ_ u y v z a0 _ a4=>.q e (.q e (.a e e (.f [0] [] 0 e i q λa1 _=>.a e e (.j e (λa2=>[(0,.ptr 0 0),(1,.ptr 1 0),(5,.ptr 4 0),(6,.ptr 5 0),(7,.ptr 6 0),(10,VI u)]) (λa2=>((0,.box [RO 5 (a1.2.b.map encU),VI a1.2.i,VI a1.2.h])::(1,.box [.sl 2 40 0 d.list.length,.sl 3 42 0 d.net.length])::(rTl17Live0 d 2 3 [(4,.box (cServer1 o [])),(5,.box [VI 0,VI 0,VI 0,VI 0,VI 0,VI 0,VI 0,VI 0,VI 0,VB false,RO 91 (([]:(List Entry)).map encEntry),RO 3 (([]:(List Int)).map encI),VS (⟨#[]⟩:BA),VB false,VI 0,VS (⟨#[]⟩:BA)]),(6,.box (VI (w64 (1+w.1))::VI (w64 (1+x.1))::(cMessage0 a2 [VI 0,VS (⟨#[]⟩:BA)])))]))) (λ_=>.B λ_ a5=>.st e (Ev.iaW e e e a5) e (.st e (Ev.ldE (f:=(encMessage false)) e e (at_some a5).2 e e e) e (.dn e (.a e e (.B λ_ a6=>.st e (Ev.iaW e e e a6) e (.st e (Ev.ldE (f:=(encMessage false)) e e (at_some a6).2 e e e) e (.J e (.k [0,1,5,6,7,10] [0,1,2,3,4,5,6])))) (.J e (.k [0,1,5,6,7,10] [0,1,2,3,4,5,6])))))) λa2=>.R e (λh=>⟨_,_,_,_,_,h,e,e⟩) (.ro [0,1,5,6,7,10] [0,1,2,3,4,5,6] [5,6] [] [] [0,1,2,3,4,5,6])) (.X a4 e e (.n e (.J e (.k [0,5,6,7] [0,1,2,3,4,5,6]))))) (.X a4 e e (.n e (.J e (.k [0,5,6,7] [0,1,2,3,4,5,6]))))))) λm=>.f [0] [] 0 e i q λ_ _=>.a e e (.a e e (.B λ_ a8=>.st e (.bin e e a8) e (.J e (.ro [0,6,7] [0,1,2,3,5,6] [5,6] [] [1000005,1000006] [0,1,2,3,5,6]))) (.J e (.ro [0,6,7] [0,1,2,3,5,6] [5,6] [] [1000005,1000006] [0,1,2,3,5,6]))) (.J e (.ro [0,6,7] [0,1,2,3,5,6] [5,6] [] [1000005,1000006] [0,1,2,3,5,6]))) (.a e e (.f [0,9256] [] 2 e i q λa7 _=>.J e (.t (Gh.frz (f:=encEntry) (g:=encEntry) (xs:=a7.1.Message.Entries) 66584 (λ_=>e) e) (.t (Gh.frz (f:=encI) (g:=encI) (xs:=a7.1.Message.Conf) 66585 (λ_=>e) e) (.ro [0,6,7] [0,1,2,3,1016,5208,66584,66585] [1016,5208] [66584,66585] [1001016,1005208] [0,1,2,3,1016,5208])))) (.J e (.ro [0,6,7] [0,1,2,3,1016,5208] [1016,5208] [] [1001016,1005208] [0,1,2,3,1016,5208])))) λl=>.jk e [6,7] [0,1,2,3,4,5] (λp=>[.r 0 (.box [RO 5 (p.1.map encU),VI p.2.1,VI p.2.2.1]),.c 5 0 (VI p.2.2.2)]) (λ_=>e) (λ_=>.f [0] [] 0 e i q λ_ _=>.a e e (.st e (Ev.bsW (ys:=([0,5]:List Int)) (f:=encI) e (.d2 .nil) e e e e e) e (.f [0,74744] [] 0 e i q λ_ _=>.J e (.k [6,7] [0,1,2,3,4,5]))) (.J e (.k [6,7] [0,1,2,3,4,5]))) λp=>.Ek [0,1,2,3] e e e
def s_DrawRightServer (N:Nat)(b:List Int):Option (Server×Input):=
 (s_l01New N b).bind λf=>
 (s_l17Steps N b).bind λg=>
 (s_l17Play N f g).bind λa=>
 (s_l01Below N a.2 3).bind λc=>
 (at? a.1.list c.1).bind λd=>
 (s_l17Input N c.2 a.1 d).bind λh=>
 some (d,h.1)
instance i172 (N:Nat)(a:List Int):JG 5 (s_DrawRightServer N a) [RO 5 (a.map encU)] 0 [] (λr=>.tup [.agg (cServer1 r.1 []),.agg (cInput1 r.2 [])]) (λr=>[]):=.st e e Tryz.call5 λB r=>.c1 e i q λ_ _=>.c0 e i q λ_ _=>.f [5112] [] 3 e i q λ_ _=>.f [5112] [] 0 e i q λ_ _=>.B λ_ b=>.st e (Ev.iaW e e e b) e (.st e (Ev.ldE (f:=(encServer false)) e e (at_some b).2 e e e) e (.dn e (.f [5112,9240,9241,9242] [] 0 e i q λ_ _=>.dn e (.Ek [] e e e))))
def i_within (N:Nat)(a:Int)(b:Int)(c:Int):Option (Bool):=
 (if decide (a>=b)then
 some (decide (a<=c))
 else
 some false)
instance i173 (N:Nat)(b:Int)(c:Int)(d:Int):JB 47 (i_within N b c d) [VI b,VI c,VI d]:=.st e e Tryz.call47 λB r=>.q e (.a e e (.Ek [] e e e) (.Ek [] e e e))
def i_DiskOk_l1 (N:Nat)(b:Disk):Nat->Int->Option ((Bool)⊕(Unit))
 |0,_=>none
 |m+1,a=>
 (if decide (a<(b.Files.length:Int))then
 (at? b.Files a).bind λc=>
 (i_within N (c.Name.size:Int) 1 12).bind λd=>
 (if(!d)then
 some (Sum.inl false)
 else
 (if decide ((c.Text.size:Int)>20000)then
 some (Sum.inl false)
 else
 (if decide (a>0)then
 (at? b.Files (w64 (a-1))).bind λf=>
 (if(!Op.bytesLess f.Name.toList c.Name.toList)then
 some (Sum.inl false)
 else
 i_DiskOk_l1 N b m (w64 (a+1)))
 else
 i_DiskOk_l1 N b m (w64 (a+1)))))
 else
 some (Sum.inr ()))
def i_DiskOk (N:Nat)(a:Disk):Option (Bool):=
 joinP (λ(d:Unit)=>
 some (decide ((a.Files.length:Int)<=30))) λb=>
 (i_DiskOk_l1 N a N 0).bind (Sum.elim (λc=>some c) (λ(f:Unit)=>b ()))
instance i174 (N:Nat)(c:Disk):JB 36 (i_DiskOk N c) [.agg [RO 93 (c.Files.map encFile)]]:=.st e e Tryz.call36 λB r=>.jk e [1] [1000] (λ_=>[]) (λ_=>e) (λ_=>.st e (Ev.lnF e) e (.K1 e [1,6,7,8] [1000] (λd=>[.f 8 (VI d)]) (λ_=>e) λ_ d _ b=>.q e (.a e e (.q e (.B λ_ g=>.st e (Ev.iaF e e g) e (.q e (.c0 e i q λ_ _=>.a e e (.dn e (.Xr b e e (.il (.e e (.Ek [] e e e))))) (.a e e (.dn e (.Xr b e e (.il (.e e (.Ek [] e e e))))) (.a e e (.B λ_ j=>.st e (Ev.iaF e e j) e (.dn e (.a e e (.Xr b e e (.il (.e e (.Ek [] e e e)))) (.R e (λh=>⟨_,h,e,e⟩) (.k [1,6,7,8] [0]))))) (.dn e (.R e (λh=>⟨_,h,e,e⟩) (.k [1,6,7,8] [0]))))))))) (.X b e e (.ir (.n e (.J e (.k [1] [0])))))))) λ_=>.st e (Ev.lnF e) e (.Ek [] e e e)
def S_Compare (N:Nat)(a:BA)(b:BA):Option (Int):=some (Lib.compareBytes a.data.toList b.data.toList)
instance i175 (N:Nat)(a:BA)(b:BA):Sem Tryz.prog 112 (S_Compare N a b) [VS a,VS b] 0 [] (λr=>VI r) (λr=>[]):=⟨λr h=>says_compare Tryz.call112 Go.Proofs.Tryz.strings_Compare h⟩
def i_fileNo_1 (N:Nat)(a:File)(b:BA):Option (Int):=
 (S_Compare N a.Name b).bind λc=>
 some c
instance i176 (N:Nat)(a:File)(b:BA):JI 116 (i_fileNo_1 N a b) [.agg [VS a.Name,VS a.Text],VS b]:=.st e e Tryz.call116 λB r=>.c0 e i q λ_ _=>.Ek [] e e e
def L_BF_string_l1 (N:Nat)(b:List File)(c:BA):Nat->Int->Int->Option (Int)
 |0,_,_=>none
 |m+1,a,d=>
 (if decide (a<d)then
 (intSh .shr .u64 (IntKind.wrap .u64 (w64 (a+d))) 1).bind λf=>
 (at? b (w64 (f))).bind λg=>
 (i_fileNo_1 N g c).bind λh=>
 (if decide (h<0)then
 L_BF_string_l1 N b c m (w64 ((w64 (f))+1)) d
 else
 L_BF_string_l1 N b c m a (w64 (f)))
 else
 some a)
def L_BF_string (N:Nat)(a:List File)(c:BA):Option (Int×Bool):=
 joinP (λ(b:Int)=>
 (if decide (b<(a.length:Int))then
 (at? a b).bind λd=>
 (i_fileNo_1 N d c).bind λf=>
 some (b,(f==0))
 else
 some (b,false))) λg=>
 (L_BF_string_l1 N a c N 0 (a.length:Int)).bind (λh=>g h)
instance i177 (N:Nat)(b:List File)(c:BA):JG 115 (L_BF_string N b c) [RO 93 (b.map encFile),VS c,.fn 116 []] 0 [] (λr=>.tup [VI r.1,VB r.2]) (λr=>[]):=.st e e Tryz.call115 λB r=>.st e (Ev.lnF e) e (.jk e [0,1,2,8,9] [] (λd=>[.f 9 (VI d)]) (λ_=>e) (λ_=>.K2 e [0,1,2,8,9,10] [] (λg j=>[.f 9 (VI g),.f 10 (VI j)]) (λ_ _=>e) λ_ g j _ l=>.q e (.a e e (.B λ_ m=>.st e (.sh e e m) e (.B λ_ o=>.st e (Ev.iaF e e o) e (.B λ_ p=>.st e (Ev.callx [] [] 0 e (sy p) e e (.cons (.agg (.d2 .nil)) (.d1 .nil)) e (.inl e) e e) e (.a e e (.R e (λh=>⟨_,_,h,e,e⟩) (.k [0,1,2,8,9,10] [])) (.R e (λh=>⟨_,_,h,e,e⟩) (.k [0,1,2,8,9,10] [])))))) (.X l e e (.n e (.J e (.k [0,1,2,8,9] [])))))) λd=>.q e (.a e e (.B λ_ s=>.st e (Ev.iaF e e s) e (.B λ_ t=>.st e (Ev.callx [] [] 0 e (sy t) e e (.cons (.agg (.d2 .nil)) (.d1 .nil)) e (.inl e) e e) e (.Ek [] e e e))) (.Ek [] e e e)))
def i_fileNo (N:Nat)(b:Disk)(c:BA):Option (Int×Bool):=
 (L_BF_string N b.Files c).bind λa=>
 some (a.1,a.2)
instance i178 (N:Nat)(a:Disk)(b:BA):JG 43 (i_fileNo N a b) [.agg [RO 93 (a.Files.map encFile)],VS b] 0 [] (λr=>.tup [VI r.1,VB r.2]) (λr=>[]):=.st e e Tryz.call43 λB r=>.c0 e i q λ_ _=>.Ek [] e e e
def i_FileAt (N:Nat)(a:Disk)(c:BA):Option (BA×Bool):=
 (i_DiskOk N a).bind λd=>
 (if(!d)then
 some ((⟨#[]⟩:BA),false)
 else
 (i_fileNo N a c).bind λb=>
 (if(!b.2)then
 some ((⟨#[]⟩:BA),false)
 else
 (at? a.Files b.1).bind λf=>
 some (f.Text,true)))
instance i179 (N:Nat)(b:Disk)(c:BA):JG 17 (i_FileAt N b c) [.agg [RO 93 (b.Files.map encFile)],VS c] 0 [] (λr=>.tup [VS r.1,VB r.2]) (λr=>[]):=.st e e Tryz.call17 λB r=>.q e (.c0 e i q λ_ _=>.a e e (.Ek [] e e e) (.c0 e i q λ_ _=>.q e (.a e e (.Ek [] e e e) (.B λ_ d=>.st e (Ev.iaF e e d) e (.Ek [] e e e)))))
def i_SumMore_l2 (N:Nat):Nat->Int->Int->Option (Int)
 |0,_,_=>none
 |m+1,a,b=>
 (if decide (b<8)then
 joinP (λ(f:Int)=>
 i_SumMore_l2 N m f (w64 (b+1))) λc=>
 (intD .rem .u32 a 2).bind λg=>
 (intD .quo .u32 a 2).bind λd=>
 (if(g==1)then
 (intD .xor .u32 d 3558460437).bind λh=>
 c h
 else
 c d)
 else
 some a)
def i_SumMore_l1 (N:Nat)(a:BA):Nat->Int->Int->Option (Int)
 |0,_,_=>none
 |m+1,c,b=>
 (if decide (b<(a.size:Int))then
 joinP (λ(d:Int)=>
 i_SumMore_l1 N a m d (w64 (b+1))) λf=>
 (sat? a b).bind λg=>
 (intD .xor .u32 c (IntKind.wrap .u32 (g))).bind λh=>
 (i_SumMore_l2 N N h 0).bind (λj=>f j)
 else
 some c)
def i_SumMore (N:Nat)(a:Int)(b:BA):Option (Int):=
 joinP (λ(c:Int)=>
 some c) λd=>
 (i_SumMore_l1 N b N a 0).bind (λf=>d f)
instance i180 (N:Nat)(d:Int)(g:BA):JG 245 (i_SumMore N d g) [.c (.i .u32 d),VS g] 0 [] (λr=>.c (.i .u32 r)) (λr=>[]):=.st e e Tryz.call245 λB r=>.j e (λb=>[(0,.c (.i .u32 b))]) (λb=>[]) (λ_=>.K2 e [0,1,5] [] (λl m=>[.f 0 (.c (.i .u32 l)),.f 5 (VI m)]) (λ_ _=>e) λ_ l m _ u=>.q e (.a e e (.jk e [0,1,5] [] (λo=>[.f 0 (.c (.i .u32 o))]) (λ_=>e) (λ_=>.B λ_ w=>.st e (Ev.ixS e e w) e (.B λ_ x=>.st e (.bin e e x) e (.K2 e [0,1,5,6] [] (λp s=>[.f 0 (.c (.i .u32 p)),.f 6 (VI s)]) (λ_ _=>e) λ_ p s _ y=>.q e (.a e e (.jk e [0,1,5,6] [] (λt=>[.f 0 (.c (.i .u32 t))]) (λ_=>e) (λ_=>.B λ_ v=>.st e (.bin e e v) e (.B λ_ z=>.st e (.bin e e z) e (.a e e (.B λ_ a0=>.st e (.bin e e a0) e (.J e (.k [0,1,5,6] []))) (.J e (.k [0,1,5,6] []))))) λt=>.R e (λh=>⟨_,_,h,e,e⟩) (.k [0,1,5,6] [])) (.X y e e (.n e (.J e (.k [0,1,5] [])))))))) λo=>.R e (λh=>⟨_,_,h,e,e⟩) (.k [0,1,5] [])) (.X u e e (.n e (.J e (.k [0] [])))))) λb=>.Ek [] e e e
def i_SumOf (N:Nat)(a:BA):Option (Int):=
 (i_SumMore N 4294967295 a).bind λb=>
 some b
instance i181 (N:Nat)(a:BA):JG 198 (i_SumOf N a) [VS a] 0 [] (λr=>.c (.i .u32 r)) (λr=>[]):=.st e e Tryz.call198 λB r=>.c0 e i q λ_ _=>.Ek [] e e e
def i_Sealed (N:Nat)(b:BA):Option (BA×Bool):=
 (if decide ((b.size:Int)>20000)then
 some ((⟨#[]⟩:BA),false)
 else
 (i_SumOf N b).bind λa=>
 (intSh .shr .u32 a 24).bind λc=>
 (intSh .shr .u32 a 16).bind λd=>
 (intSh .shr .u32 a 8).bind λf=>
 (scat? b (strOf ([IntKind.wrap .u8 (c),IntKind.wrap .u8 (d),IntKind.wrap .u8 (f),IntKind.wrap .u8 (a)]:List Int))).bind λg=>
 some (g,true))
instance i182 (N:Nat)(b:BA):JG 188 (i_Sealed N b) [VS b] 0 [] (λr=>.tup [VS r.1,VB r.2]) (λr=>[]):=.st e e Tryz.call188 λB r=>.q e (.a e e (.Ek [] e e e) (.c0 e i q λc _=>.B λd g=>.st e (.sh e e g) e (.B λh j=>.st e (.sh e e j) e (.B λk l=>.st e (.sh e e l) e (.st e (Ev.bsW (ys:=([IntKind.wrap .u8 (d),IntKind.wrap .u8 (h),IntKind.wrap .u8 (k),IntKind.wrap .u8 (c)]:List Int)) (f:=encU) e (.d4 .nil) e e e e e) e (.st e (.sbC (addsW (f:=encU) e e e (λ_=>e))) e (.B λ_ m=>.st e (Ev.addS e e m) e (.Ek [] e e e))))))))
def i_Unsealed (N:Nat)(a:BA):Option (BA×Bool):=
 (if decide ((a.size:Int)<4)then
 some ((⟨#[]⟩:BA),false)
 else
 (stake? a (w64 ((a.size:Int)-4))).bind λb=>
 (i_Sealed N b).bind λc=>
 (if(!c.2)then
 some ((⟨#[]⟩:BA),false)
 else
 (if(!decide (c.1=a))then
 some ((⟨#[]⟩:BA),false)
 else
 some (b,true))))
instance i183 (N:Nat)(b:BA):JG 97 (i_Unsealed N b) [VS b] 0 [] (λr=>.tup [VS r.1,VB r.2]) (λr=>[]):=.st e e Tryz.call97 λB r=>.q e (.a e e (.Ek [] e e e) (.B λ_ c=>.st e (Ev.ssH e e c) e (.q e (.c0 e i q λ_ _=>.q e (.a e e (.Ek [] e e e) (.a e e (.Ek [] e e e) (.Ek [] e e e)))))))
def i_VarText_l1 (N:Nat):Nat->Int->(List Int)->Option (Int×(List Int))
 |0,_,_=>none
 |m+1,a,b=>
 (if decide (a>127)then
 (intD .rem .i64 a 128).bind λc=>
 (cat? b ([IntKind.wrap .u8 (w64 (c+128))]:List Int)).bind λd=>
 (intD .quo .i64 a 128).bind λf=>
 i_VarText_l1 N m f d
 else
 some (a,b))
def i_VarText (N:Nat)(a:Int):Option (BA×Bool):=
 (i_within N a 0 1000000000).bind λd=>
 (if(!d)then
 some ((⟨#[]⟩:BA),false)
 else
 joinP (λ(b:Int×(List Int))=>
 (cat? b.2 ([IntKind.wrap .u8 (b.1)]:List Int)).bind λf=>
 some (strOf f,true)) λg=>
 (i_VarText_l1 N N a ([]:(List Int))).bind (λc=>g (c.1,c.2)))
instance i184 (N:Nat)(g:Int):JG 197 (i_VarText N g) [VI g] 0 [] (λr=>.tup [VS r.1,VB r.2]) (λr=>[]):=.st e e Tryz.call197 λB r=>.q e (.c0 e i q λ_ _=>.a e e (.Ek [] e e e) (.j e (λb=>[(0,VI b.1),(4,.sl 0 5 0 b.2.length)]) (λb=>[(0,.vec 5 (b.2.map encU))]) (λ_=>.L2 e (λd c=>[(0,VI d),(4,.sl 0 5 0 c.length)]) (λd c=>[(0,.vec 5 (c.map encU))]) (.n [0,4] [] [4] [] [10000000]) λ_ d c _ l=>.q e (.a e e (.B λm o=>.st e (.bin e e o) e (.st e (Ev.bsW (ys:=([IntKind.wrap .u8 (w64 (m+128))]:List Int)) (f:=encU) e (.d1 .nil) e e e e e) e (.B λ_ p=>.st e (Ev.apW (f:=encU) (ontoW e e e) (addsW e e e (λ_=>e)) e bt5 e p) e (.B λ_ s=>.st e (.bin e e s) e (.R e (λh=>⟨_,_,h,e,e⟩) (.k [0,4] [21576])))))) (.X l e e (.n e (.J e (.k [0,4] [0])))))) λb=>.st e (Ev.bsW (ys:=([IntKind.wrap .u8 (b.1)]:List Int)) (f:=encU) e (.d1 .nil) e e e e e) e (.B λ_ t=>.st e (Ev.apW (f:=encU) (ontoW e e e) (addsW e e e (λ_=>e)) e bt5 e t) e (.st e (.sbC (addsW (f:=encU) e e e (λ_=>e))) e (.Ek [] e e e)))))
def i_ReadVar_l1 (N:Nat)(c:BA)(b:Int):Nat->Int->Int->Option ((Int×Int×Bool)⊕(Unit))
 |0,_,_=>none
 |m+1,d,a=>
 (if decide (a<5)then
 (if decide ((w64 (b+a))<(c.size:Int))then
 (sat? c (w64 (b+a))).bind λg=>
 (intD .rem .i64 (w64 (g)) 128).bind λj=>
 (intSh .shl .i64 j (w64 (7*a))).bind λf=>
 (if decide ((w64 (g))<128)then
 (i_VarText N (w64 (d+f))).bind λh=>
 (if(!h.2)then
 some (Sum.inl (0,0,false))
 else
 (if((h.1.size:Int)!=(w64 (a+1)))then
 some (Sum.inl (0,0,false))
 else
 some (Sum.inl (w64 (d+f),w64 ((w64 (b+a))+1),true))))
 else
 i_ReadVar_l1 N c b m (w64 (d+f)) (w64 (a+1)))
 else
 some (Sum.inr ()))
 else
 some (Sum.inr ()))
def i_ReadVar (N:Nat)(a:BA)(b:Int):Option (Int×Int×Bool):=
 (i_within N b 0 (a.size:Int)).bind λc=>
 (if(!c)then
 some (0,0,false)
 else
 joinP (λ(g:Unit)=>
 some (0,0,false)) λd=>
 (i_ReadVar_l1 N a b N 0 0).bind (Sum.elim (λf=>some f) (λ(h:Unit)=>d ())))
instance i185 (N:Nat)(c:BA)(d:Int):JG 117 (i_ReadVar N c d) [VS c,VI d] 0 [] (λr=>.tup [VI r.1,VI r.2.1,VB r.2.2]) (λr=>[]):=.st e e Tryz.call117 λB r=>.q e (.c0 e i q λ_ _=>.a e e (.Ek [] e e e) (.j e (λ_=>[]) (λ_=>[]) (λ_=>.K2 e [0,1,7,8] [] (λg l=>[.f 7 (VI g),.f 8 (VI l)]) (λ_ _=>e) λ_ g l _ b=>.q e (.q e (.a e e (.a e e (.q e (.B λ_ m=>.st e (Ev.ixS e e m) e (.B λ_ o=>.st e (.bin e e o) e (.B λ_ p=>.st e (.sh e e p) e (.a e e (.q e (.c0 e i q λ_ _=>.q e (.a e e (.Xr b e e (.il (.e e (.Ek [] e e e)))) (.a e e (.Xr b e e (.il (.e e (.Ek [] e e e)))) (.Xr b e e (.il (.e e (.Ek [] e e e)))))))) (.R e (λh=>⟨_,_,h,e,e⟩) (.k [0,1,7,8] []))))))) (.X b e e (.ir (.n e (.J e (.k [] [])))))) (.X b e e (.ir (.n e (.J e (.k [] [])))))))) λ_=>.Ek [] e e e))
def r_num (N:Nat)(a:Treader):Option (Int×Treader):=
 (i_ReadVar N a.s a.at').bind λb=>
 (if a.bad then
 some (0,(Treader.mk a.s a.at' true))
 else
 (if(!b.2.2)then
 some (0,(Treader.mk a.s a.at' true))
 else
 some (b.1,(Treader.mk a.s b.2.1 a.bad))))
instance i186 (N:Nat)(b:Treader):JG 51 (r_num N b) [.ptr 0 0] 1 [(0,.box [VS b.s,VI b.at',VB b.bad])] (λr=>VI r.1) (λr=>[(0,.box [VS r.2.s,VI r.2.at',VB r.2.bad])]):=.st e e Tryz.call51 λB r=>.c0 e i q λ_ _=>.dn e (.q e (.q e (.a e e (.Ek [0] e e e) (.a e e (.Ek [0] e e e) (.Ek [0] e e e)))))
def i_ReadManifest_1 (N:Nat)(a:Manifest)(c:Treader):Option (Manifest×Treader):=
 (r_num N c).bind λb=>
 (cat? a.Segs ([b.1]:List Int)).bind λd=>
 some (({ a with Segs:=d }),b.2)
instance i187 (N:Nat)(a:Manifest)(b:Treader):JG 99 (i_ReadManifest_1 N a b) [.ptr 0 0,.ptr 1 0] 5 ((0,.box (cManifest1 a 2 3 []))::(1,.box [.ptr 4 0])::(rManifest0 a 2 3 [(4,.box [VS b.s,VI b.at',VB b.bad])])) (λr=>.tup []) (λr=>[(0,.box [.sl 5 3 0 r.1.Segs.length,VI r.1.Next,VI r.1.Base,VI r.1.BaseTerm,.sl 3 3 0 a.Conf.length]),(1,.box [.ptr 4 0]),(2,.gone),(3,.vec 3 (a.Conf.map encI)),(4,.box [VS r.2.s,VI r.2.at',VB r.2.bad]),(5,.vec 3 (r.1.Segs.map encI))]):=.st e e Tryz.call99 λB r=>.f [4] [] 0 e i q λc _=>.st e (Ev.bsW (ys:=([c.1]:List Int)) (f:=encI) e (.d1 .nil) e e e e e) e (.B λ_ d=>.st e (Ev.apW (f:=encI) (ontoW e e e) (addsW e e e (λ_=>e)) e bt3 e d) e (.dn e (.Ek [0,1,2,3,4,1080] e e e)))
def r_each_l1 (N:Nat)(k:Int×Treader):Nat->Int->BA->Int->Bool->Int->Int->Int->(List Int)->Option (BA×Int×Bool×Int×Int×Int×(List Int))
 |0,_,_,_,_,_,_,_,_=>none
 |m+1,l,c,d,b,f,g,h,j=>
 (if decide (l<k.1)then
 (if(!b)then
 (i_ReadManifest_1 N (Manifest.mk j f g h ([]:(List Int))) (Treader.mk c d b)).bind λa=>
 r_each_l1 N k m (w64 (l+1)) a.2.s a.2.at' a.2.bad a.1.Next a.1.Base a.1.BaseTerm a.1.Segs
 else
 some (c,d,b,f,g,h,j))
 else
 some (c,d,b,f,g,h,j))
def r_each (N:Nat)(d:Treader)(c:Manifest):Option (Treader×Manifest):=
 (r_num N d).bind λb=>
 (r_each_l1 N b N 0 b.2.s b.2.at' b.2.bad c.Next c.Base c.BaseTerm ([]:(List Int))).bind (λa=>some ((Treader.mk a.1 a.2.1 a.2.2.1),(Manifest.mk a.2.2.2.2.2.2 a.2.2.2.1 a.2.2.2.2.1 a.2.2.2.2.2.1 ([]:(List Int)))))
instance i188 (N:Nat)(b:Treader)(c:Manifest):JG 98 (r_each N b c) [.ptr 0 0,.fn 99 [.ptr 1 0,.ptr 2 0]] 3 [(0,.box [VS b.s,VI b.at',VB b.bad]),(1,.box [NI 3,VI c.Next,VI c.Base,VI c.BaseTerm,NI 3]),(2,.box [.ptr 0 0])] (λr=>.tup []) (λr=>((0,.box [VS r.1.s,VI r.1.at',VB r.1.bad])::(1,.box (cManifest1 r.2 3 4 []))::(2,.box [.ptr 0 0])::(rManifest0 r.2 3 4 []))):=.st e e Tryz.call98 λB r=>.f [0] [] 0 e i q λw _=>.L8 e (λg j l m o p t d=>[(0,.ptr 0 0),(1,.fn 99 [.ptr 1 0,.ptr 2 0]),(4,VI w.1),(5,VI g)]) (λg j l m o p t d=>[(0,.box [VS j,VI l,VB m]),(1,.box [.sl 3 3 0 d.length,VI o,VI p,VI t,.sl 4 3 0 (([]:(List Int)).length)]),(2,.box [.ptr 0 0]),(3,.vec 3 (d.map encI)),(4,.vec 3 (([]:(List Int)).map encI))]) (.n [0,1,4,5] [0,1,2] [] [1] [0,1,2,20000000,20000001]) λ_ g j l m o p t d _ u=>.q e (.q e (.a e e (.a e e (.B λ_ x=>.st e (Ev.callx [1,2,3,4,0] [] 1 e (sy x) e e (.cons (.ptr e) (.cons (.ptr e) .nil)) e (.inl e) e e) e (.R e (λh=>⟨_,_,_,_,_,_,_,_,h,e,e⟩) (.k [0,1,4,5] [0,1,2,17400,4]))) (.X u e e (.n e (.Ek [0,1,2,3,4] e e e)))) (.X u e e (.n e (.Ek [0,1,2,3,4] e e e)))))
def i_ReadManifest_2 (N:Nat)(a:Manifest)(c:Treader):Option (Manifest×Treader):=
 (r_num N c).bind λb=>
 (cat? a.Conf ([b.1]:List Int)).bind λd=>
 some (({ a with Conf:=d }),b.2)
instance i189 (N:Nat)(a:Manifest)(b:Treader):JG 100 (i_ReadManifest_2 N a b) [.ptr 0 0,.ptr 1 0] 5 ((0,.box (cManifest1 a 2 3 []))::(1,.box [.ptr 4 0])::(rManifest0 a 2 3 [(4,.box [VS b.s,VI b.at',VB b.bad])])) (λr=>.tup []) (λr=>[(0,.box [.sl 2 3 0 a.Segs.length,VI r.1.Next,VI r.1.Base,VI r.1.BaseTerm,.sl 5 3 0 r.1.Conf.length]),(1,.box [.ptr 4 0]),(2,.vec 3 (a.Segs.map encI)),(3,.gone),(4,.box [VS r.2.s,VI r.2.at',VB r.2.bad]),(5,.vec 3 (r.1.Conf.map encI))]):=.st e e Tryz.call100 λB r=>.f [4] [] 0 e i q λc _=>.st e (Ev.bsW (ys:=([c.1]:List Int)) (f:=encI) e (.d1 .nil) e e e e e) e (.B λ_ d=>.st e (Ev.apW (f:=encI) (ontoW e e e) (addsW e e e (λ_=>e)) e bt3 e d) e (.dn e (.Ek [0,1,2,3,4,1080] e e e)))
def r_each_i1_l1 (N:Nat)(k:Manifest)(l:Int×Treader):Nat->Int->BA->Int->Bool->Int->Int->Int->(List Int)->Option (BA×Int×Bool×Int×Int×Int×(List Int))
 |0,_,_,_,_,_,_,_,_=>none
 |m+1,n,c,d,b,f,g,h,j=>
 (if decide (n<l.1)then
 (if(!b)then
 (i_ReadManifest_2 N (Manifest.mk k.Segs f g h j) (Treader.mk c d b)).bind λa=>
 r_each_i1_l1 N k l m (w64 (n+1)) a.2.s a.2.at' a.2.bad a.1.Next a.1.Base a.1.BaseTerm a.1.Conf
 else
 some (c,d,b,f,g,h,j))
 else
 some (c,d,b,f,g,h,j))
def r_each_i1 (N:Nat)(d:Treader)(b:Manifest):Option (Treader×Manifest):=
 (r_num N d).bind λc=>
 (r_each_i1_l1 N b c N 0 c.2.s c.2.at' c.2.bad b.Next b.Base b.BaseTerm b.Conf).bind (λa=>some ((Treader.mk a.1 a.2.1 a.2.2.1),(Manifest.mk b.Segs a.2.2.2.1 a.2.2.2.2.1 a.2.2.2.2.2.1 a.2.2.2.2.2.2)))
instance i190 (N:Nat)(c:Treader)(b:Manifest):JG 98 (r_each_i1 N c b) [.ptr 0 0,.fn 100 [.ptr 1 0,.ptr 2 0]] 5 ((0,.box [VS c.s,VI c.at',VB c.bad])::(1,.box (cManifest1 b 3 4 []))::(2,.box [.ptr 0 0])::(rManifest0 b 3 4 [])) (λr=>.tup []) (λr=>((0,.box [VS r.1.s,VI r.1.at',VB r.1.bad])::(1,.box (cManifest1 r.2 5 6 []))::(2,.box [.ptr 0 0])::(3,.gone)::(4,.gone)::(rManifest0 r.2 5 6 []))):=.st e e Tryz.call98 λB r=>.f [0] [] 0 e i q λw _=>.L8 e (λg j l m o p t d=>[(0,.ptr 0 0),(1,.fn 100 [.ptr 1 0,.ptr 2 0]),(4,VI w.1),(5,VI g)]) (λg j l m o p t d=>[(0,.box [VS j,VI l,VB m]),(1,.box [.sl 5 3 0 b.Segs.length,VI o,VI p,VI t,.sl 6 3 0 d.length]),(2,.box [.ptr 0 0]),(3,.gone),(4,.gone),(5,.vec 3 (b.Segs.map encI)),(6,.vec 3 (d.map encI))]) (.mv [0,1,4,5] [0,1,2,3,4] [3,4] [0,1,2,3,4,30000003,30000004]) λ_ g j l m o p t d _ u=>.q e (.q e (.a e e (.a e e (.B λ_ x=>.st e (Ev.callx [1,2,5,6,0] [] 1 e (sy x) e e (.cons (.ptr e) (.cons (.ptr e) .nil)) e (.inl e) e e) e (.R e (λh=>⟨_,_,_,_,_,_,_,_,h,e,e⟩) (.k [0,1,4,5] [0,1,2,3,4,5,17400]))) (.X u e e (.n e (.Ek [0,1,2,3,4,5,6] e e e)))) (.X u e e (.n e (.Ek [0,1,2,3,4,5,6] e e e)))))
def r_done (N:Nat)(a:Treader):Option (Bool):=
 (if(!a.bad)then
 some (a.at'==(a.s.size:Int))
 else
 some false)
instance i191 (N:Nat)(b:Treader):JG 53 (r_done N b) [.ptr 0 0] 1 [(0,.box [VS b.s,VI b.at',VB b.bad])] (λr=>VB r) (λr=>[(0,.box [VS b.s,VI b.at',VB b.bad])]):=.st e e Tryz.call53 λB r=>.q e (.a e e (.dn e (.Ek [0] e e e)) (.dn e (.Ek [0] e e e)))
def i_ConfOk_l1 (N:Nat)(b:List Int):Nat->Int->Option ((Bool)⊕(Unit))
 |0,_=>none
 |m+1,a=>
 (if decide (a<(b.length:Int))then
 (at? b a).bind λc=>
 (i_within N c 1 4).bind λd=>
 (if(!d)then
 some (Sum.inl false)
 else
 (if decide (a>0)then
 (at? b (w64 (a-1))).bind λf=>
 (if decide (f>=c)then
 some (Sum.inl false)
 else
 i_ConfOk_l1 N b m (w64 (a+1)))
 else
 i_ConfOk_l1 N b m (w64 (a+1))))
 else
 some (Sum.inr ()))
def i_ConfOk_l1_r (N:Nat)(b:List Int):(List Int)->Int->Option ((Bool)⊕(Unit))
 |[],a=>
 some (Sum.inr ())
 |hd::tl,a=>
 (some hd).bind λc=>
 (i_within N c 1 4).bind λd=>
 (if(!d)then
 some (Sum.inl false)
 else
 (if decide (a>0)then
 (at? b (w64 (a-1))).bind λf=>
 (if decide (f>=c)then
 some (Sum.inl false)
 else
 i_ConfOk_l1_r N b tl (w64 (a+1)))
 else
 i_ConfOk_l1_r N b tl (w64 (a+1))))
theorem i_ConfOk_l1_rng (N:Nat)(a:List Int)(hx:a.length<=1099511627776):∀(d k m:Nat),a.length=k+d->d<m->i_ConfOk_l1 N a m (k:Int)=i_ConfOk_l1_r N a (a.drop k) (k:Int):=by
 intro d
 induction d with
 |zero=>
  intro k m hd hm
  obtain⟨m,rfl⟩:∃q,m=q+1:=⟨m-1,by omega⟩
  rw[i_ConfOk_l1,IQ (by simp;omega),DN (by omega),i_ConfOk_l1_r]
 |succ d ih=>
  intro k m hd hm
  obtain⟨m,rfl⟩:∃q,m=q+1:=⟨m-1,by omega⟩
  have hk:k<a.length:=by omega
  rw[i_ConfOk_l1,IP (by simp;omega),DG hk,i_ConfOk_l1_r]
  have b:=at_lt hk
  have c:=WS (k:=k) (by omega)
  have f:=ih (k+1) m
  simp only[b,c,f (by omega) (by omega)]
theorem i_ConfOk_l1_eq {N:Nat}(a:List Int)(hx:a.length<=1099511627776)(hN:a.length<N):i_ConfOk_l1 N a N 0=i_ConfOk_l1_r N a a 0:=i_ConfOk_l1_rng N a hx a.length 0 N (by omega) hN
def i_ConfOk (N:Nat)(a:List Int):Option (Bool):=
 joinP (λ(f:Unit)=>
 (i_within N (a.length:Int) 1 4).bind λb=>
 some b) λc=>
 (i_ConfOk_l1 N a N 0).bind (Sum.elim (λd=>some d) (λ(g:Unit)=>c ()))
instance i192 (N:Nat)(c:List Int):JB 54 (i_ConfOk N c) [RO 3 (c.map encI)]:=.st e e Tryz.call54 λB r=>.jk e [0] [] (λ_=>[]) (λ_=>e) (λ_=>.st e (Ev.lnF e) e (.K1 e [0,5,6,7] [] (λd=>[.f 7 (VI d)]) (λ_=>e) λ_ d _ b=>.q e (.a e e (.q e (.B λ_ g=>.st e (Ev.iaF e e g) e (.q e (.c0 e i q λ_ _=>.a e e (.Xr b e e (.il (.e e (.Ek [] e e e)))) (.a e e (.B λ_ j=>.st e (Ev.iaF e e j) e (.a e e (.Xr b e e (.il (.e e (.Ek [] e e e)))) (.R e (λh=>⟨_,h,e,e⟩) (.k [0,5,6,7] [])))) (.R e (λh=>⟨_,h,e,e⟩) (.k [0,5,6,7] []))))))) (.X b e e (.ir (.n e (.J e (.k [0] [])))))))) λ_=>.st e (Ev.lnF e) e (.c0 e i q λ_ _=>.Ek [] e e e)
def i_ManifestOk_l1 (N:Nat)(a:Manifest):Nat->Int->Option ((Bool)⊕(Unit))
 |0,_=>none
 |m+1,b=>
 (if decide (b<(a.Segs.length:Int))then
 (at? a.Segs b).bind λc=>
 (i_within N c 0 999).bind λd=>
 (if(!d)then
 some (Sum.inl false)
 else
 (if decide (c>=a.Next)then
 some (Sum.inl false)
 else
 (if decide (b>0)then
 (at? a.Segs (w64 (b-1))).bind λf=>
 (if decide (f>=c)then
 some (Sum.inl false)
 else
 i_ManifestOk_l1 N a m (w64 (b+1)))
 else
 i_ManifestOk_l1 N a m (w64 (b+1)))))
 else
 some (Sum.inr ()))
def i_ManifestOk (N:Nat)(a:Manifest):Option (Bool):=
 joinP (λ(j:Unit)=>
 (i_within N (a.Segs.length:Int) 1 8).bind λb=>
 (if b then
 (if decide (a.Next<=1000)then
 (i_within N a.Base 0 100000).bind λc=>
 (if c then
 (i_within N a.BaseTerm 0 100000).bind λd=>
 (if d then
 (i_ConfOk N a.Conf).bind λf=>
 some f
 else
 some false)
 else
 some false)
 else
 some false)
 else
 some false)) λg=>
 (i_ManifestOk_l1 N a N 0).bind (Sum.elim (λh=>some h) (λ(k:Unit)=>g ()))
instance i193 (N:Nat)(c:Manifest):JB 101 (i_ManifestOk N c) [.agg (cManifest0 c [])]:=.st e e Tryz.call101 λB r=>.jk e [1] [1000] (λ_=>[]) (λ_=>e) (λ_=>.st e (Ev.lnF e) e (.K1 e [1,6,7,8] [1000] (λd=>[.f 8 (VI d)]) (λ_=>e) λ_ d _ b=>.q e (.a e e (.q e (.B λ_ g=>.st e (Ev.iaF e e g) e (.q e (.c0 e i q λ_ _=>.a e e (.Xr b e e (.il (.e e (.Ek [] e e e)))) (.a e e (.Xr b e e (.il (.e e (.Ek [] e e e)))) (.a e e (.B λ_ j=>.st e (Ev.iaF e e j) e (.a e e (.Xr b e e (.il (.e e (.Ek [] e e e)))) (.R e (λh=>⟨_,h,e,e⟩) (.k [1,6,7,8] [0])))) (.R e (λh=>⟨_,h,e,e⟩) (.k [1,6,7,8] [0])))))))) (.X b e e (.ir (.n e (.J e (.k [1] [0])))))))) λ_=>.q e (.st e (Ev.lnF e) e (.c0 e i q λ_ _=>.a e e (.a e e (.c0 e i q λ_ _=>.a e e (.c0 e i q λ_ _=>.a e e (.c0 e i q λ_ _=>.Ek [] e e e) (.Ek [] e e e)) (.Ek [] e e e)) (.Ek [] e e e)) (.Ek [] e e e)))
def i_ReadManifest (N:Nat)(h:BA):Option (Manifest×Bool):=
 (i_Unsealed N h).bind λc=>
 (if(!c.2)then
 some ((Manifest.mk ([]) 0 0 0 ([])),false)
 else
 (r_each N (Treader.mk c.1 0 false) (Manifest.mk ([]) 0 0 0 ([]))).bind λa=>
 (r_num N a.1).bind λd=>
 (r_num N d.2).bind λf=>
 (r_num N f.2).bind λg=>
 (r_each_i1 N g.2 (Manifest.mk a.2.Segs d.1 f.1 g.1 a.2.Conf)).bind λb=>
 (r_done N b.1).bind λj=>
 (if(!j)then
 some ((Manifest.mk ([]) 0 0 0 ([])),false)
 else
 (i_ManifestOk N b.2).bind λk=>
 (if(!k)then
 some ((Manifest.mk ([]) 0 0 0 ([])),false)
 else
 some (b.2,true))))
instance i194 (N:Nat)(b:BA):JG 37 (i_ReadManifest N b) [VS b] 0 [] (λr=>.tup [.agg (cManifest1 r.1 0 1 []),VB r.2]) (λr=>(rManifest0 r.1 0 1 [])):=.st e e Tryz.call37 λB r=>.c0 e i q λ_ _=>.q e (.a e e (.E e e (.n [0,1] [] [0] [] [10000000,10000001])) (.f [21512,17384,21528] [] 2 e i q λ_ _=>.f [21512] [] 0 e i q λ_ _=>.f [21512] [] 0 e i q λ_ _=>.f [21512] [] 0 e i q λ_ _=>.f [21512,17384,21528,25608,25609] [] 2 e i q λ_ _=>.q e (.q e (.f [21512] [] 0 e i q λ_ _=>.a e e (.E e e (.n [0,1] [] [0] [] [10000000,10000001])) (.f (hp:=(.cons (.agg (.cons (.borrow e (by decide) lw) (.d2 (.d1 (.cons (.borrow e (by decide) lw) .nil))))) .nil)) (hcase:=λ_=>(.inr ⟨rfl,ownL_root trivial⟩)) [] [41992,41993] 0 e i q λ_ _=>.a e e (.E e e (.n [0,1] [] [0] [] [10000000,10000001])) (.Ek [41992,41993] e e e))))))
def Q_Itoa (N:Nat)(a:Int):Option (BA):=itoa? a
instance i195 (N:Nat)(a:Int):Sem Tryz.prog 189 (Q_Itoa N a) [VI a] 0 [] (λr=>VS r) (λr=>[]):=⟨λr h=>says_itoa Tryz.call189 Go.Proofs.Tryz.strconv_Itoa (g:=1) (by kernel_rfl) (.head _) h⟩
def i_Decimal (N:Nat)(a:Int):Option (BA):=
 (Q_Itoa N a).bind λb=>
 some b
instance i196 (N:Nat)(a:Int):JS 102 (i_Decimal N a) [VI a]:=.st e e Tryz.call102 λB r=>.c0 e i q λ_ _=>.Ek [] e e e
def i_SegName (N:Nat)(a:Int):Option (BA):=
 (i_within N a 0 999).bind λb=>
 (if(!b)then
 some (⟨#[]⟩:BA)
 else
 (i_Decimal N a).bind λc=>
 (scat? (⟨#[103]⟩:BA) c).bind λd=>
 some d)
instance i197 (N:Nat)(b:Int):JS 38 (i_SegName N b) [VI b]:=.st e e Tryz.call38 λB r=>.q e (.c0 e i q λ_ _=>.a e e (.Ek [] e e e) (.c0 e i q λ_ _=>.B λ_ c=>.st e (Ev.addS e e c) e (.Ek [] e e e)))
def q_HasPrefix (N:Nat)(b:BA)(a:BA):Option (Bool):=
 (if decide ((b.size:Int)>=(a.size:Int))then
 (stake? b (a.size:Int)).bind λc=>
 some (decide (c=a))
 else
 some false)
instance i198 (N:Nat)(b:BA)(c:BA):JB 262 (q_HasPrefix N b c) [VS b,VS c]:=.st e e Tryz.call262 λB r=>.q e (.a e e (.B λ_ d=>.st e (Ev.ssH e e d) e (.Ek [] e e e)) (.Ek [] e e e))
def q_CutPrefix (N:Nat)(a:BA)(b:BA):Option (BA×Bool):=
 (q_HasPrefix N a b).bind λc=>
 (if(!c)then
 some (a,false)
 else
 (sdrop? a (b.size:Int)).bind λd=>
 some (d,true))
instance i199 (N:Nat)(b:BA)(c:BA):JG 239 (q_CutPrefix N b c) [VS b,VS c] 0 [] (λr=>.tup [VS r.1,VB r.2]) (λr=>[]):=.st e e Tryz.call239 λB r=>.q e (.c0 e i q λ_ _=>.a e e (.Ek [] e e e) (.B λ_ d=>.st e (Ev.ssL e e d) e (.Ek [] e e e)))
def S_CutPrefix (N:Nat)(b:BA)(c:BA):Option (BA×Bool):=
 (q_CutPrefix N b c).bind λa=>
 some (a.1,a.2)
instance i200 (N:Nat)(a:BA)(b:BA):JG 190 (S_CutPrefix N a b) [VS a,VS b] 0 [] (λr=>.tup [VS r.1,VB r.2]) (λr=>[]):=.st e e Tryz.call190 λB r=>.c0 e i q λ_ _=>.Ek [] e e e
def i_ReadDecimal (N:Nat)(a:BA):Option (Int×Bool):=rdec? a
instance i201 (N:Nat)(a:BA):Sem Tryz.prog 191 (i_ReadDecimal N a) [VS a] 0 [] (λr=>.tup [VI r.1,VB r.2]) (λr=>[]):=⟨λr h=>says_rdec Tryz.call191 Pe.ins191 (g:=1) (by kernel_rfl) (.head _) (g1:=2) (by kernel_rfl) (.tail _ (.head _)) (g2:=3) (by kernel_rfl) (.tail _ (.tail _ (.head _))) h⟩
def i_isSegName (N:Nat)(a:BA):Option (Bool):=
 (S_CutPrefix N a (⟨#[103]⟩:BA)).bind λb=>
 (i_ReadDecimal N b.1).bind λc=>
 (if b.2 then
 (if c.2 then
 (i_SegName N c.1).bind λd=>
 some (decide (d=a))
 else
 some false)
 else
 some false)
instance i202 (N:Nat)(b:BA):JB 103 (i_isSegName N b) [VS b]:=.st e e Tryz.call103 λB r=>.c0 e i q λ_ _=>.c0 e i q λ_ _=>.q e (.a e e (.a e e (.c0 e i q λ_ _=>.Ek [] e e e) (.Ek [] e e e)) (.Ek [] e e e))
def i_cleaning_1 (N:Nat)(a:Int)(b:File):Option (Bool):=
 (i_SegName N a).bind λc=>
 some (decide (c=b.Name))
instance i203 (N:Nat)(b:Int)(a:File):JG 105 (i_cleaning_1 N b a) [VI b,.ptr 0 0] 1 [(0,.box [VS a.Name,VS a.Text])] (λr=>VB r) (λr=>[(0,.box [VS a.Name,VS a.Text])]):=.st e e Tryz.call105 λB r=>.c0 e i q λ_ _=>.dn e (.Ek [0] e e e)
def L_IF_int_l1 (N:Nat)(b:List Int)(c:File):Nat->Int->Option ((Int)⊕(Unit))
 |0,_=>none
 |m+1,a=>
 (if decide (a<(b.length:Int))then
 (at? b a).bind λd=>
 (i_cleaning_1 N d c).bind λf=>
 (if f then
 some (Sum.inl a)
 else
 L_IF_int_l1 N b c m (w64 (a+1)))
 else
 some (Sum.inr ()))
def L_IF_int (N:Nat)(a:List Int)(b:File):Option (Int):=
 joinP (λ(f:Unit)=>
 some (-1:Int)) λc=>
 (L_IF_int_l1 N a b N 0).bind (Sum.elim (λd=>some d) (λ(g:Unit)=>c ()))
instance i204 (N:Nat)(c:List Int)(b:File):JG 192 (L_IF_int N c b) [RO 3 (c.map encI),.fn 105 [.ptr 0 0]] 1 [(0,.box [VS b.Name,VS b.Text])] (λr=>VI r) (λr=>[(0,.box [VS b.Name,VS b.Text])]):=.st e e Tryz.call192 λB r=>.jk e [] [0] (λ_=>[]) (λ_=>e) (λ_=>.st e (Ev.lnF e) e (.K1 e [0,1,7,8] [0] (λd=>[.f 8 (VI d)]) (λ_=>e) λ_ d _ g=>.q e (.a e e (.q e (.B λ_ j=>.st e (Ev.iaF e e j) e (.B λ_ l=>.st e (Ev.callx [0] [] 0 e (sy l) e e (.d1 (.cons (.ptr e) .nil)) e (.inl e) e e) e (.a e e (.Xr g e e (.il (.e e (.Ek [0] e e e)))) (.R e (λh=>⟨_,h,e,e⟩) (.k [0,1,7,8] [0])))))) (.X g e e (.ir (.n e (.J e (.k [] [0])))))))) λ_=>.Ek [0] e e e
def L_CF_int (N:Nat)(a:List Int)(b:File):Option (Bool):=
 (L_IF_int N a b).bind λc=>
 some (decide (c>=0))
instance i205 (N:Nat)(b:List Int)(a:File):JG 104 (L_CF_int N b a) [RO 3 (b.map encI),.fn 105 [.ptr 0 0]] 1 [(0,.box [VS a.Name,VS a.Text])] (λr=>VB r) (λr=>[(0,.box [VS a.Name,VS a.Text])]):=.st e e Tryz.call104 λB r=>.f [0] [] 0 e i q λ_ _=>.Ek [0] e e e
def i_cleaning_l1 (N:Nat)(a:Disk)(c:Manifest):Nat->Int->(List Raw)->Option ((List Raw))
 |0,_,_=>none
 |m+1,b,d=>
 (if decide (b<(a.Files.length:Int))then
 (at? a.Files b).bind λf=>
 (i_isSegName N f.Name).bind λg=>
 (if g then
 (L_CF_int N c.Segs f).bind λh=>
 (if(!h)then
 (cat? d ([(Raw.mk 4 f.Name (⟨#[]⟩:BA) (⟨#[]⟩:BA))]:List Raw)).bind λj=>
 i_cleaning_l1 N a c m (w64 (b+1)) j
 else
 i_cleaning_l1 N a c m (w64 (b+1)) d)
 else
 i_cleaning_l1 N a c m (w64 (b+1)) d)
 else
 some d)
def i_cleaning (N:Nat)(a:Disk)(c:Manifest):Option ((List Raw)):=
 joinP (λ(d:List Raw)=>
 joinP (λ(f:List Raw)=>
 some f) λg=>
 (i_cleaning_l1 N a c N 0 d).bind (λh=>g h)) λb=>
 (i_FileAt N a (⟨#[109,43]⟩:BA)).bind λj=>
 (if j.2 then
 (cat? ([]:List Raw) ([(Raw.mk 4 (⟨#[109,43]⟩:BA) (⟨#[]⟩:BA) (⟨#[]⟩:BA))]:List Raw)).bind λk=>
 b k
 else
 b ([]:(List Raw)))
instance i206 (N:Nat)(g:Disk)(l:Manifest):JG 39 (i_cleaning N g l) [.agg [RO 93 (g.Files.map encFile)],.agg (cManifest0 l [])] 0 [] (λr=>.sl 0 79 0 r.length) (λr=>[(0,.vec 79 (r.map encRaw))]):=.st e e Tryz.call39 λB r=>.jk e [2,3,5] [1000,1016,900002] (λc=>[.f 5 (.sl 2 79 0 c.length),.r 2 (.vec 79 (c.map encRaw))]) (λ_=>e) (λ_=>.c0 e i q λ_ _=>.a e e (.st e (Ev.bsW (ys:=([(Raw.mk 4 (⟨#[109,43]⟩:BA) (⟨#[]⟩:BA) (⟨#[]⟩:BA))]:List Raw)) (f:=encRaw) e (.d4 .nil) e e e e e) e (.B λ_ o=>.st e (Ev.apW (f:=encRaw) (ontoN (f:=encRaw) e) (addsW e e e (λ_=>e)) e bt79 e o) e (.J e (.k [2,3,5] [1000,1016,17432])))) (.J e (.n [2,3,5] [1000,1016] [5] [] [1000,1016,10000000]))) λc=>.j e (λb=>[(5,.sl 0 79 0 b.length)]) (λb=>[(0,.vec 79 (b.map encRaw))]) (λ_=>.st e (Ev.lnF e) e (.K2 e [3,5,21,22,23] [1,2] (λm d=>[.f 5 (.sl 1 79 0 d.length),.f 23 (VI m),.r 1 (.vec 79 (d.map encRaw))]) (λ_ _=>e) λ_ m d _ p=>.q e (.a e e (.q e (.B λs t=>.st e (Ev.iaF e e t) e (.q e (.c0 e i q λ_ _=>.a e e (.f [29704] [] 0 e i q λ_ _=>.a e e (.st e (Ev.bsW (ys:=([(Raw.mk 4 s.Name (⟨#[]⟩:BA) (⟨#[]⟩:BA))]:List Raw)) (f:=encRaw) e (.d4 .nil) e e e e e) e (.B λ_ u=>.st e (Ev.apW (f:=encRaw) (ontoW e e e) (addsW e e e (λ_=>e)) e bt79 e u) e (.R e (λh=>⟨_,_,h,e,e⟩) (.k [3,5,21,22,23] [0,37944])))) (.R e (λh=>⟨_,_,h,e,e⟩) (.k [3,5,21,22,23] [0,1]))) (.R e (λh=>⟨_,_,h,e,e⟩) (.k [3,5,21,22,23] [0,1])))))) (.X p e e (.n e (.J e (.k [5] [1]))))))) λb=>.Ek [0] e e e
def i_Frame (N:Nat)(a:BA):Option (BA×Bool):=
 (i_within N (a.size:Int) 1 9000).bind λc=>
 (if(!c)then
 some ((⟨#[]⟩:BA),false)
 else
 (i_VarText N (a.size:Int)).bind λd=>
 (i_SumOf N a).bind λb=>
 (intSh .shr .u32 b 24).bind λf=>
 (intSh .shr .u32 b 16).bind λg=>
 (intSh .shr .u32 b 8).bind λh=>
 (scat? d.1 (strOf ([IntKind.wrap .u8 (f),IntKind.wrap .u8 (g),IntKind.wrap .u8 (h),IntKind.wrap .u8 (b)]:List Int))).bind λj=>
 (scat? j a).bind λk=>
 some (k,true))
instance i207 (N:Nat)(b:BA):JG 108 (i_Frame N b) [VS b] 0 [] (λr=>.tup [VS r.1,VB r.2]) (λr=>[]):=.st e e Tryz.call108 λB r=>.q e (.c0 e i q λ_ _=>.a e e (.Ek [] e e e) (.c0 e i q λ_ _=>.c0 e i q λc _=>.B λd g=>.st e (.sh e e g) e (.B λh j=>.st e (.sh e e j) e (.B λk l=>.st e (.sh e e l) e (.st e (Ev.bsW (ys:=([IntKind.wrap .u8 (d),IntKind.wrap .u8 (h),IntKind.wrap .u8 (k),IntKind.wrap .u8 (c)]:List Int)) (f:=encU) e (.d4 .nil) e e e e e) e (.st e (.sbC (addsW (f:=encU) e e e (λ_=>e))) e (.B λ_ m=>.st e (Ev.addS e e m) e (.B λ_ n=>.st e (Ev.addS e e n) e (.Ek [] e e e)))))))))
def i_Unframe_l1 (N:Nat)(c:BA):Nat->Int->(List BA)->Option ((List BA)×Int)
 |0,_,_=>none
 |m+1,b,d=>
 (i_ReadVar N c b).bind λa=>
 (if(!a.2.2)then
 some (d,b)
 else
 (if(decide (a.1>(w64 ((w64 ((c.size:Int)-a.2.1))-4))))then
 some (d,b)
 else
 (scut? c (w64 (a.2.1+4)) (w64 ((w64 (a.2.1+4))+a.1))).bind λf=>
 (i_Frame N f).bind λg=>
 (if(!g.2)then
 some (d,b)
 else
 (scut? c b (w64 ((w64 (a.2.1+4))+a.1))).bind λh=>
 (if(!decide (g.1=h))then
 some (d,b)
 else
 (cat? d ([f]:List BA)).bind λj=>
 i_Unframe_l1 N c m (w64 ((w64 (a.2.1+4))+a.1)) j))))
def i_Unframe (N:Nat)(a:BA):Option ((List BA)×Int):=
 (if decide ((a.size:Int)>20000)then
 some ([],0)
 else
 (i_Unframe_l1 N a N 0 ([]:(List BA))).bind (λb=>some b))
instance i208 (N:Nat)(d:BA):JG 44 (i_Unframe N d) [VS d] 0 [] (λr=>.tup [.sl 0 9 0 r.1.length,VI r.2]) (λr=>[(0,.vec 9 (r.1.map encS))]):=.st e e Tryz.call44 λB r=>.q e (.a e e (.E e e (.n [0,1] [] [0] [] [10000000])) (.L2 e (λg b=>[(0,VS d),(4,.sl 0 9 0 b.length),(5,VI g)]) (λg b=>[(0,.vec 9 (b.map encS))]) (.n [0,4,5] [] [4] [] [10000000]) λ_ g b _ c=>.c0 e i q λ_ _=>.q e (.q e (.a e e (.Xr c e e (.e e (.Ek [0] e e e))) (.a e e (.Xr c e e (.e e (.Ek [0] e e e))) (.B λj l=>.st e (Ev.ssB e e e l) e (.q e (.c0 e i q λ_ _=>.q e (.a e e (.Xr c e e (.e e (.Ek [0] e e e))) (.B λ_ m=>.st e (Ev.ssB e e e m) e (.a e e (.Xr c e e (.e e (.Ek [0] e e e))) (.st e (Ev.bsW (ys:=([j]:List BA)) (f:=encS) e (.d1 .nil) e e e e e) e (.B λ_ o=>.st e (Ev.apW (f:=encS) (ontoW e e e) (addsW e e e (λ_=>e)) e bt9 e o) e (.R e (λh=>⟨_,_,h,e,e⟩) (.k [0,4,5] [50200])))))))))))))))
def i_ReadShort (N:Nat)(b:BA)(c:Int):Option (BA×Int×Bool):=
 (i_ReadVar N b c).bind λa=>
 (if(!a.2.2)then
 some ((⟨#[]⟩:BA),0,false)
 else
 (if decide (a.1>20000)then
 some ((⟨#[]⟩:BA),0,false)
 else
 (if(decide (a.1>(w64 ((b.size:Int)-a.2.1))))then
 some ((⟨#[]⟩:BA),0,false)
 else
 (scut? b a.2.1 (w64 (a.2.1+a.1))).bind λd=>
 some (d,w64 (a.2.1+a.1),true))))
instance i209 (N:Nat)(b:BA)(c:Int):JG 242 (i_ReadShort N b c) [VS b,VI c] 0 [] (λr=>.tup [VS r.1,VI r.2.1,VB r.2.2]) (λr=>[]):=.st e e Tryz.call242 λB r=>.c0 e i q λ_ _=>.q e (.q e (.a e e (.Ek [] e e e) (.a e e (.Ek [] e e e) (.a e e (.Ek [] e e e) (.B λ_ d=>.st e (Ev.ssB e e e d) e (.Ek [] e e e))))))
def r_text (N:Nat)(a:Treader):Option (BA×Treader):=
 (i_ReadShort N a.s a.at').bind λb=>
 (if a.bad then
 some ((⟨#[]⟩:BA),(Treader.mk a.s a.at' true))
 else
 (if(!b.2.2)then
 some ((⟨#[]⟩:BA),(Treader.mk a.s a.at' true))
 else
 some (b.1,(Treader.mk a.s b.2.1 a.bad))))
instance i210 (N:Nat)(b:Treader):JG 195 (r_text N b) [.ptr 0 0] 1 [(0,.box [VS b.s,VI b.at',VB b.bad])] (λr=>VS r.1) (λr=>[(0,.box [VS r.2.s,VI r.2.at',VB r.2.bad])]):=.st e e Tryz.call195 λB r=>.c0 e i q λ_ _=>.dn e (.q e (.q e (.a e e (.Ek [0] e e e) (.a e e (.Ek [0] e e e) (.Ek [0] e e e)))))
def r_byte (N:Nat)(a:Treader):Option (Int×Treader):=
 (if a.bad then
 some (0,(Treader.mk a.s a.at' true))
 else
 (if decide (a.at'>=(a.s.size:Int))then
 some (0,(Treader.mk a.s a.at' true))
 else
 (sat? a.s (w64 ((w64 (a.at'+1))-1))).bind λb=>
 some (w64 (b),(Treader.mk a.s (w64 (a.at'+1)) a.bad))))
instance i211 (N:Nat)(b:Treader):JG 118 (r_byte N b) [.ptr 0 0] 1 [(0,.box [VS b.s,VI b.at',VB b.bad])] (λr=>VI r.1) (λr=>[(0,.box [VS r.2.s,VI r.2.at',VB r.2.bad])]):=.st e e Tryz.call118 λB r=>.q e (.q e (.a e e (.dn e (.Ek [0] e e e)) (.dn e (.a e e (.Ek [0] e e e) (.B λ_ c=>.st e (Ev.ixS e e c) e (.dn e (.Ek [0] e e e)))))))
def i_ReadBatch_1 (N:Nat)(f:Treader)(a:Batch):Option (Batch×Treader):=
 (r_text N f).bind λb=>
 (r_byte N b.2).bind λc=>
 (r_text N c.2).bind λd=>
 (cat? a.Changes ([(Change.mk b.1 d.1 (c.1==1))]:List Change)).bind λg=>
 some ((Batch.mk a.Stamp g),d.2)
instance i212 (N:Nat)(a:Treader)(b:Batch):JG 194 (i_ReadBatch_1 N a b) [.ptr 0 0,.ptr 1 0] 4 [(0,.box [.ptr 2 0]),(1,.box [VI b.Stamp,.sl 3 262 0 b.Changes.length]),(2,.box [VS a.s,VI a.at',VB a.bad]),(3,.vec 262 (b.Changes.map encChange))] (λr=>.tup []) (λr=>[(0,.box [.ptr 2 0]),(1,.box [VI r.1.Stamp,.sl 4 262 0 r.1.Changes.length]),(2,.box [VS r.2.s,VI r.2.at',VB r.2.bad]),(3,.gone),(4,.vec 262 (r.1.Changes.map encChange))]):=.st e e Tryz.call194 λB r=>.f [2] [] 0 e i q λc _=>.f [2] [] 0 e i q λd _=>.f [2] [] 0 e i q λg _=>.st e (Ev.bsW (ys:=([(Change.mk c.1 g.1 (d.1==1))]:List Change)) (f:=encChange) e (.d2 (.d1 .nil)) e e e e e) e (.B λ_ h=>.st e (Ev.apW (f:=encChange) (ontoW e e e) (addsW e e e (λ_=>e)) e bt262 e h) e (.Ek [0,1,2,3,13352] e e e))
def r_each_i2_l1 (N:Nat)(h:Int×Treader):Nat->Int->BA->Int->Bool->Int->(List Change)->Option (BA×Int×Bool×Int×(List Change))
 |0,_,_,_,_,_,_=>none
 |m+1,j,c,d,b,f,g=>
 (if decide (j<h.1)then
 (if(!b)then
 (i_ReadBatch_1 N (Treader.mk c d b) (Batch.mk f g)).bind λa=>
 r_each_i2_l1 N h m (w64 (j+1)) a.2.s a.2.at' a.2.bad a.1.Stamp a.1.Changes
 else
 some (c,d,b,f,g))
 else
 some (c,d,b,f,g))
def r_each_i2 (N:Nat)(c:Treader)(d:Batch):Option (Treader×Batch):=
 (r_num N c).bind λb=>
 (r_each_i2_l1 N b N 0 b.2.s b.2.at' b.2.bad d.Stamp ([]:(List Change))).bind (λa=>some ((Treader.mk a.1 a.2.1 a.2.2.1),(Batch.mk a.2.2.2.1 a.2.2.2.2)))
instance i213 (N:Nat)(b:Treader)(o:Batch):JG 98 (r_each_i2 N b o) [.ptr 0 0,.fn 194 [.ptr 1 0,.ptr 2 0]] 3 [(0,.box [VS b.s,VI b.at',VB b.bad]),(1,.box [.ptr 0 0]),(2,.box [VI o.Stamp,NI 262])] (λr=>.tup []) (λr=>[(0,.box [VS r.1.s,VI r.1.at',VB r.1.bad]),(1,.box [.ptr 0 0]),(2,.box [VI r.2.Stamp,.sl 3 262 0 r.2.Changes.length]),(3,.vec 262 (r.2.Changes.map encChange))]):=.st e e Tryz.call98 λB r=>.f [0] [] 0 e i q λt _=>.L6 e (λd g j l m c=>[(0,.ptr 0 0),(1,.fn 194 [.ptr 1 0,.ptr 2 0]),(4,VI t.1),(5,VI d)]) (λd g j l m c=>[(0,.box [VS g,VI j,VB l]),(1,.box [.ptr 0 0]),(2,.box [VI m,.sl 3 262 0 c.length]),(3,.vec 262 (c.map encChange))]) (.n [0,1,4,5] [0,1,2] [] [2] [0,1,2,20000000]) λ_ d g j l m c _ p=>.q e (.q e (.a e e (.a e e (.B λ_ u=>.st e (Ev.callx [1,2,0,3] [] 1 e (sy u) e e (.cons (.ptr e) (.cons (.ptr e) .nil)) e (.inl e) e e) e (.R e (λh=>⟨_,_,_,_,_,_,h,e,e⟩) (.k [0,1,4,5] [0,1,2,17400]))) (.X p e e (.n e (.Ek [0,1,2,3] e e e)))) (.X p e e (.n e (.Ek [0,1,2,3] e e e)))))
def i_keyOk (N:Nat)(a:BA):Option (Bool):=
 (i_within N (a.size:Int) 1 10).bind λb=>
 some b
instance i214 (N:Nat)(a:BA):JB 199 (i_keyOk N a) [VS a]:=.st e e Tryz.call199 λB r=>.c0 e i q λ_ _=>.Ek [] e e e
def i_BatchOk_l1 (N:Nat)(b:Batch):Nat->Int->Option ((Bool)⊕(Unit))
 |0,_=>none
 |m+1,a=>
 (if decide (a<(b.Changes.length:Int))then
 (at? b.Changes a).bind λc=>
 (i_keyOk N c.Key).bind λd=>
 (if(!d)then
 some (Sum.inl false)
 else
 (if decide ((c.Value.size:Int)>40)then
 some (Sum.inl false)
 else
 (if c.Gone then
 (if(!decide (c.Value=(⟨#[]⟩:BA)))then
 some (Sum.inl false)
 else
 (if decide (a>0)then
 (at? b.Changes (w64 (a-1))).bind λf=>
 (if(!Op.bytesLess f.Key.toList c.Key.toList)then
 some (Sum.inl false)
 else
 i_BatchOk_l1 N b m (w64 (a+1)))
 else
 i_BatchOk_l1 N b m (w64 (a+1))))
 else
 (if decide (a>0)then
 (at? b.Changes (w64 (a-1))).bind λg=>
 (if(!Op.bytesLess g.Key.toList c.Key.toList)then
 some (Sum.inl false)
 else
 i_BatchOk_l1 N b m (w64 (a+1)))
 else
 i_BatchOk_l1 N b m (w64 (a+1))))))
 else
 some (Sum.inr ()))
def i_BatchOk (N:Nat)(a:Batch):Option (Bool):=
 joinP (λ(f:Unit)=>
 (i_within N a.Stamp 0 100000).bind λb=>
 (if b then
 some (decide ((a.Changes.length:Int)<=60))
 else
 some false)) λc=>
 (i_BatchOk_l1 N a N 0).bind (Sum.elim (λd=>some d) (λ(g:Unit)=>c ()))
instance i215 (N:Nat)(c:Batch):JB 243 (i_BatchOk N c) [.agg [VI c.Stamp,RO 262 (c.Changes.map encChange)]]:=.st e e Tryz.call243 λB r=>.jk e [1] [1000] (λ_=>[]) (λ_=>e) (λ_=>.st e (Ev.lnF e) e (.K1 e [1,6,7,8] [1000] (λd=>[.f 8 (VI d)]) (λ_=>e) λ_ d _ b=>.q e (.a e e (.q e (.B λ_ g=>.st e (Ev.iaF e e g) e (.q e (.c0 e i q λ_ _=>.a e e (.dn e (.Xr b e e (.il (.e e (.Ek [] e e e))))) (.a e e (.dn e (.Xr b e e (.il (.e e (.Ek [] e e e))))) (.a e e (.a e e (.dn e (.Xr b e e (.il (.e e (.Ek [] e e e))))) (.a e e (.B λ_ j=>.st e (Ev.iaF e e j) e (.dn e (.a e e (.Xr b e e (.il (.e e (.Ek [] e e e)))) (.R e (λh=>⟨_,h,e,e⟩) (.k [1,6,7,8] [0]))))) (.dn e (.R e (λh=>⟨_,h,e,e⟩) (.k [1,6,7,8] [0]))))) (.a e e (.B λ_ l=>.st e (Ev.iaF e e l) e (.dn e (.a e e (.Xr b e e (.il (.e e (.Ek [] e e e)))) (.R e (λh=>⟨_,h,e,e⟩) (.k [1,6,7,8] [0]))))) (.dn e (.R e (λh=>⟨_,h,e,e⟩) (.k [1,6,7,8] [0])))))))))) (.X b e e (.ir (.n e (.J e (.k [1] [0])))))))) λ_=>.q e (.c0 e i q λ_ _=>.a e e (.st e (Ev.lnF e) e (.Ek [] e e e)) (.Ek [] e e e))
def i_vars_l1 (N:Nat)(a:List Int):Nat->Int->(List Int)->Option ((BA×Bool)⊕((List Int)))
 |0,_,_=>none
 |m+1,b,c=>
 (if decide (b<(a.length:Int))then
 (at? a b).bind λf=>
 (i_VarText N f).bind λd=>
 (if(!d.2)then
 some (Sum.inl ((⟨#[]⟩:BA),false))
 else
 (cat? c (intsOf d.1)).bind λg=>
 i_vars_l1 N a m (w64 (b+1)) g)
 else
 some (Sum.inr c))
def i_vars_l1_r (N:Nat)(d:List Int):(List Int)->Int->(List Int)->Option ((BA×Bool)⊕((List Int)))
 |[],b,a=>
 some (Sum.inr a)
 |hd::tl,b,a=>
 (some hd).bind λf=>
 (i_VarText N f).bind λc=>
 (if(!c.2)then
 some (Sum.inl ((⟨#[]⟩:BA),false))
 else
 (cat? a (intsOf c.1)).bind λg=>
 i_vars_l1_r N d tl (w64 (b+1)) g)
theorem i_vars_l1_rng (N:Nat)(a:List Int)(hx:a.length<=1099511627776):∀(d k m:Nat)(b:List Int),a.length=k+d->d<m->i_vars_l1 N a m (k:Int) b=i_vars_l1_r N a (a.drop k) (k:Int) b:=by
 intro d
 induction d with
 |zero=>
  intro k m b hd hm
  obtain⟨m,rfl⟩:∃q,m=q+1:=⟨m-1,by omega⟩
  rw[i_vars_l1,IQ (by simp;omega),DN (by omega),i_vars_l1_r]
 |succ d ih=>
  intro k m b hd hm
  obtain⟨m,rfl⟩:∃q,m=q+1:=⟨m-1,by omega⟩
  have hk:k<a.length:=by omega
  rw[i_vars_l1,IP (by simp;omega),DG hk,i_vars_l1_r]
  have c:=at_lt hk
  have f:=WS (k:=k) (by omega)
  have g:=ih (k+1) m
  simp only[c,f,g _ (by omega) (by omega)]
theorem i_vars_l1_eq {N:Nat}(a:List Int)(hx:a.length<=1099511627776)(hN:a.length<N)(b:List Int):i_vars_l1 N a N 0 b=i_vars_l1_r N a a 0 b:=i_vars_l1_rng N a hx a.length 0 N b (by omega) hN
def i_vars (N:Nat)(a:List Int):Option (BA×Bool):=
 joinP (λ(b:List Int)=>
 some (strOf b,true)) λc=>
 (i_vars_l1 N a N 0 ([]:(List Int))).bind (Sum.elim (λd=>some d) (λ(f:List Int)=>c f))
instance i216 (N:Nat)(b:List Int):JG 121 (i_vars N b) [RO 3 (b.map encI)] 0 [] (λr=>.tup [VS r.1,VB r.2]) (λr=>[]):=.st e e Tryz.call121 λB r=>.j e (λc=>[(4,.sl 0 5 0 c.length)]) (λc=>[(0,.vec 5 (c.map encU))]) (λ_=>.st e (Ev.lnF e) e (.L2 e (λg d=>[(4,.sl 0 5 0 d.length),(9,RO 3 (b.map encI)),(10,VI (b.length:Int)),(11,VI g)]) (λg d=>[(0,.vec 5 (d.map encU))]) (.n [4,9,10,11] [] [4] [] [10000000]) λ_ g d _ l=>.q e (.a e e (.q e (.B λ_ m=>.st e (Ev.iaF e e m) e (.c0 e i q λ_ _=>.q e (.a e e (.Xr l e e (.il (.e e (.Ek [] e e e)))) (.B λ_ o=>.st e (Ev.apS (ontoW e e e) e e e o) e (.R e (λh=>⟨_,_,h,e,e⟩) (.k [4,9,10,11] [33800]))))))) (.X l e e (.ir (.n e (.J e (.k [4] [0])))))))) λc=>.st e (.sbC (addsW (f:=encU) e e e (λ_=>e))) e (.Ek [] e e e)
def i_ShortText (N:Nat)(a:BA):Option (BA×Bool):=
 (if decide ((a.size:Int)>20000)then
 some ((⟨#[]⟩:BA),false)
 else
 (i_VarText N (a.size:Int)).bind λb=>
 (scat? b.1 a).bind λc=>
 some (c,true))
instance i217 (N:Nat)(b:BA):JG 241 (i_ShortText N b) [VS b] 0 [] (λr=>.tup [VS r.1,VB r.2]) (λr=>[]):=.st e e Tryz.call241 λB r=>.q e (.a e e (.Ek [] e e e) (.c0 e i q λ_ _=>.B λ_ c=>.st e (Ev.addS e e c) e (.Ek [] e e e)))
def i_short (N:Nat)(a:BA):Option (BA):=
 (i_ShortText N a).bind λb=>
 some b.1
instance i218 (N:Nat)(a:BA):JS 193 (i_short N a) [VS a]:=.st e e Tryz.call193 λB r=>.c0 e i q λ_ _=>.Ek [] e e e
def i_flag (N:Nat)(a:Bool):Option (BA):=
 (if a then
 some (⟨#[1]⟩:BA)
 else
 some (⟨#[0]⟩:BA))
instance i219 (N:Nat)(b:Bool):JS 244 (i_flag N b) [VB b]:=.st e e Tryz.call244 λB r=>.q e (.a e e (.Ek [] e e e) (.Ek [] e e e))
def i_BatchText_l1 (N:Nat)(a:Batch):Nat->BA->Int->Option (BA)
 |0,_,_=>none
 |m+1,d,b=>
 (if decide (b<(a.Changes.length:Int))then
 (at? a.Changes b).bind λc=>
 (i_short N c.Key).bind λf=>
 (i_flag N c.Gone).bind λg=>
 (scat? f g).bind λh=>
 (i_short N c.Value).bind λj=>
 (scat? h j).bind λk=>
 (scat? d k).bind λl=>
 i_BatchText_l1 N a m l (w64 (b+1))
 else
 some d)
def i_BatchText (N:Nat)(a:Batch):Option (BA×Bool):=
 (i_BatchOk N a).bind λb=>
 (if(!b)then
 some ((⟨#[]⟩:BA),false)
 else
 (i_vars N ([a.Stamp,(a.Changes.length:Int)]:List Int)).bind λc=>
 joinP (λ(d:BA)=>
 some (d,true)) λf=>
 (i_BatchText_l1 N a N c.1 0).bind (λg=>f g))
instance i220 (N:Nat)(b:Batch):JG 196 (i_BatchText N b) [.agg [VI b.Stamp,RO 262 (b.Changes.map encChange)]] 0 [] (λr=>.tup [VS r.1,VB r.2]) (λr=>[]):=.st e e Tryz.call196 λB r=>.q e (.c0 e i q λ_ _=>.a e e (.Ek [] e e e) (.st e (Ev.lnF e) e (.st e (Ev.bsW (ys:=([b.Stamp,(b.Changes.length:Int)]:List Int)) (f:=encI) e (.d2 .nil) e e e e e) e (.f (hp:=(.cons (.borrow e (by decide) lw) .nil)) (hcase:=λ_=>(.inr ⟨rfl,ownL_root trivial⟩)) [] [13368] 0 e i q λ_ _=>.j e (λc=>[(4,VS c)]) (λc=>[]) (λ_=>.st e (Ev.lnF e) e (.K2 e [4,22,23,24] [] (λd g=>[.f 4 (VS d),.f 24 (VI g)]) (λ_ _=>e) λ_ d g _ l=>.q e (.a e e (.B λ_ m=>.st e (Ev.iaF e e m) e (.c0 e i q λ_ _=>.c0 e i q λ_ _=>.B λ_ o=>.st e (Ev.addS e e o) e (.c0 e i q λ_ _=>.B λ_ p=>.st e (Ev.addS e e p) e (.B λ_ s=>.st e (Ev.addS e e s) e (.dn e (.R e (λh=>⟨_,_,h,e,e⟩) (.k [4,22,23,24] []))))))) (.X l e e (.n e (.J e (.k [4] []))))))) λc=>.Ek [] e e e))))
def i_ReadBatch (N:Nat)(b:BA):Option (Batch×Bool):=
 (r_num N (Treader.mk b 0 false)).bind λc=>
 (r_each_i2 N c.2 (Batch.mk c.1 ([]))).bind λa=>
 (i_BatchText N a.2).bind λd=>
 (if a.1.bad then
 some ((Batch.mk 0 ([])),false)
 else
 (if(!d.2)then
 some ((Batch.mk 0 ([])),false)
 else
 (if(!decide (d.1=b))then
 some ((Batch.mk 0 ([])),false)
 else
 some (a.2,true))))
instance i221 (N:Nat)(b:BA):JG 107 (i_ReadBatch N b) [VS b] 0 [] (λr=>.tup [.agg [VI r.1.Stamp,.sl 0 262 0 r.1.Changes.length],VB r.2]) (λr=>[(0,.vec 262 (r.1.Changes.map encChange))]):=.st e e Tryz.call107 λB r=>.f [5128] [] 0 e i q λ_ _=>.f [5128,5144,9240] [] 1 e i q λ_ _=>.q e (.f (hp:=(.cons (.agg (.d1 (.cons (.borrow e (by decide) lw) .nil))) .nil)) (hcase:=λ_=>(.inr ⟨rfl,ownL_root trivial⟩)) [] [13320] 0 e i q λ_ _=>.q e (.a e e (.E e e (.n [0,1] [] [0] [] [10000000])) (.a e e (.E e e (.n [0,1] [] [0] [] [10000000])) (.a e e (.E e e (.n [0,1] [] [0] [] [10000000])) (.Ek [13320] e e e)))))
def i_batchesOf_l1 (N:Nat)(c:(List BA)×Int):Nat->Int->Int->(List Tplaced)->Option (Int×(List Tplaced))
 |0,_,_,_=>none
 |m+1,a,d,f=>
 (if decide (d<(c.1.length:Int))then
 (at? c.1 d).bind λb=>
 (i_ReadBatch N b).bind λg=>
 (if(!g.2)then
 some (a,f)
 else
 (i_Frame N b).bind λh=>
 (cat? f ([(Tplaced.mk g.1 b (w64 ((w64 (a+(h.1.size:Int)))-(b.size:Int))))]:List Tplaced)).bind λj=>
 i_batchesOf_l1 N c m (w64 (a+(h.1.size:Int))) (w64 (d+1)) j)
 else
 some (a,f))
def i_batchesOf (N:Nat)(c:BA):Option ((List Tplaced)×Int):=
 (i_Unframe N c).bind λd=>
 joinP (λ(a:Int×(List Tplaced))=>
 some (a.2,a.1)) λf=>
 (i_batchesOf_l1 N d N 0 0 ([]:(List Tplaced))).bind (λb=>f (b.1,b.2))
instance i222 (N:Nat)(o:BA):JG 41 (i_batchesOf N o) [VS o] 0 [] (λr=>.tup [.sl 0 178 0 r.1.length,VI r.2]) (λr=>[(0,.vec 178 (r.1.map (encTplaced false)))]):=.st e e Tryz.call41 λB r=>.c1 e i q λl _=>.j e (λb=>[(6,.sl 0 178 0 b.2.length),(7,VI b.1)]) (λb=>[(0,.vec 178 (b.2.map (encTplaced false)))]) (λ_=>.L3 e (λc m d=>[(6,.sl 0 178 0 d.length),(7,VI c),(19,.sl 1 9 0 l.1.length),(20,VI (l.1.length:Int)),(21,VI m)]) (λc m d=>[(0,.vec 178 (d.map (encTplaced false))),(1,.vec 9 (l.1.map encS))]) (.n [6,7,19,20,21] [5112] [6] [] [10000000,5112]) λ_ c m d _ p=>.q e (.a e e (.q e (.B λs t=>.st e (Ev.iaW e e e t) e (.st e (Ev.ldE (f:=encS) e e (at_some t).2 e e e) e (.c1 e i q λu _=>.q e (.a e e (.X p e e (.n e (.J e (.k [6,7] [0])))) (.c0 e i q λw _=>.stz e (EvZ.frz (f:=encChange) (g:=encChange) (xs:=u.1.Changes) 29688 (λ_=>e) e (.mk (Ev.bsW (ys:=([(Tplaced.mk u.1 s (w64 ((w64 (c+(w.1.size:Int)))-(s.size:Int))))]:List Tplaced)) (f:=(encTplaced false)) e (.d1 (.cons (.ro e (shareW _ e)) (.d2 .nil))) e e e e e))) e (.B λ_ x=>.st e (Ev.apW (f:=(encTplaced false)) (ontoW e e e) (addsW e e e (λ_=>e)) e bt178 e x) e (.R e (λh=>⟨_,_,_,h,e,e⟩) (.k [6,7,19,20,21] [46200,1]))))))))) (.X p e e (.n e (.J e (.k [6,7] [0])))))) λb=>.Ek [0] e e e
def i_spotsOf_l1 (N:Nat)(c:Tplaced)(d:Int):Nat->Int->Int->(List Spot)->Option ((List Spot))
 |0,_,_,_=>none
 |m+1,g,f,h=>
 (if decide (f<(c.b.Changes.length:Int))then
 (at? c.b.Changes f).bind λa=>
 (i_short N a.Value).bind λj=>
 (i_short N a.Key).bind λk=>
 (if a.Gone then
 (cat? h ([(Spot.mk a.Key d 0 (-1:Int))]:List Spot)).bind λl=>
 i_spotsOf_l1 N c d m (w64 (g+(w64 ((w64 ((k.size:Int)+1))+(j.size:Int))))) (w64 (f+1)) l
 else
 (cat? h ([(Spot.mk a.Key d (w64 ((w64 (g+(w64 ((w64 ((k.size:Int)+1))+(j.size:Int)))))-(a.Value.size:Int))) (a.Value.size:Int))]:List Spot)).bind λn=>
 i_spotsOf_l1 N c d m (w64 (g+(w64 ((w64 ((k.size:Int)+1))+(j.size:Int))))) (w64 (f+1)) n)
 else
 some h)
def i_spotsOf (N:Nat)(a:Tplaced)(c:Int):Option ((List Spot)):=
 (i_vars N ([a.b.Stamp,(a.b.Changes.length:Int)]:List Int)).bind λd=>
 joinP (λ(f:List Spot)=>
 some f) λg=>
 (i_spotsOf_l1 N a c N (w64 (a.at'+(d.1.size:Int))) 0 ([]:(List Spot))).bind (λh=>g h)
instance i223 (N:Nat)(c:Tplaced)(d:Int):JG 106 (i_spotsOf N c d) [.agg (cTplaced0 c []),VI d] 0 [] (λr=>.sl 0 85 0 r.length) (λr=>[(0,.vec 85 (r.map encSpot))]):=.st e e Tryz.call106 λB r=>.st e (Ev.lnF e) e (.st e (Ev.bsW (ys:=([c.b.Stamp,(c.b.Changes.length:Int)]:List Int)) (f:=encI) e (.d2 .nil) e e e e e) e (.f (hp:=(.cons (.borrow e (by decide) lw) .nil)) (hcase:=λ_=>(.inr ⟨rfl,ownL_root trivial⟩)) [] [5208] 0 e i q λ_ _=>.j e (λg=>[(8,.sl 0 85 0 g.length)]) (λg=>[(0,.vec 85 (g.map encSpot))]) (λ_=>.st e (Ev.lnF e) e (.L3 e (λl p m=>[(1,VI d),(7,VI l),(8,.sl 0 85 0 m.length),(31,RO 262 (c.b.Changes.map encChange)),(32,VI (c.b.Changes.length:Int)),(33,VI p)]) (λl p m=>[(0,.vec 85 (m.map encSpot))]) (.n [1,7,8,31,32,33] [] [8] [] [10000000]) λ_ l p m _ s=>.q e (.a e e (.q e (.B λo t=>.st e (Ev.iaF e e t) e (.c0 e i q λu _=>.c0 e i q λw _=>.a e e (.st e (Ev.bsW (ys:=([(Spot.mk o.Key d 0 (-1:Int))]:List Spot)) (f:=encSpot) e (.d4 .nil) e e e e e) e (.B λ_ x=>.st e (Ev.apW (f:=encSpot) (ontoW e e e) (addsW e e e (λ_=>e)) e bt85 e x) e (.R e (λh=>⟨_,_,_,h,e,e⟩) (.k [1,7,8,31,32,33] [42056])))) (.st e (Ev.bsW (ys:=([(Spot.mk o.Key d (w64 ((w64 (l+(w64 ((w64 ((w.size:Int)+1))+(u.size:Int)))))-(o.Value.size:Int))) (o.Value.size:Int))]:List Spot)) (f:=encSpot) e (.d4 .nil) e e e e e) e (.B λ_ y=>.st e (Ev.apW (f:=encSpot) (ontoW e e e) (addsW e e e (λ_=>e)) e bt85 e y) e (.R e (λh=>⟨_,_,_,h,e,e⟩) (.k [1,7,8,31,32,33] [46280]))))))) (.X s e e (.n e (.J e (.k [8] [0]))))))) λg=>.Ek [0] e e e))
def i_ScanSeg_l1 (N:Nat)(f:Int)(a:(List Tplaced)×Int):Nat->Int->Int->(List Spot)->(List BA)->Option (Int×(List Spot)×(List BA))
 |0,_,_,_,_=>none
 |m+1,g,c,h,j=>
 (if decide (c<(a.1.length:Int))then
 (at? a.1 c).bind λd=>
 (i_spotsOf N d f).bind λk=>
 (cat? h k).bind λl=>
 (cat? j ([d.text]:List BA)).bind λn=>
 i_ScanSeg_l1 N f a m (imax g d.b.Stamp) (w64 (c+1)) l n
 else
 some (g,h,j))
def i_ScanSeg (N:Nat)(c:BA)(d:Int):Option ((List Spot)×(List BA)×Int):=
 (i_batchesOf N c).bind λf=>
 joinP (λ(a:Int×(List Spot)×(List BA))=>
 some (a.2.1,a.2.2,a.1)) λg=>
 (i_ScanSeg_l1 N d f N (-1:Int) 0 ([]:(List Spot)) ([]:(List BA))).bind (λb=>g (b.1,b.2.1,b.2.2))
instance i224 (N:Nat)(p:BA)(g:Int):JG 40 (i_ScanSeg N p g) [VS p,VI g] 0 [] (λr=>.tup [.sl 0 85 0 r.1.length,.sl 1 9 0 r.2.1.length,VI r.2.2]) (λr=>[(0,.vec 85 (r.1.map encSpot)),(1,.vec 9 (r.2.1.map encS))]):=.st e e Tryz.call40 λB r=>.c1 e i q λl _=>.j e (λb=>[(9,.sl 0 85 0 b.2.1.length),(10,.sl 1 9 0 b.2.2.length),(11,VI b.1)]) (λb=>[(0,.vec 85 (b.2.1.map encSpot)),(1,.vec 9 (b.2.2.map encS))]) (λ_=>.L4 e (λm o c d=>[(1,VI g),(9,.sl 0 85 0 c.length),(10,.sl 1 9 0 d.length),(11,VI m),(19,.sl 2 178 0 l.1.length),(20,VI (l.1.length:Int)),(21,VI o)]) (λm o c d=>[(0,.vec 85 (c.map encSpot)),(1,.vec 9 (d.map encS)),(2,.vec 178 (l.1.map (encTplaced false)))]) (.n [1,9,10,11,19,20,21] [5112] [9,10] [] [10000000,10000064,5112]) λ_ m o c d _ t=>.q e (.a e e (.B λu s=>.st e (Ev.iaW e e e s) e (.st e (Ev.ldE (f:=(encTplaced false)) e e (at_some s).2 e e e) e (.c1 e i q λ_ _=>.B λ_ w=>.st e (Ev.apW (f:=encSpot) (ontoW e e e) (addsW e e e (λ_=>e)) e bt85 e w) e (.st e (Ev.bsW (ys:=([u.text]:List BA)) (f:=encS) e (.d1 .nil) e e e e e) e (.B λ_ x=>.st e (Ev.apW (f:=encS) (ontoW e e e) (addsW e e e (λ_=>e)) e bt9 e x) e (.R e (λh=>⟨_,_,_,_,h,e,e⟩) (.k [1,9,10,11,19,20,21] [33832,37928,2]))))))) (.X t e e (.n e (.J e (.k [9,10,11] [0,1])))))) λb=>.Ek [0,1] e e e
def i_DirOk_l1 (N:Nat)(b:List Spot):Nat->Int->Option ((Bool)⊕(Unit))
 |0,_=>none
 |m+1,a=>
 (if decide (a<(b.length:Int))then
 (at? b a).bind λc=>
 (i_keyOk N c.Key).bind λd=>
 (if(!d)then
 some (Sum.inl false)
 else
 (i_within N c.Seg 0 999).bind λf=>
 (if(!f)then
 some (Sum.inl false)
 else
 (i_within N c.At 0 20000).bind λg=>
 (if(!g)then
 some (Sum.inl false)
 else
 (i_within N c.Size 0 40).bind λh=>
 (if(!h)then
 some (Sum.inl false)
 else
 (if decide (a>0)then
 (at? b (w64 (a-1))).bind λj=>
 (if(!Op.bytesLess j.Key.toList c.Key.toList)then
 some (Sum.inl false)
 else
 i_DirOk_l1 N b m (w64 (a+1)))
 else
 i_DirOk_l1 N b m (w64 (a+1)))))))
 else
 some (Sum.inr ()))
def i_DirOk (N:Nat)(a:List Spot):Option (Bool):=
 joinP (λ(d:Unit)=>
 some (decide ((a.length:Int)<=60))) λb=>
 (i_DirOk_l1 N a N 0).bind (Sum.elim (λc=>some c) (λ(f:Unit)=>b ()))
instance i225 (N:Nat)(c:List Spot):JB 109 (i_DirOk N c) [RO 85 (c.map encSpot)]:=.st e e Tryz.call109 λB r=>.jk e [0] [] (λ_=>[]) (λ_=>e) (λ_=>.st e (Ev.lnF e) e (.K1 e [0,5,6,7] [] (λd=>[.f 7 (VI d)]) (λ_=>e) λ_ d _ b=>.q e (.a e e (.q e (.B λ_ g=>.st e (Ev.iaF e e g) e (.q e (.c0 e i q λ_ _=>.a e e (.dn e (.Xr b e e (.il (.e e (.Ek [] e e e))))) (.c0 e i q λ_ _=>.a e e (.dn e (.Xr b e e (.il (.e e (.Ek [] e e e))))) (.c0 e i q λ_ _=>.a e e (.dn e (.Xr b e e (.il (.e e (.Ek [] e e e))))) (.c0 e i q λ_ _=>.a e e (.dn e (.Xr b e e (.il (.e e (.Ek [] e e e))))) (.a e e (.B λ_ j=>.st e (Ev.iaF e e j) e (.dn e (.a e e (.Xr b e e (.il (.e e (.Ek [] e e e)))) (.R e (λh=>⟨_,h,e,e⟩) (.k [0,5,6,7] []))))) (.dn e (.R e (λh=>⟨_,h,e,e⟩) (.k [0,5,6,7] []))))))))))) (.X b e e (.ir (.n e (.J e (.k [0] [])))))))) λ_=>.st e (Ev.lnF e) e (.Ek [] e e e)
def i_DirMore_1 (N:Nat)(a:Spot)(b:BA):Option (Int):=
 (S_Compare N a.Key b).bind λc=>
 some c
instance i226 (N:Nat)(a:Spot)(b:BA):JI 111 (i_DirMore_1 N a b) [.agg (cSpot0 a []),VS b]:=.st e e Tryz.call111 λB r=>.c0 e i q λ_ _=>.Ek [] e e e
def L_BF_string_i1_l1 (N:Nat)(b:List Spot)(c:BA):Nat->Int->Int->Option (Int)
 |0,_,_=>none
 |m+1,a,d=>
 (if decide (a<d)then
 (intSh .shr .u64 (IntKind.wrap .u64 (w64 (a+d))) 1).bind λf=>
 (at? b (w64 (f))).bind λg=>
 (i_DirMore_1 N g c).bind λh=>
 (if decide (h<0)then
 L_BF_string_i1_l1 N b c m (w64 ((w64 (f))+1)) d
 else
 L_BF_string_i1_l1 N b c m a (w64 (f)))
 else
 some a)
def L_BF_string_i1 (N:Nat)(a:List Spot)(c:BA):Option (Int×Bool):=
 joinP (λ(b:Int)=>
 (if decide (b<(a.length:Int))then
 (at? a b).bind λd=>
 (i_DirMore_1 N d c).bind λf=>
 some (b,(f==0))
 else
 some (b,false))) λg=>
 (L_BF_string_i1_l1 N a c N 0 (a.length:Int)).bind (λh=>g h)
instance i227 (N:Nat)(b:List Spot)(c:BA):JG 110 (L_BF_string_i1 N b c) [RO 85 (b.map encSpot),VS c,.fn 111 []] 0 [] (λr=>.tup [VI r.1,VB r.2]) (λr=>[]):=.st e e Tryz.call110 λB r=>.st e (Ev.lnF e) e (.jk e [0,1,2,8,9] [] (λd=>[.f 9 (VI d)]) (λ_=>e) (λ_=>.K2 e [0,1,2,8,9,10] [] (λg j=>[.f 9 (VI g),.f 10 (VI j)]) (λ_ _=>e) λ_ g j _ l=>.q e (.a e e (.B λ_ m=>.st e (.sh e e m) e (.B λ_ o=>.st e (Ev.iaF e e o) e (.B λ_ p=>.st e (Ev.callx [] [] 0 e (sy p) e e (.cons (.agg (.d4 .nil)) (.d1 .nil)) e (.inl e) e e) e (.a e e (.R e (λh=>⟨_,_,h,e,e⟩) (.k [0,1,2,8,9,10] [])) (.R e (λh=>⟨_,_,h,e,e⟩) (.k [0,1,2,8,9,10] [])))))) (.X l e e (.n e (.J e (.k [0,1,2,8,9] [])))))) λd=>.q e (.a e e (.B λ_ s=>.st e (Ev.iaF e e s) e (.B λ_ t=>.st e (Ev.callx [] [] 0 e (sy t) e e (.cons (.agg (.d4 .nil)) (.d1 .nil)) e (.inl e) e e) e (.Ek [] e e e))) (.Ek [] e e e)))
def L_Delete_Spot (N:Nat)(a:List Spot)(b:Int)(c:Int):Option ((List Spot)):=del? a b c
instance i228 (N:Nat)(a:List Spot)(b:Int)(c:Int):Sem Tryz.prog 113 (L_Delete_Spot N a b c) [.sl 0 85 0 a.length,VI b,VI c] 1 [(0,.vec 85 (a.map encSpot))] (λr=>.sl 1 85 0 r.length) (λr=>[(0,.gone),(1,.vec 85 (r.map encSpot))]):=⟨λr h=>says_del Tryz.call113 Pe.ins113 (λ_=>e) h⟩
def L_Insert_Spot (N:Nat)(a:List Spot)(b:Int)(c:List Spot):Option ((List Spot)):=ins? a b c
instance i229 (N:Nat)(a:List Spot)(c:Int)(b:List Spot):Sem Tryz.prog 114 (L_Insert_Spot N a c b) [.sl 0 85 0 a.length,VI c,.sl 1 85 0 b.length] 2 [(0,.vec 85 (a.map encSpot)),(1,.vec 85 (b.map encSpot))] (λr=>.sl 2 85 0 r.length) (λr=>[(0,.gone),(1,.gone),(2,.vec 85 (r.map encSpot))]):=⟨λr h=>says_ins Tryz.call114 Pe.ins114 (λ_=>e) h⟩
def i_DirMore_l1 (N:Nat)(c:List Spot):Nat->Int->(List Spot)->Option ((List Spot))
 |0,_,_=>none
 |m+1,d,a=>
 (if decide (d<(c.length:Int))then
 (at? c d).bind λf=>
 (L_BF_string_i1 N a f.Key).bind λb=>
 (if(f.Size==(-1:Int))then
 (if b.2 then
 (L_Delete_Spot N a b.1 (w64 (b.1+1))).bind λg=>
 i_DirMore_l1 N c m (w64 (d+1)) g
 else
 i_DirMore_l1 N c m (w64 (d+1)) a)
 else
 (if b.2 then
 (at? a b.1).bind λj=>
 i_DirMore_l1 N c m (w64 (d+1)) (a.set b.1.toNat f)
 else
 (L_Insert_Spot N a b.1 ([f]:List Spot)).bind λh=>
 i_DirMore_l1 N c m (w64 (d+1)) h))
 else
 some a)
def i_DirMore (N:Nat)(a:List Spot)(c:List Spot):Option ((List Spot)×Bool):=
 (i_DirOk N a).bind λd=>
 (if(!d)then
 some ([],false)
 else
 (cat? ([]:List Spot) a).bind λf=>
 joinP (λ(b:List Spot)=>
 (i_DirOk N b).bind λg=>
 (if(!g)then
 some ([],false)
 else
 some (b,true))) λh=>
 (i_DirMore_l1 N c N 0 f).bind (λj=>h j))
instance i230 (N:Nat)(g:List Spot)(l:List Spot):JG 42 (i_DirMore N g l) [RO 85 (g.map encSpot),RO 85 (l.map encSpot)] 0 [] (λr=>.tup [.sl 0 85 0 r.1.length,VB r.2]) (λr=>[(0,.vec 85 (r.1.map encSpot))]):=.st e e Tryz.call42 λB r=>.q e (.c0 e i q λ_ _=>.a e e (.E e e (.n [0,1] [] [0] [] [10000000])) (.B λ_ s=>.st e (Ev.apW (f:=encSpot) (ontoN (f:=encSpot) e) (addsF e) e bt85 e s) e (.j e (λb=>[(6,.sl 0 85 0 b.length)]) (λb=>[(0,.vec 85 (b.map encSpot))]) (λ_=>.st e (Ev.lnF e) e (.K2 e [6,16,17,18] [13304] (λm c=>[.f 6 (.sl 0 85 0 c.length),.f 18 (VI m),.r 0 (.vec 85 (c.map encSpot))]) (λ_ _=>e) λ_ m c _ t=>.q e (.a e e (.q e (.B λo u=>.st e (Ev.iaF e e u) e (.f (hp:=(.cons (.borrow e (by decide) lw) (.d1 (.cons (.fn .nil) .nil)))) (hcase:=λ_=>(.inr ⟨rfl,ownL_root trivial⟩)) [] [0] 0 e i q λ_ _=>.q e (.a' e e (λd=>.a e e (.f [0] [] 1 e i q λ_ _=>.R e (λh=>⟨_,_,h,e,e⟩) (.k [6,16,17,18] [42024])) (.kn e e e d (.R e (λh=>⟨_,_,h,e,e⟩) (.k [6,16,17,18] [0])))) (λd=>.kn e e e d (.a e e (.B λ_ p=>.st e (Ev.iaW e e e p) e (.st e (Ev.stE (f:=encSpot) (v':=o) e e (at_some p).2 e (.d4 .nil) e e e e e) e (.R e (λh=>⟨_,_,h,e,e⟩) (.k [6,16,17,18] [0])))) (.st e (Ev.bsW (ys:=([o]:List Spot)) (f:=encSpot) e (.d4 .nil) e e e e e) e (.f [0,33816] [] 1 e i q λ_ _=>.R e (λh=>⟨_,_,h,e,e⟩) (.k [6,16,17,18] [33832]))))))))) (.X t e e (.n e (.J e (.k [6] [0]))))))) λb=>.q e (.f (hp:=(.cons (.borrow e (by decide) lw) .nil)) (hcase:=λ_=>(.inr ⟨rfl,ownL_root trivial⟩)) [] [0] 0 e i q λ_ _=>.a e e (.E e e (.n [0,1] [] [0] [] [10000000])) (.Ek [0] e e e)))))
def i_OpenShelf_l1 (N:Nat)(c:Disk)(a:Manifest×Bool):Nat->Int->Option ((Shelf×(List Raw)×Int)⊕(Unit))
 |0,_=>none
 |m+1,b=>
 (if decide (b<(a.1.Segs.length:Int))then
 (at? a.1.Segs b).bind λd=>
 (i_SegName N d).bind λf=>
 (i_FileAt N c f).bind λg=>
 (if(!g.2)then
 some (Sum.inl ((Shelf.mk (Manifest.mk ([]) 0 0 0 ([])) ([]) 0),[],3))
 else
 i_OpenShelf_l1 N c a m (w64 (b+1)))
 else
 some (Sum.inr ()))
def i_OpenShelf_l2 (N:Nat)(h:Disk)(b:Manifest×Bool):Nat->Int->Int->(List Raw)->(List Spot)->Option ((Shelf×(List Raw)×Int)⊕(Int×(List Raw)×(List Spot)))
 |0,_,_,_,_=>none
 |m+1,c,j,d,k=>
 (if decide (c<(b.1.Segs.length:Int))then
 (at? b.1.Segs c).bind λf=>
 (i_SegName N f).bind λp=>
 (i_FileAt N h p).bind λa=>
 (i_ScanSeg N a.1 f).bind λl=>
 (i_batchesOf N a.1).bind λg=>
 joinP (λ(y:Unit)=>
 joinP (λ(s:List Raw)=>
 (cat? k l.1).bind λt=>
 i_OpenShelf_l2 N h b m (w64 (c+1)) (imax j l.2.2) s t) λn=>
 (if decide (g.2<(a.1.size:Int))then
 (i_SegName N f).bind λu=>
 (stake? a.1 g.2).bind λw=>
 (cat? d ([(Raw.mk 1 u (⟨#[]⟩:BA) w)]:List Raw)).bind λx=>
 n x
 else
 n d)) λo=>
 (if decide (g.2<(a.1.size:Int))then
 (if(decide (c<(w64 ((b.1.Segs.length:Int)-1))))then
 some (Sum.inl ((Shelf.mk (Manifest.mk ([]) 0 0 0 ([])) ([]) 0),[],4))
 else
 o ())
 else
 o ())
 else
 some (Sum.inr (j,d,k)))
def i_OpenShelf (N:Nat)(b:Disk):Option (Shelf×(List Raw)×Int):=
 (i_DiskOk N b).bind λh=>
 (if(!h)then
 some ((Shelf.mk (Manifest.mk ([]) 0 0 0 ([])) ([]) 0),[],1)
 else
 (i_FileAt N b (⟨#[109]⟩:BA)).bind λf=>
 (i_ReadManifest N f.1).bind λa=>
 (if(!f.2)then
 some ((Shelf.mk (Manifest.mk ([]) 0 0 0 ([])) ([]) 0),[],2)
 else
 (if(!a.2)then
 some ((Shelf.mk (Manifest.mk ([]) 0 0 0 ([])) ([]) 0),[],2)
 else
 joinP (λ(o:Unit)=>
 (i_cleaning N b a.1).bind λj=>
 joinP (λ(c:Int×(List Raw)×(List Spot))=>
 (i_DirMore N ([]:List Spot) c.2.2).bind λg=>
 (if(!g.2)then
 some ((Shelf.mk (Manifest.mk ([]) 0 0 0 ([])) ([]) 0),[],4)
 else
 some ((Shelf.mk a.1 g.1 c.1),c.2.1,0))) λk=>
 (i_OpenShelf_l2 N b a N 0 a.1.Base j ([]:(List Spot))).bind (Sum.elim (λl=>some l) (λ(d:Int×(List Raw)×(List Spot))=>k (d.1,d.2.1,d.2.2)))) λm=>
 (i_OpenShelf_l1 N b a N 0).bind (Sum.elim (λn=>some n) (λ(p:Unit)=>m ())))))
instance i231 (N:Nat)(m:Disk):JG 16 (i_OpenShelf N m) [.agg [RO 93 (m.Files.map encFile)]] 0 [] (λr=>.tup [.agg (cShelf0 r.1 0 1 2 []),.sl 3 79 0 r.2.1.length,VI r.2.2]) (λr=>(rShelf0 r.1 0 1 2 [(3,.vec 79 (r.2.1.map encRaw))])):=.st e e Tryz.call16 λB r=>.q e (.c0 e i q λ_ _=>.a e e (.E e e (.n [0,1,2] [] [0,1] [] [10000000,10000001,10000002,10000064])) (.c0 e i q λ_ _=>.f [] [] 2 e i q λb _=>.q e (.q e (.a e e (.E e e (.n [0,1,2] [] [0,1] [] [10000000,10000001,10000002,10000064])) (.a e e (.E e e (.n [0,1,2] [] [0,1] [] [10000000,10000001,10000002,10000064])) (.jk e [1,2,7] [1000,1016,17464,900003,900004,900005,17400,17401] (λ_=>[.c 1 0 (.sl 3 3 0 (([]:List Int).length)),.c 1 4 (.sl 4 3 0 (([]:List Int).length)),.c 1 5 (.sl 5 85 0 (([]:List Spot).length)),.r 3 (.vec 3 (([]:List Int).map encI)),.r 4 (.vec 3 (([]:List Int).map encI)),.r 5 (.vec 85 (([]:List Spot).map encSpot))]) (λ_=>e) (λ_=>.K1 e [1,2,7,49,50,51] [1000,1016,17464,17400,17401] (λt=>[.f 51 (VI t)]) (λ_=>e) λ_ t _ u=>.q e (.a e e (.q e (.B λ_ w=>.st e (Ev.iaW e e e w) e (.st e (Ev.ldE (f:=encI) e e (at_some w).2 e e e) e (.c0 e i q λ_ _=>.c0 e i q λ_ _=>.dn e (.a e e (.Xr u e e (.il (.e e (.E e e (.n [0,1,2] [] [0,1] [] [10000000,10000001,10000002,10000064]))))) (.R e (λh=>⟨_,h,e,e⟩) (.k [1,2,7,49,50,51] [0,1,2,3,4]))))))) (.X u e e (.ir (.n e (.J e (.n [1,2,7] [0,1,2,3,4] [] [1] [0,1,2,20000000,20000001,20000002,3,4]))))))) λ_=>.f (hp:=(.cons (.agg (.d1 .nil)) (.cons (.agg (.cons (.borrow e (by decide) lw) (.d2 (.d1 (.cons (.borrow e (by decide) lw) .nil))))) .nil))) (hcase:=λ_=>(.inr ⟨rfl,ownL_root ⟨own_rows (λ_=>e) _,trivial⟩⟩)) [] [6,7] 1 e i q λ_ _=>.j e (λd=>[(2,.ptr 0 0),(13,.ptr 1 0),(14,.sl 2 79 0 d.2.1.length),(15,.sl 3 85 0 d.2.2.length)]) (λd=>((0,.box [.sl 4 3 0 (([]:(List Int)).length),VI 0,VI 0,VI 0,.sl 5 3 0 (([]:(List Int)).length),.sl 6 85 0 (([]:(List Spot)).length),VI 0])::(1,.box (cManifest1 b.1 7 8 [.sl 9 85 0 (([]:(List Spot)).length),VI d.1]))::(2,.vec 79 (d.2.1.map encRaw))::(3,.vec 85 (d.2.2.map encSpot))::(4,.vec 3 (([]:(List Int)).map encI))::(5,.vec 3 (([]:(List Int)).map encI))::(6,.vec 85 (([]:(List Spot)).map encSpot))::(rManifest0 b.1 7 8 [(9,.vec 85 (([]:(List Spot)).map encSpot))]))) (λ_=>.L4 e (λo p g l=>[(1,.ptr 0 0),(2,.ptr 1 0),(7,.ptr 2 0),(13,.ptr 3 0),(14,.sl 4 79 0 g.length),(15,.sl 5 85 0 l.length),(74,.sl 6 3 0 b.1.Segs.length),(75,VI (b.1.Segs.length:Int)),(76,VI o)]) (λo p g l=>[(0,.box [RO 93 (m.Files.map encFile)]),(1,.box [.sl 7 3 0 (([]:(List Int)).length),VI 0,VI 0,VI 0,.sl 8 3 0 (([]:(List Int)).length),.sl 9 85 0 (([]:(List Spot)).length),VI 0]),(2,.box (cManifest1 b.1 6 10 [])),(3,.box (cManifest1 b.1 6 10 [.sl 11 85 0 (([]:(List Spot)).length),VI p])),(4,.vec 79 (g.map encRaw)),(5,.vec 85 (l.map encSpot)),(6,.vec 3 (b.1.Segs.map encI)),(7,.vec 3 (([]:(List Int)).map encI)),(8,.vec 3 (([]:(List Int)).map encI)),(9,.vec 85 (([]:(List Spot)).map encSpot)),(10,.vec 3 (b.1.Conf.map encI)),(11,.vec 85 (([]:(List Spot)).map encSpot))]) (.n [1,2,7,13,14,15,74,75,76] [0,1,2,58408,62472,6,3,4,5,7] [15] [58408] [0,1,2,58408,62472,10000000,6,3,4,5,7,20000000]) λ_ o p g l _ x=>.q e (.a e e (.q e (.B λ_ y=>.st e (Ev.iaW e e e y) e (.st e (Ev.ldE (f:=encI) e e (at_some y).2 e e e) e (.c0 e i q λ_ _=>.c0 e i q λ_ _=>.dn e (.f [] [] 2 e i q λ_ _=>.c1 e i q λ_ _=>.jk e [1,2,7,13,14,15,17,18,20,22,24,74,75,76] [0,1,2,3,4,5,87048,6,7,8,9,10,11] (λ_=>[]) (λ_=>e) (λ_=>.q e (.a e e (.a e e (.Xr x e e (.il (.e e (.E e e (.n [0,1,2] [] [0,1] [] [10000000,10000001,10000002,10000064]))))) (.J e (.k [1,2,7,13,14,15,17,18,20,22,24,74,75,76] [0,1,2,3,4,5,87048,6,7,8,9,10,11]))) (.J e (.k [1,2,7,13,14,15,17,18,20,22,24,74,75,76] [0,1,2,3,4,5,87048,6,7,8,9,10,11])))) λ_=>.jk e [1,2,7,13,14,15,20,22,74,75,76] [0,1,2,3,4,5,6,7,8,9,10,11,12] (λs=>[.f 14 (.sl 4 79 0 s.length),.r 4 (.vec 79 (s.map encRaw))]) (λ_=>e) (λ_=>.a e e (.c0 e i q λv _=>.B λz a0=>.st e (Ev.ssH e e a0) e (.st e (Ev.bsW (ys:=([(Raw.mk 1 v (⟨#[]⟩:BA) z)]:List Raw)) (f:=encRaw) e (.d4 .nil) e e e e e) e (.B λ_ a1=>.st e (Ev.apW (f:=encRaw) (ontoW e e e) (addsW e e e (λ_=>e)) e bt79 e a1) e (.dn e (.J e (.k [1,2,7,13,14,15,20,22,74,75,76] [0,1,2,3,107624,5,6,7,8,9,10,11,12])))))) (.J e (.k [1,2,7,13,14,15,20,22,74,75,76] [0,1,2,3,4,5,6,7,8,9,10,11,12]))) λs=>.B λ_ a2=>.st e (Ev.apW (f:=encSpot) (ontoW e e e) (addsW e e e (λ_=>e)) e bt85 e a2) e (.R e (λh=>⟨_,_,_,_,h,e,e⟩) (.k [1,2,7,13,14,15,74,75,76] [0,1,2,3,4,111624,7,8,9,10,11,12]))))))) (.X x e e (.ir (.n e (.J e (.k [2,13,14,15] [1,3,4,5,7,8,9,6,10,11]))))))) λd=>.f (hp:=(.cons (.nil _ _) (.cons (.borrow e (by decide) lw) .nil))) (hcase:=λ_=>(.inr ⟨rfl,ownL_root ⟨own_rows (λ_=>e) _,trivial⟩⟩)) [] [3] 1 e i q λ_ _=>.q e (.a e e (.E e e (.n [0,1,2] [] [0,1] [] [10000000,10000001,10000002,10000064])) (.Ek [7,8,123896,2] e e e))))))))
def i_readStart (N:Nat)(d:BA):Option (Log×Bool):=
 (r_byte N (Treader.mk d 0 false)).bind λc=>
 (r_num N c.2).bind λa=>
 (r_num N a.2).bind λb=>
 (if(c.1==83)then
 (r_done N b.2).bind λf=>
 some ((Log.mk a.1 b.1 ([])),f)
 else
 some ((Log.mk a.1 b.1 ([])),false))
instance i232 (N:Nat)(b:BA):JG 45 (i_readStart N b) [VS b] 0 [] (λr=>.tup [.agg [VI r.1.Start,VI r.1.StartTerm,.sl 0 91 0 r.1.Entries.length],VB r.2]) (λr=>[(0,.vec 91 (r.1.Entries.map encEntry))]):=.st e e Tryz.call45 λB r=>.f [5128] [] 0 e i q λ_ _=>.f [5128] [] 0 e i q λ_ _=>.f [5128] [] 0 e i q λ_ _=>.q e (.a e e (.f [5128] [] 0 e i q λ_ _=>.dn e (.E e e (.n [0,1] [] [0] [] [10000000]))) (.dn e (.E e e (.n [0,1] [] [0] [] [10000000]))))
def i_ReadConf_l1 (N:Nat)(a:BA):Nat->Int->(List Int)->Option ((List Int))
 |0,_,_=>none
 |m+1,b,c=>
 (if decide (b<(a.size:Int))then
 (sat? a b).bind λd=>
 (cat? c ([w64 (d)]:List Int)).bind λf=>
 i_ReadConf_l1 N a m (w64 (b+1)) f
 else
 some c)
def i_ReadConf (N:Nat)(b:BA):Option ((List Int)×Bool):=
 joinP (λ(a:List Int)=>
 (i_ConfOk N a).bind λc=>
 (if(!c)then
 some ([],false)
 else
 some (a,true))) λd=>
 (i_ReadConf_l1 N b N 0 ([]:(List Int))).bind (λf=>d f)
instance i233 (N:Nat)(d:BA):JG 203 (i_ReadConf N d) [VS d] 0 [] (λr=>.tup [.sl 0 3 0 r.1.length,VB r.2]) (λr=>[(0,.vec 3 (r.1.map encI))]):=.st e e Tryz.call203 λB r=>.j e (λb=>[(4,.sl 0 3 0 b.length)]) (λb=>[(0,.vec 3 (b.map encI))]) (λ_=>.L2 e (λg c=>[(0,VS d),(4,.sl 0 3 0 c.length),(5,VI g)]) (λg c=>[(0,.vec 3 (c.map encI))]) (.n [0,4,5] [] [4] [] [10000000]) λ_ g c _ l=>.q e (.a e e (.B λm o=>.st e (Ev.ixS e e o) e (.st e (Ev.bsW (ys:=([w64 (m)]:List Int)) (f:=encI) e (.d1 .nil) e e e e e) e (.B λ_ p=>.st e (Ev.apW (f:=encI) (ontoW e e e) (addsW e e e (λ_=>e)) e bt3 e p) e (.R e (λh=>⟨_,_,h,e,e⟩) (.k [0,4,5] [21576]))))) (.X l e e (.n e (.J e (.k [4] [0])))))) λb=>.q e (.f (hp:=(.cons (.borrow e (by decide) lw) .nil)) (hcase:=λ_=>(.inr ⟨rfl,ownL_root trivial⟩)) [] [0] 0 e i q λ_ _=>.a e e (.E e e (.n [0,1] [] [0] [] [10000000])) (.Ek [0] e e e))
def i_EntryOk (N:Nat)(a:Entry):Option (Bool):=
 (i_within N a.Term 0 100000).bind λb=>
 (if(!b)then
 some false
 else
 (if(a.Kind==1)then
 some (decide (a.Data=(⟨#[]⟩:BA)))
 else
 (if(a.Kind==2)then
 (i_ReadConf N a.Data).bind λc=>
 some c.2
 else
 (if(a.Kind==3)then
 some (decide ((a.Data.size:Int)<=120))
 else
 some false))))
instance i234 (N:Nat)(b:Entry):JB 119 (i_EntryOk N b) [.agg [VI b.Term,VI b.Kind,VS b.Data]]:=.st e e Tryz.call119 λB r=>.q e (.c0 e i q λ_ _=>.a e e (.Ek [] e e e) (.q e (.a e e (.Ek [] e e e) (.a e e (.c1 e i q λ_ _=>.Ek [] e e e) (.a e e (.Ek [] e e e) (.Ek [] e e e))))))
def i_ReadEntry (N:Nat)(d:BA):Option (Int×Entry×Bool):=
 (r_byte N (Treader.mk d 0 false)).bind λf=>
 (r_num N f.2).bind λb=>
 (r_num N b.2).bind λc=>
 (r_byte N c.2).bind λa=>
 (if a.2.bad then
 some (0,(Entry.mk 0 0 (⟨#[]⟩:BA)),false)
 else
 (if(f.1 !=69)then
 some (0,(Entry.mk 0 0 (⟨#[]⟩:BA)),false)
 else
 (sdrop? d a.2.at').bind λg=>
 (i_EntryOk N (Entry.mk c.1 a.1 g)).bind λh=>
 (if(!h)then
 some (0,(Entry.mk 0 0 (⟨#[]⟩:BA)),false)
 else
 (i_within N b.1 1 100000).bind λj=>
 (if(!j)then
 some (0,(Entry.mk 0 0 (⟨#[]⟩:BA)),false)
 else
 some (b.1,(Entry.mk c.1 a.1 g),true)))))
instance i235 (N:Nat)(b:BA):JG 46 (i_ReadEntry N b) [VS b] 0 [] (λr=>.tup [VI r.1,.agg [VI r.2.1.Term,VI r.2.1.Kind,VS r.2.1.Data],VB r.2.2]) (λr=>[]):=.st e e Tryz.call46 λB r=>.f [5128] [] 0 e i q λ_ _=>.f [5128] [] 0 e i q λ_ _=>.f [5128] [] 0 e i q λ_ _=>.f [5128] [] 0 e i q λ_ _=>.q e (.q e (.a e e (.Ek [] e e e) (.a e e (.Ek [] e e e) (.B λ_ c=>.st e (Ev.ssL e e c) e (.q e (.q e (.c0 e i q λ_ _=>.a e e (.Ek [] e e e) (.c0 e i q λ_ _=>.a e e (.Ek [] e e e) (.dn e (.Ek [] e e e))))))))))
def i_LogOk_l1 (N:Nat)(a:Log):Nat->Int->Int->Option ((Bool)⊕(Unit))
 |0,_,_=>none
 |m+1,d,b=>
 (if decide (b<(a.Entries.length:Int))then
 (at? a.Entries b).bind λc=>
 (i_EntryOk N c).bind λf=>
 (if(!f)then
 some (Sum.inl false)
 else
 (if decide (c.Term<d)then
 some (Sum.inl false)
 else
 i_LogOk_l1 N a m c.Term (w64 (b+1))))
 else
 some (Sum.inr ()))
def i_LogOk_l1_r (N:Nat)(d:Log):(List Entry)->Int->Int->Option ((Bool)⊕(Unit))
 |[],b,c=>
 some (Sum.inr ())
 |hd::tl,b,c=>
 (some hd).bind λa=>
 (i_EntryOk N a).bind λf=>
 (if(!f)then
 some (Sum.inl false)
 else
 (if decide (a.Term<b)then
 some (Sum.inl false)
 else
 i_LogOk_l1_r N d tl a.Term (w64 (c+1))))
theorem i_LogOk_l1_rng (N:Nat)(a:Log)(hx:a.Entries.length<=1099511627776):∀(d k m:Nat)(b:Int),a.Entries.length=k+d->d<m->i_LogOk_l1 N a m b (k:Int)=i_LogOk_l1_r N a (a.Entries.drop k) b (k:Int):=by
 intro d
 induction d with
 |zero=>
  intro k m b hd hm
  obtain⟨m,rfl⟩:∃q,m=q+1:=⟨m-1,by omega⟩
  rw[i_LogOk_l1,IQ (by simp;omega),DN (by omega),i_LogOk_l1_r]
 |succ d ih=>
  intro k m b hd hm
  obtain⟨m,rfl⟩:∃q,m=q+1:=⟨m-1,by omega⟩
  have hk:k<a.Entries.length:=by omega
  rw[i_LogOk_l1,IP (by simp;omega),DG hk,i_LogOk_l1_r]
  have c:=at_lt hk
  have f:=WS (k:=k) (by omega)
  have g:=ih (k+1) m
  simp only[c,f,g _ (by omega) (by omega)]
theorem i_LogOk_l1_eq {N:Nat}(a:Log)(hx:a.Entries.length<=1099511627776)(hN:a.Entries.length<N)(b:Int):i_LogOk_l1 N a N b 0=i_LogOk_l1_r N a a.Entries b 0:=i_LogOk_l1_rng N a hx a.Entries.length 0 N b (by omega) hN
def i_LogOk (N:Nat)(a:Log):Option (Bool):=
 (i_within N a.Start 0 100000).bind λb=>
 (if(!b)then
 some false
 else
 (i_within N a.StartTerm 0 100000).bind λc=>
 (if(!c)then
 some false
 else
 (if decide ((a.Entries.length:Int)>120)then
 some false
 else
 (if(decide ((w64 (a.Start+(a.Entries.length:Int)))>100000))then
 some false
 else
 joinP (λ(g:Unit)=>
 some true) λd=>
 (i_LogOk_l1 N a N a.StartTerm 0).bind (Sum.elim (λf=>some f) (λ(h:Unit)=>d ()))))))
instance i236 (N:Nat)(b:Log):JB 48 (i_LogOk N b) [.agg [VI b.Start,VI b.StartTerm,RO 91 (b.Entries.map encEntry)]]:=.st e e Tryz.call48 λB r=>.q e (.q e (.c0 e i q λ_ _=>.a e e (.Ek [] e e e) (.c0 e i q λ_ _=>.a e e (.Ek [] e e e) (.st e (Ev.lnF e) e (.a e e (.Ek [] e e e) (.st e (Ev.lnF e) e (.a e e (.Ek [] e e e) (.j e (λ_=>[]) (λ_=>[]) (λ_=>.st e (Ev.lnF e) e (.K2 e [3,34,35,36] [] (λd g=>[.f 3 (VI d),.f 36 (VI g)]) (λ_ _=>e) λ_ d g _ c=>.q e (.a e e (.q e (.B λ_ l=>.st e (Ev.iaF e e l) e (.q e (.q e (.c0 e i q λ_ _=>.a e e (.Xr c e e (.il (.e e (.Ek [] e e e)))) (.a e e (.Xr c e e (.il (.e e (.Ek [] e e e)))) (.R e (λh=>⟨_,_,h,e,e⟩) (.k [3,34,35,36] [])))))))) (.X c e e (.ir (.n e (.J e (.k [] [])))))))) λ_=>.Ek [] e e e))))))))
def i_ReadLog_l1 (N:Nat)(d:(List BA)×Int):Nat->Int->Int->Int->(List Entry)->Option ((Log×Int×Bool)⊕(Int×Int×(List Entry)))
 |0,_,_,_,_=>none
 |m+1,a,b,h,f=>
 (if decide (a<(d.1.length:Int))then
 (at? d.1 a).bind λj=>
 (i_readStart N j).bind λg=>
 (if g.2 then
 i_ReadLog_l1 N d m (w64 (a+1)) g.1.Start g.1.StartTerm g.1.Entries
 else
 (i_ReadEntry N j).bind λc=>
 (if(!c.2.2)then
 some (Sum.inl ((Log.mk 0 0 ([])),0,false))
 else
 (if(a==0)then
 some (Sum.inl ((Log.mk 0 0 ([])),0,false))
 else
 (i_within N (w64 (c.1-b)) 1 (w64 ((f.length:Int)+1))).bind λk=>
 (if(!k)then
 some (Sum.inl ((Log.mk 0 0 ([])),0,false))
 else
 (take? f (w64 ((w64 (c.1-b))-1))).bind λn=>
 (cat? (f.take ((w64 ((w64 (c.1-b))-1)).toNat)) ([c.2.1]:List Entry)).bind λl=>
 i_ReadLog_l1 N d m (w64 (a+1)) b h l))))
 else
 some (Sum.inr (b,h,f)))
def i_ReadLog (N:Nat)(d:BA):Option (Log×Int×Bool):=
 (i_Unframe N d).bind λb=>
 joinP (λ(a:Int×Int×(List Entry))=>
 (if((b.1.length:Int)==0)then
 some ((Log.mk 0 0 ([])),0,false)
 else
 (i_LogOk N (Log.mk a.1 a.2.1 a.2.2)).bind λf=>
 (if(!f)then
 some ((Log.mk 0 0 ([])),0,false)
 else
 some ((Log.mk a.1 a.2.1 a.2.2),b.2,true)))) λg=>
 (i_ReadLog_l1 N b N 0 0 0 ([]:(List Entry))).bind (Sum.elim (λh=>some h) (λ(c:Int×Int×(List Entry))=>g (c.1,c.2.1,c.2.2)))
instance i237 (N:Nat)(p:BA):JG 18 (i_ReadLog N p) [VS p] 0 [] (λr=>.tup [.agg [VI r.1.Start,VI r.1.StartTerm,.sl 0 91 0 r.1.Entries.length],VI r.2.1,VB r.2.2]) (λr=>[(0,.vec 91 (r.1.Entries.map encEntry))]):=.st e e Tryz.call18 λB r=>.c1 e i q λb _=>.jk e [2,5,6,7] [1000,5112,9192,900003,900004] (λd=>[.c 0 2 (.sl 3 91 0 (([]:(List Entry)).length)),.r 2 (.box [VI d.1,VI d.2.1,.sl 4 91 0 d.2.2.length]),.r 3 (.vec 91 (([]:(List Entry)).map encEntry)),.r 4 (.vec 91 (d.2.2.map encEntry))]) (λ_=>e) (λ_=>.L4 e (λl m o g=>[(2,.ptr 0 0),(5,.sl 1 9 0 b.1.length),(6,VI b.2),(7,.ptr 2 0),(20,.sl 1 9 0 b.1.length),(21,VI (b.1.length:Int)),(22,VI l)]) (λl m o g=>[(0,.box [VI 0,VI 0,.sl 3 91 0 (([]:(List Entry)).length)]),(1,.vec 9 (b.1.map encS)),(2,.box [VI m,VI o,.sl 4 91 0 g.length]),(3,.vec 91 (([]:(List Entry)).map encEntry)),(4,.vec 91 (g.map encEntry))]) (.n [2,5,6,7,20,21,22] [1000,5112,9192] [] [1000,9192] [1000,5112,9192,20000000,20000064]) λ_ l m o g _ j=>.q e (.a e e (.q e (.B λ_ s=>.st e (Ev.iaW e e e s) e (.st e (Ev.ldE (f:=encS) e e (at_some s).2 e e e) e (.q e (.c1 e i q λ_ _=>.a e e (.R e (λh=>⟨_,_,_,_,h,e,e⟩) (.k [2,5,6,7,20,21,22] [0,1,2,3,25592])) (.c0 e i q λu _=>.q e (.q e (.a e e (.Xr j e e (.il (.e e (.E e e (.n [0,1,2] [] [0] [] [10000000]))))) (.a e e (.Xr j e e (.il (.e e (.E e e (.n [0,1,2] [] [0] [] [10000000]))))) (.c0 e i q λ_ _=>.a e e (.Xr j e e (.il (.e e (.E e e (.n [0,1,2] [] [0] [] [10000000]))))) (.B λ_ t=>.st e (Ev.s3W (xs:=g) e e e e t) e (.st e (Ev.bsW (ys:=([u.2.1]:List Entry)) (f:=encEntry) e (.d2 (.d1 .nil)) e e e e e) e (.B λ_ w=>.st e (Ev.ap3W (f:=encEntry) e e (λ_=>e) (take_le t) (addsW e e e (λ_=>e)) (Nat.succ_pos _) e bt91 e w) e (.dn e (.R e (λh=>⟨_,_,_,_,h,e,e⟩) (.k [2,5,6,7,20,21,22] [0,1,2,3,50392])))))))))))))))) (.X j e e (.ir (.n e (.J e (.k [2,5,6,7] [0,1,2,3,4]))))))) λd=>.q e (.q e (.a e e (.E e e (.n [0,1,2] [] [0] [] [10000000])) (.f (hp:=(.cons (.agg (.d2 (.cons (.borrow e (by decide) lw) .nil))) .nil)) (hcase:=λ_=>(.inr ⟨rfl,ownL_root trivial⟩)) [] [4] 0 e i q λ_ _=>.a e e (.E e e (.n [0,1,2] [] [0] [] [10000000])) (.Ek [4] e e e))))
def i_hasEntry (N:Nat)(a:Log)(b:Int):Option (Bool):=
 (if decide (b>a.Start)then
 (i_within N (w64 (b-a.Start)) 1 (a.Entries.length:Int)).bind λc=>
 some c
 else
 some false)
instance i238 (N:Nat)(b:Log)(c:Int):JB 120 (i_hasEntry N b c) [.agg [VI b.Start,VI b.StartTerm,RO 91 (b.Entries.map encEntry)],VI c]:=.st e e Tryz.call120 λB r=>.q e (.a e e (.st e (Ev.lnF e) e (.c0 e i q λ_ _=>.Ek [] e e e)) (.Ek [] e e e))
def i_LogTerm (N:Nat)(a:Log)(b:Int):Option (Int):=
 (if(b==a.Start)then
 some a.StartTerm
 else
 (i_hasEntry N a b).bind λc=>
 (if c then
 (at? a.Entries (w64 ((w64 (b-a.Start))-1))).bind λd=>
 some d.Term
 else
 some (-1:Int)))
instance i239 (N:Nat)(b:Log)(c:Int):JI 49 (i_LogTerm N b c) [.agg [VI b.Start,VI b.StartTerm,RO 91 (b.Entries.map encEntry)],VI c]:=.st e e Tryz.call49 λB r=>.q e (.a e e (.Ek [] e e e) (.c0 e i q λ_ _=>.a e e (.B λ_ d=>.st e (Ev.iaF e e d) e (.Ek [] e e e)) (.Ek [] e e e)))
def i_last (N:Nat)(a:Log):Option (Int):=
 some (w64 (a.Start+(a.Entries.length:Int)))
instance i240 (N:Nat)(a:Log):JI 50 (i_last N a) [.agg [VI a.Start,VI a.StartTerm,RO 91 (a.Entries.map encEntry)]]:=.st e e Tryz.call50 λB r=>.st e (Ev.lnF e) e (.Ek [] e e e)
def i_LogBehind (N:Nat)(a:Log)(b:Int)(d:Int):Option (Log):=
 joinP (λ(f:List Entry)=>
 some (Log.mk b d f)) λc=>
 (i_LogOk N a).bind λg=>
 (if g then
 (i_LogTerm N a b).bind λh=>
 (if(h==d)then
 (i_last N a).bind λj=>
 (i_within N b a.Start j).bind λk=>
 (if k then
 (drop? a.Entries (w64 (b-a.Start))).bind λl=>
 (cat? ([]:List Entry) l).bind λm=>
 c m
 else
 c ([]:(List Entry)))
 else
 c ([]:(List Entry)))
 else
 c ([]:(List Entry)))
instance i241 (N:Nat)(b:Log)(g:Int)(h:Int):JG 19 (i_LogBehind N b g h) [.agg [VI b.Start,VI b.StartTerm,RO 91 (b.Entries.map encEntry)],VI g,VI h] 0 [] (λr=>.agg [VI r.Start,VI r.StartTerm,.sl 0 91 0 r.Entries.length]) (λr=>[(0,.vec 91 (r.Entries.map encEntry))]):=.st e e Tryz.call19 λB r=>.jk e [6,7] [1016,5144,900002] (λd=>[.c 1 2 (.sl 2 91 0 d.length),.r 2 (.vec 91 (d.map encEntry))]) (λ_=>e) (λ_=>.q e (.c0 e i q λ_ _=>.a e e (.c0 e i q λ_ _=>.a e e (.c0 e i q λ_ _=>.c0 e i q λ_ _=>.dn e (.a e e (.B λ_ j=>.st e (Ev.slFl e e j) e (.B λ_ l=>.st e (Ev.apW (f:=encEntry) (ontoN (f:=encEntry) e) (addsF e) e bt91 e l) e (.dn e (.J e (.k [6,7] [1016,5144,13432]))))) (.J e (.n [6,7] [1016,5144] [] [5144] [1016,5144,20000000])))) (.dn e (.J e (.n [6,7] [1016,5144] [] [5144] [1016,5144,20000000])))) (.dn e (.J e (.n [6,7] [1016,5144] [] [5144] [1016,5144,20000000]))))) λd=>.Ek [2] e e e
def i_VoteText (N:Nat)(a:Int)(b:Int):Option (BA×Bool):=
 (i_within N a 0 100000).bind λd=>
 (if(!d)then
 some ((⟨#[]⟩:BA),false)
 else
 (i_within N b 0 4).bind λf=>
 (if(!f)then
 some ((⟨#[]⟩:BA),false)
 else
 (i_vars N ([a,b]:List Int)).bind λg=>
 (i_Frame N g.1).bind λc=>
 some (c.1,c.2)))
instance i242 (N:Nat)(b:Int)(c:Int):JG 52 (i_VoteText N b c) [VI b,VI c] 0 [] (λr=>.tup [VS r.1,VB r.2]) (λr=>[]):=.st e e Tryz.call52 λB r=>.q e (.q e (.c0 e i q λ_ _=>.a e e (.Ek [] e e e) (.c0 e i q λ_ _=>.a e e (.Ek [] e e e) (.st e (Ev.bsW (ys:=([b,c]:List Int)) (f:=encI) e (.d2 .nil) e e e e e) e (.f (hp:=(.cons (.borrow e (by decide) lw) .nil)) (hcase:=λ_=>(.inr ⟨rfl,ownL_root trivial⟩)) [] [13320] 0 e i q λ_ _=>.c0 e i q λ_ _=>.Ek [] e e e)))))
def i_ReadVotes_l1 (N:Nat)(a:(List BA)×Int):Nat->Int->Int->Bool->Int->Option (Int×Int×Bool)
 |0,_,_,_,_=>none
 |m+1,b,c,d,f=>
 (if decide (f<(a.1.length:Int))then
 (at? a.1 f).bind λj=>
 (r_num N (Treader.mk j 0 false)).bind λg=>
 (r_num N g.2).bind λh=>
 (i_VoteText N g.1 h.1).bind λk=>
 (r_done N h.2).bind λl=>
 (if(!l)then
 some (b,c,d)
 else
 (if(!k.2)then
 some (b,c,d)
 else
 i_ReadVotes_l1 N a m g.1 h.1 true (w64 (f+1))))
 else
 some (b,c,d))
def i_ReadVotes (N:Nat)(d:BA):Option (Int×Int×Int):=
 (i_Unframe N d).bind λc=>
 joinP (λ(a:Int×Int×Bool)=>
 (if(!a.2.2)then
 some (0,0,0)
 else
 some (a.1,a.2.1,c.2))) λf=>
 (i_ReadVotes_l1 N c N 0 0 false 0).bind (λb=>f (b.1,b.2.1,b.2.2))
instance i243 (N:Nat)(d:BA):JG 20 (i_ReadVotes N d) [VS d] 0 [] (λr=>.tup [VI r.1,VI r.2.1,VI r.2.2]) (λr=>[]):=.st e e Tryz.call20 λB r=>.c1 e i q λs _=>.j e (λb=>[(6,VI s.2),(7,VI b.1),(8,VI b.2.1),(9,VB b.2.2)]) (λb=>[]) (λ_=>.K4 e [6,7,8,9,22,23,24] [5112] (λg l m o=>[.f 7 (VI g),.f 8 (VI l),.f 9 (VB m),.f 24 (VI o)]) (λ_ _ _ _=>e) λ_ g l m o _ c=>.q e (.a e e (.q e (.B λ_ p=>.st e (Ev.iaW e e e p) e (.st e (Ev.ldE (f:=encS) e e (at_some p).2 e e e) e (.f [25608] [] 0 e i q λ_ _=>.f [25608] [] 0 e i q λ_ _=>.c0 e i q λ_ _=>.q e (.q e (.f [25608] [] 0 e i q λ_ _=>.a e e (.X c e e (.n e (.J e (.k [6,7,8,9] [])))) (.a e e (.X c e e (.n e (.J e (.k [6,7,8,9] [])))) (.R e (λh=>⟨_,_,_,_,h,e,e⟩) (.k [6,7,8,9,22,23,24] [0]))))))))) (.X c e e (.n e (.J e (.k [6,7,8,9] [])))))) λb=>.q e (.a e e (.Ek [] e e e) (.Ek [] e e e))
def i_LogLast (N:Nat)(a:Log):Option (Int×Int):=
 (if((a.Entries.length:Int)==0)then
 some (a.Start,a.StartTerm)
 else
 (at? a.Entries (w64 ((a.Entries.length:Int)-1))).bind λb=>
 some (w64 (a.Start+(a.Entries.length:Int)),b.Term))
instance i244 (N:Nat)(b:Log):JG 55 (i_LogLast N b) [.agg [VI b.Start,VI b.StartTerm,RO 91 (b.Entries.map encEntry)]] 0 [] (λr=>.tup [VI r.1,VI r.2]) (λr=>[]):=.st e e Tryz.call55 λB r=>.st e (Ev.lnF e) e (.q e (.a e e (.dn e (.Ek [] e e e)) (.B λ_ c=>.st e (Ev.iaF e e c) e (.dn e (.Ek [] e e e)))))
def i_ConfAt_l1 (N:Nat)(b:Node)(d:Int):Nat->Int->Option (((List Int))⊕(Unit))
 |0,_=>none
 |m+1,a=>
 (if decide (a>=0)then
 joinP (λ(h:Unit)=>
 i_ConfAt_l1 N b d m (w64 (a-1))) λc=>
 (at? b.Log.Entries a).bind λf=>
 (i_ReadConf N f.Data).bind λg=>
 (if g.2 then
 (if(f.Kind==2)then
 (if(decide ((w64 ((w64 (b.Log.Start+a))+1))<=d))then
 some (Sum.inl g.1)
 else
 c ())
 else
 c ())
 else
 c ())
 else
 some (Sum.inr ()))
def i_ConfAt (N:Nat)(a:Node)(b:Int):Option ((List Int)):=
 joinP (λ(g:Unit)=>
 (cat? ([]:List Int) a.Conf).bind λc=>
 some c) λd=>
 (i_ConfAt_l1 N a b N (w64 ((a.Log.Entries.length:Int)-1))).bind (Sum.elim (λf=>some f) (λ(h:Unit)=>d ()))
instance i245 (N:Nat)(b:Node)(c:Int):JG 248 (i_ConfAt N b c) [.agg (cNode0 b []),VI c] 0 [] (λr=>.sl 0 3 0 r.length) (λr=>[(0,.vec 3 (r.map encI))]):=.st e e Tryz.call248 λB r=>.jk e [2] [1000] (λ_=>[]) (λ_=>e) (λ_=>.st e (Ev.lnF e) e (.K1 e [1,2,5] [1000] (λd=>[.f 5 (VI d)]) (λ_=>e) λ_ d _ g=>.q e (.a e e (.jk e [1,2,5] [0] (λ_=>[]) (λ_=>e) (λ_=>.B λ_ j=>.st e (Ev.iaF e e j) e (.c1 e i q λ_ _=>.q e (.a e e (.a e e (.a e e (.Xr g e e (.il (.e e (.Ek [21512] e e e)))) (.J e (.k [1,2,5] [0]))) (.J e (.k [1,2,5] [0]))) (.J e (.k [1,2,5] [0]))))) λ_=>.R e (λh=>⟨_,h,e,e⟩) (.k [1,2,5] [0])) (.X g e e (.ir (.n e (.J e (.k [2] [0])))))))) λ_=>.B λ_ l=>.st e (Ev.apW (f:=encI) (ontoN (f:=encI) e) (addsF e) e bt3 e l) e (.Ek [33800] e e e)
def i_ConfOf (N:Nat)(a:Node):Option ((List Int)):=
 (i_ConfAt N a 9223372036854775807).bind λb=>
 some b
instance i246 (N:Nat)(a:Node):JG 205 (i_ConfOf N a) [.agg (cNode0 a [])] 0 [] (λr=>.sl 0 3 0 r.length) (λr=>[(0,.vec 3 (r.map encI))]):=.st e e Tryz.call205 λB r=>.c1 e i q λ_ _=>.Ek [5112] e e e
def i_othersOf_1 (N:Nat)(a:Int)(b:Node):Option (Bool):=
 some (a==b.Id)
instance i247 (N:Nat)(b:Int)(a:Node):JG 206 (i_othersOf_1 N b a) [VI b,.ptr 0 0] 1 [(0,.box (cNode0 a []))] (λr=>VB r) (λr=>[(0,.box (cNode0 a []))]):=.st e e Tryz.call206 λB r=>.Ek [0] e e e
def L_IF_int_i2_l1 (N:Nat)(b:List Int)(c:Node):Nat->Int->Option ((Int)⊕(Unit))
 |0,_=>none
 |m+1,a=>
 (if decide (a<(b.length:Int))then
 (at? b a).bind λd=>
 (i_othersOf_1 N d c).bind λf=>
 (if f then
 some (Sum.inl a)
 else
 L_IF_int_i2_l1 N b c m (w64 (a+1)))
 else
 some (Sum.inr ()))
def L_IF_int_i2 (N:Nat)(a:List Int)(b:Node):Option (Int):=
 joinP (λ(f:Unit)=>
 some (-1:Int)) λc=>
 (L_IF_int_i2_l1 N a b N 0).bind (Sum.elim (λd=>some d) (λ(g:Unit)=>c ()))
instance i249 (N:Nat)(b:List Int)(c:Node):JG 192 (L_IF_int_i2 N b c) [.sl 0 3 0 b.length,.fn 206 [.ptr 1 0]] 2 [(0,.vec 3 (b.map encI)),(1,.box (cNode0 c []))] (λr=>VI r) (λr=>[(0,.vec 3 (b.map encI)),(1,.box (cNode0 c []))]):=.st e e Tryz.call192 λB r=>.jk e [] [0,1] (λ_=>[]) (λ_=>e) (λ_=>.K1 e [0,1,7,8] [0,1] (λd=>[.f 8 (VI d)]) (λ_=>e) λ_ d _ g=>.q e (.a e e (.q e (.B λ_ j=>.st e (Ev.iaW e e e j) e (.st e (Ev.ldE (f:=encI) e e (at_some j).2 e e e) e (.B λ_ l=>.st e (Ev.callx [1] [] 0 e (sy l) e e (.d1 (.cons (.ptr e) .nil)) e (.inl e) e e) e (.a e e (.Xr g e e (.il (.e e (.Ek [0,1] e e e)))) (.R e (λh=>⟨_,h,e,e⟩) (.k [0,1,7,8] [0,1]))))))) (.X g e e (.ir (.n e (.J e (.k [] [0,1]))))))) λ_=>.Ek [0,1] e e e
def L_DeleteFunc_int_l1 (N:Nat)(d:Node):Nat->Int->Int->(List Int)->Option (Int×(List Int))
 |0,_,_,_=>none
 |m+1,b,c,a=>
 (if decide (c<(a.length:Int))then
 joinP (λ(f:Int×(List Int))=>
 L_DeleteFunc_int_l1 N d m f.1 (w64 (c+1)) f.2) λg=>
 (at? a c).bind λh=>
 (i_othersOf_1 N h d).bind λj=>
 (if(!j)then
 (at? a b).bind λk=>
 g (w64 (b+1),(a.set b.toNat h))
 else
 g (b,a))
 else
 some (b,a))
def L_DeleteFunc_int (N:Nat)(b:List Int)(d:Node):Option (Nat×(List Int)):=
 (L_IF_int_i2 N b d).bind λc=>
 (if(c==(-1:Int))then
 some (b.length,b)
 else
 joinP (λ(a:Int×(List Int))=>
 (drop? a.2 a.1).bind λj=>
 (clr? 0 a.2 a.1.toNat (a.2.length-a.1.toNat)).bind λf=>
 (take? f a.1).bind λk=>
 some (a.1.toNat,f)) λh=>
 (L_DeleteFunc_int_l1 N d N c (w64 (c+1)) b).bind (λg=>h (g.1,g.2)))
instance i250 (N:Nat)(d:List Int)(g:Node):JG 204 (L_DeleteFunc_int N d g) [.sl 0 3 0 d.length,.fn 206 [.ptr 1 0]] 2 [(0,.vec 3 (d.map encI)),(1,.box (cNode0 g []))] (λr=>.sl 0 3 0 r.1) (λr=>[(0,.vec 3 (r.2.map encI)),(1,.box (cNode0 g []))]):=.st e e Tryz.call204 λB r=>.f [0,1] [] 0 e i q λ_ _=>.q e (.a e e (.Ek [0,1] e e e) (.jk e [0,5] [0,1] (λb=>[.f 0 (.sl 0 3 0 b.2.length),.f 5 (VI b.1),.r 0 (.vec 3 (b.2.map encI))]) (λ_=>e) (λ_=>.K3 e [0,1,5,6] [0,1] (λl m j=>[.f 0 (.sl 0 3 0 j.length),.f 5 (VI l),.f 6 (VI m),.r 0 (.vec 3 (j.map encI))]) (λ_ _ _=>e) λ_ l m j _ t=>.q e (.a e e (.jk e [0,1,5,6] [0,1] (λc=>[.f 0 (.sl 0 3 0 c.2.length),.f 5 (VI c.1),.r 0 (.vec 3 (c.2.map encI))]) (λ_=>e) (λ_=>.B λu o=>.st e (Ev.iaW e e e o) e (.st e (Ev.ldE (f:=encI) e e (at_some o).2 e e e) e (.B λ_ w=>.st e (Ev.callx [1] [] 0 e (sy w) e e (.d1 (.cons (.ptr e) .nil)) e (.inl e) e e) e (.a e e (.B λ_ p=>.st e (Ev.iaW e e e p) e (.st e (Ev.stE (f:=encI) (v':=u) e e (at_some p).2 e (.d1 .nil) e e e e e) e (.J e (.k [0,1,5,6] [0,1])))) (.J e (.k [0,1,5,6] [0,1])))))) λc=>.R e (λh=>⟨_,_,_,h,e,e⟩) (.k [0,1,5,6] [0,1])) (.X t e e (.n e (.J e (.k [0,5] [0,1])))))) λb=>.B λ_ x=>.st e (Ev.slWl (xs:=b.2) e e e x) e (.B λy s=>.st e (Ev.clrW (f:=encI) (zv:=0) e e e s) e (.B λ_ v=>.st e (Ev.slWh (xs:=y) e (clr_len s) e v) e (.Ek [0,1] e e e)))))
def i_othersOf (N:Nat)(b:Node):Option (Nat×(List Int)):=
 (i_ConfOf N b).bind λc=>
 (L_DeleteFunc_int N c b).bind λa=>
 (len? c a.2).bind λd=>
 some (a.1,a.2)
instance i251 (N:Nat)(a:Node):JG 123 (i_othersOf N a) [.agg (cNode0 a [])] 0 [] (λr=>.sl 0 3 0 r.1) (λr=>[(0,.vec 3 (r.2.map encI))]):=.st e e Tryz.call123 λB r=>.c1 e i q λ_ _=>.f [5112,1000] [] 0 e i q λ_ _=>.B λ_ _=>.Ek [5112] e e e
def L_Equal_int_l1 (N:Nat)(b:List Int)(c:List Int):Nat->Int->Option ((Bool)⊕(Unit))
 |0,_=>none
 |m+1,a=>
 (if decide (a<(b.length:Int))then
 (at? b a).bind λd=>
 (at? c a).bind λf=>
 (if(d !=f)then
 some (Sum.inl false)
 else
 L_Equal_int_l1 N b c m (w64 (a+1)))
 else
 some (Sum.inr ()))
def L_Equal_int (N:Nat)(a:List Int)(b:List Int):Option (Bool):=
 (if((a.length:Int)!=(b.length:Int))then
 some false
 else
 joinP (λ(f:Unit)=>
 some true) λc=>
 (L_Equal_int_l1 N a b N 0).bind (Sum.elim (λd=>some d) (λ(g:Unit)=>c ())))
instance i252 (N:Nat)(b:List Int)(c:List Int):JB 122 (L_Equal_int N b c) [RO 3 (b.map encI),RO 3 (c.map encI)]:=.st e e Tryz.call122 λB r=>.q e (.st e (Ev.lnF e) e (.st e (Ev.lnF e) e (.a e e (.Ek [] e e e) (.j e (λ_=>[]) (λ_=>[]) (λ_=>.st e (Ev.lnF e) e (.K1 e [0,1,12,13] [] (λd=>[.f 13 (VI d)]) (λ_=>e) λ_ d _ g=>.q e (.a e e (.q e (.B λ_ l=>.st e (Ev.iaF e e l) e (.B λ_ m=>.st e (Ev.iaF e e m) e (.dn e (.a e e (.Xr g e e (.il (.e e (.Ek [] e e e)))) (.R e (λh=>⟨_,h,e,e⟩) (.k [0,1,12,13] []))))))) (.X g e e (.ir (.n e (.J e (.k [] [])))))))) λ_=>.Ek [] e e e))))
def i_peersOk_l1 (N:Nat)(b:Node):Nat->Int->(List Int)->Option ((Bool)⊕((List Int)))
 |0,_,_=>none
 |m+1,c,d=>
 (if decide (c<(b.Peers.length:Int))then
 (at? b.Peers c).bind λa=>
 (cat? d ([a.Id]:List Int)).bind λf=>
 (i_last N b.Log).bind λg=>
 (i_within N a.Next 1 (w64 (g+1))).bind λh=>
 (if(!h)then
 some (Sum.inl false)
 else
 (i_within N a.Match 0 (w64 (a.Next-1))).bind λj=>
 (if(!j)then
 some (Sum.inl false)
 else
 (i_within N a.Sent 0 20000).bind λk=>
 (if(!k)then
 some (Sum.inl false)
 else
 i_peersOk_l1 N b m (w64 (c+1)) f)))
 else
 some (Sum.inr d))
def i_peersOk (N:Nat)(a:Node):Option (Bool):=
 joinP (λ(c:List Int)=>
 (i_othersOf N a).bind λb=>
 (L_Equal_int N c (b.2.take b.1)).bind λd=>
 some d) λf=>
 (i_peersOk_l1 N a N 0 ([]:(List Int))).bind (Sum.elim (λg=>some g) (λ(h:List Int)=>f h))
instance i253 (N:Nat)(b:Node):JB 56 (i_peersOk N b) [.agg (cNode0 b [])]:=.st e e Tryz.call56 λB r=>.jk e [1,3] [1000,900001] (λg=>[.f 3 (.sl 1 3 0 g.length),.r 1 (.vec 3 (g.map encI))]) (λ_=>e) (λ_=>.st e (Ev.lnF e) e (.L2 e (λj c=>[(1,.ptr 0 0),(3,.sl 1 3 0 c.length),(7,RO 195 (b.Peers.map encPeer)),(8,VI (b.Peers.length:Int)),(9,VI j)]) (λj c=>[(0,.box (cNode0 b [])),(1,.vec 3 (c.map encI))]) (.n [1,3,7,8,9] [1000] [3] [] [1000,10000000]) λ_ j c _ d=>.q e (.a e e (.q e (.B λl m=>.st e (Ev.iaF e e m) e (.st e (Ev.bsW (ys:=([l.Id]:List Int)) (f:=encI) e (.d1 .nil) e e e e e) e (.B λ_ o=>.st e (Ev.apW (f:=encI) (ontoW e e e) (addsW e e e (λ_=>e)) e bt3 e o) e (.q e (.c0 e i q λ_ _=>.c0 e i q λ_ _=>.a e e (.dn e (.Xr d e e (.il (.e e (.Ek [] e e e))))) (.c0 e i q λ_ _=>.a e e (.dn e (.Xr d e e (.il (.e e (.Ek [] e e e))))) (.c0 e i q λ_ _=>.dn e (.a e e (.Xr d e e (.il (.e e (.Ek [] e e e)))) (.R e (λh=>⟨_,_,h,e,e⟩) (.k [1,3,7,8,9] [0,21544]))))))))))) (.X d e e (.ir (.n e (.J e (.k [1,3] [0,1])))))))) λg=>.c1 e i q λ_ _=>.f (hp:=(.cons (.borrow e (by decide) lw) (.cons (.borrow e (by decide) (lendP (λ_=>e) _ _ _)) .nil))) (hcase:=λ_=>(.inr ⟨rfl,ownL_root trivial⟩)) [] [1,37896] 0 e i q λ_ _=>.Ek [] e e e
def i_NodeOk_l1 (N:Nat)(b:Node):Nat->Int->Option ((Bool)⊕(Unit))
 |0,_=>none
 |m+1,a=>
 (if decide (a<(b.Votes.length:Int))then
 (at? b.Votes a).bind λc=>
 (i_within N c 1 4).bind λd=>
 (if(!d)then
 some (Sum.inl false)
 else
 (if decide (a>0)then
 (at? b.Votes (w64 (a-1))).bind λf=>
 (if decide (f>=c)then
 some (Sum.inl false)
 else
 i_NodeOk_l1 N b m (w64 (a+1)))
 else
 i_NodeOk_l1 N b m (w64 (a+1))))
 else
 some (Sum.inr ()))
def i_NodeOk (N:Nat)(a:Node):Option (Bool):=
 (i_within N a.Id 1 4).bind λd=>
 (if(!d)then
 some false
 else
 (i_ConfOk N a.Conf).bind λf=>
 (if(!f)then
 some false
 else
 (i_LogOk N a.Log).bind λg=>
 (if(!g)then
 some false
 else
 (i_LogLast N a.Log).bind λb=>
 (i_within N a.Term b.2 100000).bind λh=>
 (if(!h)then
 some false
 else
 (i_within N a.Vote 0 4).bind λj=>
 (if(!j)then
 some false
 else
 (i_within N a.Lead 0 4).bind λk=>
 (if(!k)then
 some false
 else
 (i_within N a.Role 0 2).bind λl=>
 (if(!l)then
 some false
 else
 (i_within N a.Commit a.Log.Start b.1).bind λm=>
 (if(!m)then
 some false
 else
 (i_within N a.Limit 1 20).bind λn=>
 (if(!n)then
 some false
 else
 (i_within N a.Clock 0 20).bind λo=>
 (if(!o)then
 some false
 else
 joinP (λ(u:Unit)=>
 joinP (λ(w:Unit)=>
 (if(a.Role==2)then
 (i_peersOk N a).bind λp=>
 some p
 else
 some ((a.Peers.length:Int)==0))) λc=>
 (if(a.Role !=1)then
 (if decide ((a.Votes.length:Int)>0)then
 some false
 else
 c ())
 else
 c ())) λs=>
 (i_NodeOk_l1 N a N 0).bind (Sum.elim (λt=>some t) (λ(x:Unit)=>s ()))))))))))))
instance i254 (N:Nat)(c:Node):JB 21 (i_NodeOk N c) [.agg (cNode0 c [])]:=.st e e Tryz.call21 λB r=>.q e (.q e (.c0 e i q λ_ _=>.a e e (.Ek [] e e e) (.c0 e i q λ_ _=>.a e e (.Ek [] e e e) (.c0 e i q λ_ _=>.a e e (.Ek [] e e e) (.c0 e i q λ_ _=>.q e (.q e (.c0 e i q λ_ _=>.a e e (.Ek [] e e e) (.c0 e i q λ_ _=>.a e e (.Ek [] e e e) (.c0 e i q λ_ _=>.a e e (.Ek [] e e e) (.c0 e i q λ_ _=>.a e e (.Ek [] e e e) (.c0 e i q λ_ _=>.a e e (.Ek [] e e e) (.c0 e i q λ_ _=>.a e e (.Ek [] e e e) (.c0 e i q λ_ _=>.a e e (.Ek [] e e e) (.jk e [1] [1000] (λ_=>[]) (λ_=>e) (λ_=>.st e (Ev.lnF e) e (.K1 e [1,75,76,77] [1000] (λd=>[.f 77 (VI d)]) (λ_=>e) λ_ d _ b=>.q e (.a e e (.q e (.B λ_ g=>.st e (Ev.iaF e e g) e (.q e (.c0 e i q λ_ _=>.a e e (.Xr b e e (.il (.e e (.Ek [] e e e)))) (.a e e (.B λ_ j=>.st e (Ev.iaF e e j) e (.a e e (.Xr b e e (.il (.e e (.Ek [] e e e)))) (.R e (λh=>⟨_,h,e,e⟩) (.k [1,75,76,77] [0])))) (.R e (λh=>⟨_,h,e,e⟩) (.k [1,75,76,77] [0]))))))) (.X b e e (.ir (.n e (.J e (.k [1] [0])))))))) λ_=>.jk e [1] [0] (λ_=>[]) (λ_=>e) (λ_=>.q e (.a e e (.st e (Ev.lnF e) e (.a e e (.Ek [] e e e) (.J e (.k [1] [0])))) (.J e (.k [1] [0])))) λ_=>.q e (.a e e (.c0 e i q λ_ _=>.Ek [] e e e) (.st e (Ev.lnF e) e (.Ek [] e e e)))))))))))))))))
def L_Equal_Entry_l1 (N:Nat)(b:List Entry)(f:List Entry):Nat->Int->Option ((Bool)⊕(Unit))
 |0,_=>none
 |m+1,a=>
 (if decide (a<(b.length:Int))then
 (at? b a).bind λc=>
 (at? f a).bind λd=>
 (if(((c.Term==d.Term)&&((c.Kind==d.Kind)&&(decide (c.Data=d.Data)&&true))) ^^ true)then
 some (Sum.inl false)
 else
 L_Equal_Entry_l1 N b f m (w64 (a+1)))
 else
 some (Sum.inr ()))
def L_Equal_Entry (N:Nat)(a:List Entry)(b:List Entry):Option (Bool):=
 (if((a.length:Int)!=(b.length:Int))then
 some false
 else
 joinP (λ(f:Unit)=>
 some true) λc=>
 (L_Equal_Entry_l1 N a b N 0).bind (Sum.elim (λd=>some d) (λ(g:Unit)=>c ())))
instance i255 (N:Nat)(b:List Entry)(c:List Entry):Sem Tryz.prog 124 (L_Equal_Entry N b c) [RO 91 (b.map encEntry),RO 91 (c.map encEntry)] 0 [] (λr=>VB r) (λr=>[]):=.so s124 e Tryz.call124 λB r=>.q e (.st e (Ev.lnF e) e (.st e (Ev.lnF e) e (.a e e (.Ek [] e e e) (.j e (λ_=>[]) (λ_=>[]) (λ_=>.st e (Ev.lnF e) e (.K1 e [0,1,12,13] [] (λd=>[.f 13 (VI d)]) (λ_=>e) λ_ d _ g=>.q e (.a e e (.q e (.B λ_ l=>.st e (Ev.iaF e e l) e (.B λ_ m=>.st e (Ev.iaF e e m) e (.dn e (.a e e (.Xr g e e (.il (.e e (.Ek [] e e e)))) (.R e (λh=>⟨_,h,e,e⟩) (.k [0,1,12,13] []))))))) (.X g e e (.ir (.n e (.J e (.k [] [])))))))) λ_=>.Ek [] e e e))))
def i_sameLog (N:Nat)(a:Log)(b:Log):Option (Bool):=
 (if(a.Start==b.Start)then
 (if(a.StartTerm==b.StartTerm)then
 (L_Equal_Entry N a.Entries b.Entries).bind λc=>
 some c
 else
 some false)
 else
 some false)
instance i256 (N:Nat)(b:Log)(c:Log):JB 57 (i_sameLog N b c) [.agg [VI b.Start,VI b.StartTerm,RO 91 (b.Entries.map encEntry)],.agg [VI c.Start,VI c.StartTerm,RO 91 (c.Entries.map encEntry)]]:=.st e e Tryz.call57 λB r=>.q e (.a e e (.a e e (.c0 e i q λ_ _=>.Ek [] e e e) (.Ek [] e e e)) (.Ek [] e e e))
def i_logMended (N:Nat)(g:Disk)(a:BA)(b:Int)(h:Log)(j:Log):Option ((List Raw)):=
 (i_sameLog N h j).bind λk=>
 (if(!k)then
 none
 else
 joinP (λ(c:List Raw)=>
 joinP (λ(l:List Raw)=>
 some l) λd=>
 (i_FileAt N g (⟨#[108,111,103,43]⟩:BA)).bind λm=>
 (if m.2 then
 (cat? c ([(Raw.mk 4 (⟨#[108,111,103,43]⟩:BA) (⟨#[]⟩:BA) (⟨#[]⟩:BA))]:List Raw)).bind λn=>
 d n
 else
 d c)) λf=>
 (if decide (b<(a.size:Int))then
 (stake? a b).bind λo=>
 (cat? ([]:List Raw) ([(Raw.mk 1 (⟨#[108,111,103]⟩:BA) (⟨#[]⟩:BA) o)]:List Raw)).bind λp=>
 f p
 else
 f ([]:(List Raw))))
instance i257 (N:Nat)(h:Disk)(l:BA)(m:Int)(b:Log)(c:Log):JG 22 (i_logMended N h l m b c) [.agg [RO 93 (h.Files.map encFile)],VS l,VI m,.agg [VI b.Start,VI b.StartTerm,RO 91 (b.Entries.map encEntry)],.agg [VI c.Start,VI c.StartTerm,RO 91 (c.Entries.map encEntry)]] 0 [] (λr=>.sl 0 79 0 r.length) (λr=>[(0,.vec 79 (r.map encRaw))]):=.st e e Tryz.call22 λB r=>.q e (.c0 e i q λ_ _=>.a e e .no (.jk e [5,13] [1000,900001] (λg=>[.f 13 (.sl 1 79 0 g.length),.r 1 (.vec 79 (g.map encRaw))]) (λ_=>e) (λ_=>.a e e (.B λo p=>.st e (Ev.ssH e e p) e (.st e (Ev.bsW (ys:=([(Raw.mk 1 (⟨#[108,111,103]⟩:BA) (⟨#[]⟩:BA) o)]:List Raw)) (f:=encRaw) e (.d4 .nil) e e e e e) e (.B λ_ s=>.st e (Ev.apW (f:=encRaw) (ontoN (f:=encRaw) e) (addsW e e e (λ_=>e)) e bt79 e s) e (.J e (.k [5,13] [1000,25672]))))) (.J e (.n [5,13] [1000] [13] [] [1000,10000000]))) λg=>.j e (λd=>[(13,.sl 0 79 0 d.length)]) (λd=>[(0,.vec 79 (d.map encRaw))]) (λ_=>.c0 e i q λ_ _=>.a e e (.st e (Ev.bsW (ys:=([(Raw.mk 4 (⟨#[108,111,103,43]⟩:BA) (⟨#[]⟩:BA) (⟨#[]⟩:BA))]:List Raw)) (f:=encRaw) e (.d4 .nil) e e e e e) e (.B λ_ t=>.st e (Ev.apW (f:=encRaw) (ontoW e e e) (addsW e e e (λ_=>e)) e bt79 e t) e (.J e (.k [13] [37912])))) (.J e (.k [13] [1]))) λd=>.Ek [0] e e e))
def i_copyDisk (N:Nat)(a:Disk):Option (Disk):=
 (cat? ([]:List File) a.Files).bind λb=>
 some (Disk.mk b)
instance i258 (N:Nat)(a:Disk):JG 59 (i_copyDisk N a) [.agg [RO 93 (a.Files.map encFile)]] 0 [] (λr=>.agg [.sl 0 93 0 r.Files.length]) (λr=>[(0,.vec 93 (r.Files.map encFile))]):=.st e e Tryz.call59 λB r=>.B λ_ b=>.st e (Ev.apW (f:=encFile) (ontoN (f:=encFile) e) (addsF e) e bt93 e b) e (.Ek [5128] e e e)
def i_PutRaws_l1 (N:Nat)(a:List Raw):Nat->Option (Unit)
 |0=>none
 |m+1=>
 (if decide (0<(a.length:Int))then
 (at? a 0).bind λb=>
 none
 else
 some ())
def i_PutRaws (N:Nat)(b:Disk)(a:List Raw):Option (Disk×Int):=
 (i_DiskOk N b).bind λc=>
 (if(!c)then
 some ((Disk.mk ([])),0)
 else
 (if decide ((a.length:Int)>60)then
 some ((Disk.mk ([])),0)
 else
 (i_copyDisk N b).bind λd=>
 joinP (λ(g:Unit)=>
 some (d,(a.length:Int))) λf=>
 (i_PutRaws_l1 N a N).bind (λh=>f ())))
instance i259 (N:Nat)(b:Disk)(c:List Raw):JG 23 (i_PutRaws N b c) [.agg [RO 93 (b.Files.map encFile)],RO 79 (c.map encRaw)] 0 [] (λr=>.tup [.agg [.sl 0 93 0 r.1.Files.length],VI r.2]) (λr=>[(0,.vec 93 (r.1.Files.map encFile))]):=.st e e Tryz.call23 λB r=>.q e (.q e (.c0 e i q λ_ _=>.a e e (.E e e (.n [0,1] [] [0] [] [10000000])) (.st e (Ev.lnF e) e (.a e e (.E e e (.n [0,1] [] [0] [] [10000000])) (.c1 e i q λ_ _=>.jk e [1,4,6] [1016,13320,13304] (λ_=>[]) (λ_=>e) (λ_=>.st e (Ev.lnF e) e (.K0 e [1,4,6,22,23,24] [1016,13320,13304] [] e λ_ _ d=>.q e (.a e e (.q e (.B λ_ f=>.st e (Ev.iaF e e f) e .no)) (.X d e e (.n e (.J e (.k [1,4,6] [0,1,2]))))))) λ_=>.st e (Ev.lnF e) e (.Ek [2] e e e))))))
def i_Boot (N:Nat)(j:Int)(b:Disk)(k:Int):Option (Server×(List Raw)×Int):=
 (i_OpenShelf N b).bind λa=>
 (if(a.2.2 !=0)then
 some ((Server.mk (Node.mk 0 0 0 0 0 ([]) (Log.mk 0 0 ([])) 0 0 0 ([]) ([])) (Disk.mk ([])) (Shelf.mk (Manifest.mk ([]) 0 0 0 ([])) ([]) 0) (⟨#[]⟩:BA) 0 0),[],1)
 else
 (i_FileAt N b (⟨#[108,111,103]⟩:BA)).bind λf=>
 (i_ReadLog N f.1).bind λd=>
 (if(!f.2)then
 some ((Server.mk (Node.mk 0 0 0 0 0 ([]) (Log.mk 0 0 ([])) 0 0 0 ([]) ([])) (Disk.mk ([])) (Shelf.mk (Manifest.mk ([]) 0 0 0 ([])) ([]) 0) (⟨#[]⟩:BA) 0 0),[],2)
 else
 (if(!d.2.2)then
 some ((Server.mk (Node.mk 0 0 0 0 0 ([]) (Log.mk 0 0 ([])) 0 0 0 ([]) ([])) (Disk.mk ([])) (Shelf.mk (Manifest.mk ([]) 0 0 0 ([])) ([]) 0) (⟨#[]⟩:BA) 0 0),[],2)
 else
 (i_LogBehind N d.1 a.1.Man.Base a.1.Man.BaseTerm).bind λg=>
 (i_FileAt N b (⟨#[118,111,116,101]⟩:BA)).bind λh=>
 (i_ReadVotes N h.1).bind λc=>
 (cat? ([]:List Int) a.1.Man.Conf).bind λl=>
 (i_NodeOk N (Node.mk j c.1 c.2.1 0 0 l g a.1.Stamp 0 k ([]) ([]))).bind λt=>
 (if(!t)then
 some ((Server.mk (Node.mk 0 0 0 0 0 ([]) (Log.mk 0 0 ([])) 0 0 0 ([]) ([])) (Disk.mk ([])) (Shelf.mk (Manifest.mk ([]) 0 0 0 ([])) ([]) 0) (⟨#[]⟩:BA) 0 0),[],3)
 else
 (i_logMended N b f.1 d.2.1 d.1 g).bind λu=>
 (cat? a.2.1 u).bind λm=>
 joinP (λ(n:List Raw)=>
 joinP (λ(o:List Raw)=>
 (i_PutRaws N b o).bind λw=>
 some ((Server.mk (Node.mk j c.1 c.2.1 0 0 l g a.1.Stamp 0 k ([]) ([])) w.1 a.1 (⟨#[]⟩:BA) 0 0),o,0)) λp=>
 (i_FileAt N b (⟨#[118,111,116,101,43]⟩:BA)).bind λx=>
 (if x.2 then
 (cat? n ([(Raw.mk 4 (⟨#[118,111,116,101,43]⟩:BA) (⟨#[]⟩:BA) (⟨#[]⟩:BA))]:List Raw)).bind λy=>
 p y
 else
 p n)) λs=>
 (if decide (c.2.2<(h.1.size:Int))then
 (stake? h.1 c.2.2).bind λv=>
 (cat? m ([(Raw.mk 1 (⟨#[118,111,116,101]⟩:BA) (⟨#[]⟩:BA) v)]:List Raw)).bind λz=>
 s z
 else
 s m)))))
instance i260 (N:Nat)(g:Int)(h:Disk)(j:Int):JG 6 (i_Boot N g h j) [VI g,.agg [RO 93 (h.Files.map encFile)],VI j] 0 [] (λr=>.tup [.agg (cServer0 r.1 0 1 2 3 4 5 6 7 []),.sl 8 79 0 r.2.1.length,VI r.2.2]) (λr=>(rServer0 r.1 0 1 2 3 4 5 6 7 [(8,.vec 79 (r.2.1.map encRaw))])):=.st e e Tryz.call6 λB r=>.f [] [] 4 e i q λ_ _=>.q e (.a e e (.E e e (.n [0,1,2] [] [0,1] [] [10000000,10000001,10000002,10000003,10000004,10000005,10000006,10000007,10000064])) (.c0 e i q λ_ _=>.c1 e i q λ_ _=>.q e (.q e (.a e e (.E e e (.n [0,1,2] [] [0,1] [] [10000000,10000001,10000002,10000003,10000004,10000005,10000006,10000007,10000064])) (.a e e (.E e e (.n [0,1,2] [] [0,1] [] [10000000,10000001,10000002,10000003,10000004,10000005,10000006,10000007,10000064])) (.f (hp:=(.cons (.agg (.d2 (.cons (.borrow e (by decide) lw) .nil))) (.d2 .nil))) (hcase:=λ_=>(.inr ⟨rfl,ownL_root ⟨own_rows (λ_=>e) _,trivial⟩⟩)) [] [21496] 1 e i q λ_ _=>.c0 e i q λ_ _=>.c0 e i q λ_ _=>.B λ_ l=>.st e (Ev.apW (f:=encI) (ontoN (f:=encI) e) (addsW e e e (λ_=>e)) e bt3 e l) e (.dn e (.q e (.f (hp:=(.cons (.agg (.d4 (.d1 (.cons (.borrow e (by decide) lw) (.d2 (.cons (.borrow e (by decide) lw) (.d2 (.d1 (.cons (.nil _ _) (.cons (.nil _ _) .nil)))))))))) .nil)) (hcase:=λ_=>(.inr ⟨rfl,ownL_root trivial⟩)) [] [46152,33880] 0 e i q λ_ _=>.a e e (.E e e (.n [0,1,2] [] [0,1] [] [10000000,10000001,10000002,10000003,10000004,10000005,10000006,10000007,10000064])) (.f (hp:=(.cons (.agg (.d1 .nil)) (.d2 (.cons (.agg (.d2 (.cons (.borrow e (by decide) lw) .nil))) (.cons (.agg (.d2 (.cons (.borrow e (by decide) lw) .nil))) .nil))))) (hcase:=λ_=>(.inr ⟨rfl,ownL_root ⟨own_rows (λ_=>e) _,trivial⟩⟩)) [] [21496,33880] 1 e i q λ_ _=>.B λ_ m=>.st e (Ev.apW (f:=encRaw) (ontoW e e e) (addsW e e e (λ_=>e)) e bt79 e m) e (.jk e [4,6,9,10,23] [1000,1016,5192,58456,46248,5112,5113,5114,46152,33880,900010,900011] (λb=>[.f 10 (.sl 3 79 0 b.length),.r 3 (.vec 79 (b.map encRaw)),.c 4 12 (.sl 10 3 0 (([]:List Int).length)),.c 4 13 (.sl 11 195 0 (([]:List Peer).length)),.r 10 (.vec 3 (([]:List Int).map encI)),.r 11 (.vec 195 (([]:List Peer).map encPeer))]) (λ_=>e) (λ_=>.a e e (.B λo p=>.st e (Ev.ssH e e p) e (.st e (Ev.bsW (ys:=([(Raw.mk 1 (⟨#[118,111,116,101]⟩:BA) (⟨#[]⟩:BA) o)]:List Raw)) (f:=encRaw) e (.d4 .nil) e e e e e) e (.B λ_ s=>.st e (Ev.apW (f:=encRaw) (ontoW e e e) (addsW e e e (λ_=>e)) e bt79 e s) e (.J e (.n [4,6,9,10,23] [1000,1016,5192,66632,46248,5112,5113,5114,46152,33880] [] [46248] [1000,1016,5192,66632,46248,5112,5113,5114,46152,33880,20000000,20000001]))))) (.J e (.n [4,6,9,10,23] [1000,1016,5192,58456,46248,5112,5113,5114,46152,33880] [] [46248] [1000,1016,5192,58456,46248,5112,5113,5114,46152,33880,20000000,20000001]))) λb=>.jk e [4,6,9,10,23] [0,1,2,3,4,5,6,7,8,9,10,11] (λd=>[.f 10 (.sl 3 79 0 d.length),.r 3 (.vec 79 (d.map encRaw))]) (λ_=>e) (λ_=>.c0 e i q λ_ _=>.a e e (.st e (Ev.bsW (ys:=([(Raw.mk 4 (⟨#[118,111,116,101,43]⟩:BA) (⟨#[]⟩:BA) (⟨#[]⟩:BA))]:List Raw)) (f:=encRaw) e (.d4 .nil) e e e e e) e (.B λ_ t=>.st e (Ev.apW (f:=encRaw) (ontoW e e e) (addsW e e e (λ_=>e)) e bt79 e t) e (.J e (.k [4,6,9,10,23] [0,1,2,78872,4,5,6,7,8,9,10,11])))) (.J e (.k [4,6,9,10,23] [0,1,2,3,4,5,6,7,8,9,10,11]))) λd=>.f (hp:=(.cons (.agg (.d1 .nil)) (.cons (.borrow e (by decide) lw) .nil))) (hcase:=λ_=>(.inr ⟨rfl,ownL_root ⟨own_rows (λ_=>e) _,trivial⟩⟩)) [] [3] 1 e i q λ_ _=>.Ek [8,9,10,11,82952,5,6,7,3] e e e)))))))))))
def w_sameLog_l1 (N:Nat)(b:Log)(f:Log):Nat->Int->Option ((Bool)⊕(Unit))
 |0,_=>none
 |m+1,a=>
 (if decide (a<(b.Entries.length:Int))then
 (at? b.Entries a).bind λc=>
 (at? f.Entries a).bind λd=>
 (if(((c.Term==d.Term)&&((c.Kind==d.Kind)&&(decide (c.Data=d.Data)&&true))) ^^ true)then
 some (Sum.inl false)
 else
 w_sameLog_l1 N b f m (w64 (a+1)))
 else
 some (Sum.inr ()))
def w_sameLog (N:Nat)(a:Log)(b:Log):Option (Bool):=
 (if(a.Start !=b.Start)then
 some false
 else
 (if(a.StartTerm !=b.StartTerm)then
 some false
 else
 (if((a.Entries.length:Int)!=(b.Entries.length:Int))then
 some false
 else
 joinP (λ(f:Unit)=>
 some true) λc=>
 (w_sameLog_l1 N a b N 0).bind (Sum.elim (λd=>some d) (λ(g:Unit)=>c ())))))
instance i261 (N:Nat)(b:Log)(c:Log):Sem Tryz.prog 8 (w_sameLog N b c) [.agg [VI b.Start,VI b.StartTerm,RO 91 (b.Entries.map encEntry)],.agg [VI c.Start,VI c.StartTerm,RO 91 (c.Entries.map encEntry)]] 0 [] (λr=>VB r) (λr=>[]):=.so s8 e Tryz.call8 λB r=>.q e (.q e (.a e e (.Ek [] e e e) (.a e e (.Ek [] e e e) (.st e (Ev.lnF e) e (.st e (Ev.lnF e) e (.a e e (.Ek [] e e e) (.j e (λ_=>[]) (λ_=>[]) (λ_=>.K1 e [2,3,5] [1000,1016] (λd=>[.f 5 (VI d)]) (λ_=>e) λ_ d _ g=>.q e (.st e (Ev.lnF e) e (.a e e (.q e (.B λ_ l=>.st e (Ev.iaF e e l) e (.B λ_ m=>.st e (Ev.iaF e e m) e (.dn e (.a e e (.Xr g e e (.il (.e e (.Ek [] e e e)))) (.R e (λh=>⟨_,h,e,e⟩) (.k [2,3,5] [0,1]))))))) (.X g e e (.ir (.n e (.J e (.k [] [])))))))) λ_=>.Ek [] e e e)))))))
def w_sameMap_l1 (N:Nat)(b:List Pair)(c:List Pair):Nat->Int->Option ((Bool)⊕(Unit))
 |0,_=>none
 |m+1,a=>
 (if decide (a<(b.length:Int))then
 (at? b a).bind λd=>
 (at? c a).bind λf=>
 (if((decide (d.Key=f.Key)&&(decide (d.Value=f.Value)&&true)) ^^ true)then
 some (Sum.inl false)
 else
 w_sameMap_l1 N b c m (w64 (a+1)))
 else
 some (Sum.inr ()))
def w_sameMap (N:Nat)(a:List Pair)(b:List Pair):Option (Bool):=
 (if((a.length:Int)!=(b.length:Int))then
 some false
 else
 joinP (λ(f:Unit)=>
 some true) λc=>
 (w_sameMap_l1 N a b N 0).bind (Sum.elim (λd=>some d) (λ(g:Unit)=>c ())))
instance i262 (N:Nat)(b:List Pair)(c:List Pair):Sem Tryz.prog 9 (w_sameMap N b c) [RO 89 (b.map encPair),RO 89 (c.map encPair)] 0 [] (λr=>VB r) (λr=>[]):=.so s9 e Tryz.call9 λB r=>.q e (.st e (Ev.lnF e) e (.st e (Ev.lnF e) e (.a e e (.Ek [] e e e) (.j e (λ_=>[]) (λ_=>[]) (λ_=>.K1 e [0,1,5] [] (λd=>[.f 5 (VI d)]) (λ_=>e) λ_ d _ g=>.q e (.st e (Ev.lnF e) e (.a e e (.q e (.B λ_ l=>.st e (Ev.iaF e e l) e (.B λ_ m=>.st e (Ev.iaF e e m) e (.dn e (.a e e (.Xr g e e (.il (.e e (.Ek [] e e e)))) (.R e (λh=>⟨_,h,e,e⟩) (.k [0,1,5] []))))))) (.X g e e (.ir (.n e (.J e (.k [] [])))))))) λ_=>.Ek [] e e e))))
def w_sameDisk_l1 (N:Nat)(b:Disk)(c:Disk):Nat->Int->Option ((Bool)⊕(Unit))
 |0,_=>none
 |m+1,a=>
 (if decide (a<(b.Files.length:Int))then
 (at? b.Files a).bind λd=>
 (at? c.Files a).bind λf=>
 (if((decide (d.Name=f.Name)&&(decide (d.Text=f.Text)&&true)) ^^ true)then
 some (Sum.inl false)
 else
 w_sameDisk_l1 N b c m (w64 (a+1)))
 else
 some (Sum.inr ()))
def w_sameDisk (N:Nat)(a:Disk)(b:Disk):Option (Bool):=
 (if((a.Files.length:Int)!=(b.Files.length:Int))then
 some false
 else
 joinP (λ(f:Unit)=>
 some true) λc=>
 (w_sameDisk_l1 N a b N 0).bind (Sum.elim (λd=>some d) (λ(g:Unit)=>c ())))
instance i263 (N:Nat)(b:Disk)(c:Disk):Sem Tryz.prog 10 (w_sameDisk N b c) [.agg [RO 93 (b.Files.map encFile)],.agg [RO 93 (c.Files.map encFile)]] 0 [] (λr=>VB r) (λr=>[]):=.so s10 e Tryz.call10 λB r=>.q e (.st e (Ev.lnF e) e (.st e (Ev.lnF e) e (.a e e (.Ek [] e e e) (.j e (λ_=>[]) (λ_=>[]) (λ_=>.K1 e [2,3,5] [1000,1016] (λd=>[.f 5 (VI d)]) (λ_=>e) λ_ d _ g=>.q e (.st e (Ev.lnF e) e (.a e e (.q e (.B λ_ l=>.st e (Ev.iaF e e l) e (.B λ_ m=>.st e (Ev.iaF e e m) e (.dn e (.a e e (.Xr g e e (.il (.e e (.Ek [] e e e)))) (.R e (λh=>⟨_,h,e,e⟩) (.k [2,3,5] [0,1]))))))) (.X g e e (.ir (.n e (.J e (.k [] [])))))))) λ_=>.Ek [] e e e))))
def w_FnBoots (N:Nat)(c:List Int):Option (Bool):=
 (w_big N c).bind λg=>
 (if g then
 some true
 else
 (s_DrawRightServer N c).bind λb=>
 (i_Boot N b.1.Node.Id b.1.Disk 3).bind λa=>
 (s_ShelfMap N b.1.Disk b.1.Shelf).bind λd=>
 (s_ShelfMap N a.1.Disk a.1.Shelf).bind λf=>
 (if(a.2.2==0)then
 (if((a.2.1.length:Int)==0)then
 (if d.2 then
 (if f.2 then
 (if(a.1.Node.Term==b.1.Node.Term)then
 (if(a.1.Node.Vote==b.1.Node.Vote)then
 (w_sameLog N a.1.Node.Log b.1.Node.Log).bind λh=>
 (if h then
 (w_sameMap N d.1 f.1).bind λj=>
 (if j then
 (if(a.1.Shelf.Stamp==b.1.Shelf.Stamp)then
 (if(a.1.Node.Limit==3)then
 (w_sameDisk N a.1.Disk b.1.Disk).bind λk=>
 some k
 else
 some false)
 else
 some false)
 else
 some false)
 else
 some false)
 else
 some false)
 else
 some false)
 else
 some false)
 else
 some false)
 else
 some false)
 else
 some false))
instance i264 (N:Nat)(b:List Int):JB 3 (w_FnBoots N b) [RO 5 (b.map encU)]:=.st e e Tryz.call3 λB r=>.q e (.c0 e i q λ_ _=>.a e e (.Ek [] e e e) (.c0 e i q λ_ _=>.f [] [] 9 e i q λ_ _=>.c1 e i q λ_ _=>.f (hp:=(.cons (.agg (.cons (.borrow e (by decide) lw) .nil)) (.cons (.agg (.cons (.borrow e (by decide) lw) (.d2 (.d1 (.cons (.borrow e (by decide) lw) (.cons (.borrow e (by decide) lw) (.d1 .nil))))))) .nil))) (hcase:=λ_=>(.inr ⟨rfl,ownL_root ⟨own_rows (λ_=>e) _,trivial⟩⟩)) [] [17468,17469,17470,17471] 1 e i q λ_ _=>.q e (.a e e (.a e e (.a e e (.a e e (.a e e (.a e e (.f (hp:=(.cons (.agg (.d2 (.cons (.borrow e (by decide) lw) .nil))) (.cons (.agg (.d2 (.d1 .nil))) .nil))) (hcase:=λ_=>(.inr ⟨rfl,ownL_root trivial⟩)) [] [17465] 0 e i q λ_ _=>.a e e (.f (hp:=(.cons (.borrow e (by decide) lw) (.cons (.borrow e (by decide) lw) .nil))) (hcase:=λ_=>(.inr ⟨rfl,ownL_root trivial⟩)) [] [21544,25640] 0 e i q λ_ _=>.a e e (.a e e (.a e e (.f (hp:=(.cons (.agg (.cons (.borrow e (by decide) lw) .nil)) (.cons (.agg (.d1 .nil)) .nil))) (hcase:=λ_=>(.inr ⟨rfl,ownL_root trivial⟩)) [] [17468] 0 e i q λ_ _=>.Ek [] e e e) (.Ek [] e e e)) (.Ek [] e e e)) (.Ek [] e e e)) (.Ek [] e e e)) (.Ek [] e e e)) (.Ek [] e e e)) (.Ek [] e e e)) (.Ek [] e e e)) (.Ek [] e e e)) (.Ek [] e e e))))
end Go.Proofs.YtmcbbifeekhmgaaGreatDoor.Pe.FnBoots
