/- Functions,as pure functions; and that Go does just that. -/
import Derived.Test.YtmcbbifeekhmgaaGreatDoorPeFFnBoots0
namespace Go.Proofs.YtmcbbifeekhmgaaGreatDoor.Pe.FnBoots
open Go Go.RowKit
set_option linter.unusedVariables false
set_option linter.unusedSimpArgs false
set_option maxHeartbeats 40000000
set_option maxRecDepth 100000
def s_LogTerm (N:Nat)(a:Log)(b:Int):Option (Int):=
 (if(b==a.Start)then
 some a.StartTerm
 else
 (if decide (b<a.Start)then
 some (-1:Int)
 else
 (s_l12Last N a).bind λc=>
 (if decide (b>c)then
 some (-1:Int)
 else
 (at? a.Entries (w64 ((w64 (b-a.Start))-1))).bind λd=>
 some d.Term)))
instance i58 (N:Nat)(b:Log)(c:Int):JI 141 (s_LogTerm N b c) [.agg [VI b.Start,VI b.StartTerm,RO 91 (b.Entries.map encEntry)],VI c]:=.st e e Tryz.call141 λB r=>.q e (.a e e (.Ek [] e e e) (.q e (.q e (.a e e (.Ek [] e e e) (.c0 e i q λ_ _=>.a e e (.Ek [] e e e) (.B λ_ d=>.st e (Ev.iaF e e d) e (.Ek [] e e e)))))))
def s_LogBehind (N:Nat)(a:Log)(b:Int)(d:Int):Option (Log):=
 joinP (λ(f:List Entry)=>
 some (Log.mk b d f)) λc=>
 (s_LogOk N a).bind λg=>
 (if g then
 (s_l12Last N a).bind λh=>
 (s_l01In N b a.Start h).bind λj=>
 (if j then
 (s_LogTerm N a b).bind λk=>
 (if(k==d)then
 (drop? a.Entries (w64 (b-a.Start))).bind λl=>
 (cat? ([]:List Entry) l).bind λm=>
 c m
 else
 c ([]:(List Entry)))
 else
 c ([]:(List Entry)))
 else
 c ([]:(List Entry)))
instance i59 (N:Nat)(b:Log)(g:Int)(h:Int):JG 71 (s_LogBehind N b g h) [.agg [VI b.Start,VI b.StartTerm,RO 91 (b.Entries.map encEntry)],VI g,VI h] 0 [] (λr=>.agg [VI r.Start,VI r.StartTerm,.sl 0 91 0 r.Entries.length]) (λr=>[(0,.vec 91 (r.Entries.map encEntry))]):=.st e e Tryz.call71 λB r=>.jk e [6,7] [1016,5144,900002] (λd=>[.c 1 2 (.sl 2 91 0 d.length),.r 2 (.vec 91 (d.map encEntry))]) (λ_=>e) (λ_=>.q e (.c0 e i q λ_ _=>.a e e (.c0 e i q λ_ _=>.c0 e i q λ_ _=>.a e e (.c0 e i q λ_ _=>.dn e (.a e e (.st e (Ev.bsW (ys:=([]:List Entry)) (f:=encEntry) e .nil e e e e e) e (.B λ_ j=>.st e (Ev.slFl e e j) e (.B λ_ l=>.st e (Ev.apW (f:=encEntry) (ontoW e e e) (addsF e) e bt91 e l) e (.J e (.k [6,7] [1016,5144,13416]))))) (.J e (.n [6,7] [1016,5144] [] [5144] [1016,5144,20000000])))) (.dn e (.J e (.n [6,7] [1016,5144] [] [5144] [1016,5144,20000000])))) (.dn e (.J e (.n [6,7] [1016,5144] [] [5144] [1016,5144,20000000]))))) λd=>.Ek [2] e e e
def s_l12Same_l1 (N:Nat)(b:Log)(f:Log):Nat->Int->Option ((Bool)⊕(Unit))
 |0,_=>none
 |m+1,a=>
 (if decide (a<(b.Entries.length:Int))then
 (at? b.Entries a).bind λc=>
 (at? f.Entries a).bind λd=>
 (if(((c.Term==d.Term)&&((c.Kind==d.Kind)&&(decide (c.Data=d.Data)&&true))) ^^ true)then
 some (Sum.inl false)
 else
 s_l12Same_l1 N b f m (w64 (a+1)))
 else
 some (Sum.inr ()))
def s_l12Same (N:Nat)(a:Log)(b:Log):Option (Bool):=
 (if(a.Start !=b.Start)then
 some false
 else
 (if(a.StartTerm !=b.StartTerm)then
 some false
 else
 (if((a.Entries.length:Int)!=(b.Entries.length:Int))then
 some false
 else
 joinP (λ(f:Unit)=>
 some true) λc=>
 (s_l12Same_l1 N a b N 0).bind (Sum.elim (λd=>some d) (λ(g:Unit)=>c ())))))
instance i60 (N:Nat)(b:Log)(c:Log):Sem Tryz.prog 72 (s_l12Same N b c) [.agg [VI b.Start,VI b.StartTerm,RO 91 (b.Entries.map encEntry)],.agg [VI c.Start,VI c.StartTerm,RO 91 (c.Entries.map encEntry)]] 0 [] (λr=>VB r) (λr=>[]):=.so s72 e Tryz.call72 λB r=>.q e (.q e (.a e e (.Ek [] e e e) (.a e e (.Ek [] e e e) (.st e (Ev.lnF e) e (.st e (Ev.lnF e) e (.a e e (.Ek [] e e e) (.j e (λ_=>[]) (λ_=>[]) (λ_=>.K1 e [2,3,5] [1000,1016] (λd=>[.f 5 (VI d)]) (λ_=>e) λ_ d _ g=>.q e (.st e (Ev.lnF e) e (.a e e (.q e (.B λ_ l=>.st e (Ev.iaF e e l) e (.B λ_ m=>.st e (Ev.iaF e e m) e (.dn e (.a e e (.Xr g e e (.il (.e e (.Ek [] e e e)))) (.R e (λh=>⟨_,h,e,e⟩) (.k [2,3,5] [0,1]))))))) (.X g e e (.ir (.n e (.J e (.k [] [])))))))) λ_=>.Ek [] e e e)))))))
def s_VoteText (N:Nat)(a:Int)(b:Int):Option (BA×Bool):=
 (s_l01In N a 0 100000).bind λd=>
 (if(!d)then
 some ((⟨#[]⟩:BA),false)
 else
 (s_l01In N b 0 4).bind λf=>
 (if(!f)then
 some ((⟨#[]⟩:BA),false)
 else
 (s_l01Var N a).bind λg=>
 (s_l01Var N b).bind λh=>
 (scat? g h).bind λj=>
 (s_Frame N j).bind λc=>
 some (c.1,c.2)))
instance i61 (N:Nat)(b:Int)(c:Int):JG 143 (s_VoteText N b c) [VI b,VI c] 0 [] (λr=>.tup [VS r.1,VB r.2]) (λr=>[]):=.st e e Tryz.call143 λB r=>.q e (.q e (.c0 e i q λ_ _=>.a e e (.Ek [] e e e) (.c0 e i q λ_ _=>.a e e (.Ek [] e e e) (.c0 e i q λ_ _=>.c0 e i q λ_ _=>.B λ_ d=>.st e (Ev.addS e e d) e (.c0 e i q λ_ _=>.Ek [] e e e)))))
def s_ReadVotes_l1 (N:Nat)(a:(List BA)×Int):Nat->Int->Int->Int->Option ((Int×Int×Int)⊕(Int×Int))
 |0,_,_,_=>none
 |m+1,b,c,d=>
 (if decide (d<(a.1.length:Int))then
 (at? a.1 d).bind λj=>
 (s_l05Var N (Tl05Cur.mk j 0 false)).bind λf=>
 (s_l05Var N f.2).bind λg=>
 (s_VoteText N f.1 g.1).bind λh=>
 (at? a.1 d).bind λk=>
 (s_Frame N k).bind λl=>
 (if g.2.bad then
 some (Sum.inl (b,c,a.2))
 else
 (if(!h.2)then
 some (Sum.inl (b,c,a.2))
 else
 (if(!decide (h.1=l.1))then
 some (Sum.inl (b,c,a.2))
 else
 s_ReadVotes_l1 N a m f.1 g.1 (w64 (d+1)))))
 else
 some (Sum.inr (b,c)))
def s_ReadVotes (N:Nat)(d:BA):Option (Int×Int×Int):=
 (s_Unframe N d).bind λa=>
 joinP (λ(b:Int×Int)=>
 some (b.1,b.2,a.2)) λf=>
 (s_ReadVotes_l1 N a N 0 0 0).bind (Sum.elim (λg=>some g) (λ(c:Int×Int)=>f (c.1,c.2)))
instance i62 (N:Nat)(d:BA):JG 73 (s_ReadVotes N d) [VS d] 0 [] (λr=>.tup [VI r.1,VI r.2.1,VI r.2.2]) (λr=>[]):=.st e e Tryz.call73 λB r=>.c1 e i q λ_ _=>.jk e [6,7,8] [] (λc=>[.f 7 (VI c.1),.f 8 (VI c.2)]) (λ_=>e) (λ_=>.K3 e [5,6,7,8,9] [5112] (λg j l=>[.f 7 (VI g),.f 8 (VI j),.f 9 (VI l)]) (λ_ _ _=>e) λ_ g j l _ b=>.q e (.a e e (.q e (.B λ_ m=>.st e (Ev.iaW e e e m) e (.st e (Ev.ldE (f:=encS) e e (at_some m).2 e e e) e (.f [29752] [] 0 e i q λ_ _=>.f [29752] [] 0 e i q λ_ _=>.c0 e i q λ_ _=>.B λ_ o=>.st e (Ev.iaW e e e o) e (.st e (Ev.ldE (f:=encS) e e (at_some o).2 e e e) e (.c0 e i q λ_ _=>.q e (.q e (.a e e (.Xr b e e (.il (.e e (.Ek [] e e e)))) (.a e e (.Xr b e e (.il (.e e (.Ek [] e e e)))) (.a e e (.Xr b e e (.il (.e e (.Ek [] e e e)))) (.R e (λh=>⟨_,_,_,h,e,e⟩) (.k [5,6,7,8,9] [0])))))))))))) (.X b e e (.ir (.n e (.J e (.k [6,7,8] []))))))) λc=>.Ek [] e e e
def s_l03Drop_l1 (N:Nat)(a:Disk)(d:BA):Nat->Int->(List File)->Option ((List File))
 |0,_,_=>none
 |m+1,b,c=>
 (if decide (b<(a.Files.length:Int))then
 joinP (λ(g:List File)=>
 s_l03Drop_l1 N a d m (w64 (b+1)) g) λf=>
 (at? a.Files b).bind λh=>
 (if(!decide (h.Name=d))then
 (at? a.Files b).bind λj=>
 (cat? c ([j]:List File)).bind λk=>
 f k
 else
 f c)
 else
 some c)
def s_l03Drop_l1_r (N:Nat)(f:Disk)(b:BA):(List File)->Int->(List File)->Option ((List File))
 |[],c,a=>
 some a
 |hd::tl,c,a=>
 joinP (λ(g:List File)=>
 s_l03Drop_l1_r N f b tl (w64 (c+1)) g) λd=>
 (some hd).bind λh=>
 (if(!decide (h.Name=b))then
 (some hd).bind λj=>
 (cat? a ([j]:List File)).bind λk=>
 d k
 else
 d a)
theorem s_l03Drop_l1_rng (N:Nat)(a:Disk)(c:BA)(hx:a.Files.length<=1099511627776):∀(d k m:Nat)(b:List File),a.Files.length=k+d->d<m->s_l03Drop_l1 N a c m (k:Int) b=s_l03Drop_l1_r N a c (a.Files.drop k) (k:Int) b:=by
 intro d
 induction d with
 |zero=>
  intro k m b hd hm
  obtain⟨m,rfl⟩:∃q,m=q+1:=⟨m-1,by omega⟩
  rw[s_l03Drop_l1,IQ (by simp;omega),DN (by omega),s_l03Drop_l1_r]
 |succ d ih=>
  intro k m b hd hm
  obtain⟨m,rfl⟩:∃q,m=q+1:=⟨m-1,by omega⟩
  have hk:k<a.Files.length:=by omega
  rw[s_l03Drop_l1,IP (by simp;omega),DG hk,s_l03Drop_l1_r]
  have f:=at_lt hk
  have g:=WS (k:=k) (by omega)
  have h:=ih (k+1) m
  simp only[f,g,h _ (by omega) (by omega)]
theorem s_l03Drop_l1_eq {N:Nat}(a:Disk)(b:BA)(hx:a.Files.length<=1099511627776)(hN:a.Files.length<N)(c:List File):s_l03Drop_l1 N a b N 0 c=s_l03Drop_l1_r N a b a.Files 0 c:=s_l03Drop_l1_rng N a b hx a.Files.length 0 N c (by omega) hN
def s_l03Drop (N:Nat)(a:Disk)(b:BA):Option (Disk):=
 joinP (λ(c:List File)=>
 some (Disk.mk c)) λd=>
 (s_l03Drop_l1 N a b N 0 ([]:(List File))).bind (λf=>d f)
instance i63 (N:Nat)(g:Disk)(l:BA):JG 221 (s_l03Drop N g l) [.agg [RO 93 (g.Files.map encFile)],VS l] 0 [] (λr=>.agg [.sl 0 93 0 r.Files.length]) (λr=>[(0,.vec 93 (r.Files.map encFile))]):=.st e e Tryz.call221 λB r=>.j e (λb=>[(4,.ptr 0 0),(5,.ptr 1 0)]) (λb=>[(0,.box [.sl 2 93 0 (([]:(List File)).length)]),(1,.box [.sl 3 93 0 b.length]),(2,.vec 93 (([]:(List File)).map encFile)),(3,.vec 93 (b.map encFile))]) (λ_=>.L2 e (λm d=>[(1,VS l),(2,.ptr 0 0),(4,.ptr 1 0),(5,.ptr 2 0),(6,VI m)]) (λm d=>[(0,.box [RO 93 (g.Files.map encFile)]),(1,.box [.sl 3 93 0 (([]:(List File)).length)]),(2,.box [.sl 4 93 0 d.length]),(3,.vec 93 (([]:(List File)).map encFile)),(4,.vec 93 (d.map encFile))]) (.n [1,2,4,5,6] [1000,1016,5112] [] [1016,5112] [1000,1016,5112,20000000,20000064]) λ_ m d _ p=>.q e (.st e (Ev.lnF e) e (.a e e (.jk e [1,2,4,5,6] [0,1,2,3,4] (λo=>[.c 2 0 (.sl 4 93 0 o.length),.r 4 (.vec 93 (o.map encFile))]) (λ_=>e) (λ_=>.B λ_ s=>.st e (Ev.iaF e e s) e (.a e e (.B λt u=>.st e (Ev.iaF e e u) e (.st e (Ev.bsW (ys:=([t]:List File)) (f:=encFile) e (.d2 .nil) e e e e e) e (.B λ_ w=>.st e (Ev.apW (f:=encFile) (ontoW e e e) (addsW e e e (λ_=>e)) e bt93 e w) e (.dn e (.J e (.k [1,2,4,5,6] [0,1,2,3,25704])))))) (.J e (.k [1,2,4,5,6] [0,1,2,3,4])))) λo=>.R e (λh=>⟨_,_,h,e,e⟩) (.k [1,2,4,5,6] [0,1,2,3,4])) (.X p e e (.n e (.J e (.k [4,5] [1,2,3,4]))))))) λb=>.Ek [3] e e e
def s_PutRaw (N:Nat)(b:Disk)(a:Raw):Option (Disk×Bool):=
 (s_l03At N b a.Name).bind λd=>
 joinP (λ(x:Unit)=>
 (cat? ([]:List File) b.Files).bind λf=>
 joinP (λ(g:List File)=>
 (s_DiskOk N (Disk.mk g)).bind λj=>
 (if(!j)then
 some ((Disk.mk ([])),false)
 else
 some ((Disk.mk g),true))) λc=>
 (if(a.Kind==1)then
 (s_l03Put N b (File.mk a.Name a.Text)).bind λk=>
 c k.Files
 else
 (if(a.Kind==2)then
 (s_l03Text N b a.Name).bind λl=>
 (scat? l a.Text).bind λm=>
 (s_l03Put N b (File.mk a.Name m)).bind λn=>
 c n.Files
 else
 (if(a.Kind==3)then
 (if(!decide (a.To=a.Name))then
 (s_l03Drop N b a.Name).bind λo=>
 (at? b.Files d).bind λp=>
 (s_l03Put N o (File.mk a.To p.Text)).bind λs=>
 c s.Files
 else
 c f)
 else
 (if(a.Kind==4)then
 (s_l03Drop N b a.Name).bind λt=>
 c t.Files
 else
 c f))))) λh=>
 (s_DiskOk N b).bind λu=>
 (if(!u)then
 some ((Disk.mk ([])),false)
 else
 (s_l01In N a.Kind 1 4).bind λw=>
 (if(!w)then
 some ((Disk.mk ([])),false)
 else
 (if decide (d<0)then
 (if decide (a.Kind>=3)then
 some ((Disk.mk ([])),false)
 else
 h ())
 else
 h ())))
instance i64 (N:Nat)(d:Disk)(g:Raw):JG 145 (s_PutRaw N d g) [.agg [RO 93 (d.Files.map encFile)],.agg (cRaw0 g [])] 0 [] (λr=>.tup [.agg [.sl 0 93 0 r.1.Files.length],VB r.2]) (λr=>[(0,.vec 93 (r.1.Files.map encFile))]):=.st e e Tryz.call145 λB r=>.c0 e i q λ_ _=>.jk e [2,3,4,6] [1000,1016,1032] (λ_=>[]) (λ_=>e) (λ_=>.q e (.c0 e i q λ_ _=>.a e e (.E e e (.n [0,1] [] [0] [] [10000000])) (.c0 e i q λ_ _=>.a e e (.E e e (.n [0,1] [] [0] [] [10000000])) (.a e e (.a e e (.E e e (.n [0,1] [] [0] [] [10000000])) (.J e (.k [2,3,4,6] [1000,1016,1032]))) (.J e (.k [2,3,4,6] [1000,1016,1032])))))) λ_=>.st e (Ev.bsW (ys:=([]:List File)) (f:=encFile) e .nil e e e e e) e (.B λ_ h=>.st e (Ev.apW (f:=encFile) (ontoW e e e) (addsF e) e bt93 e h) e (.jk e [4,7] [2,17464,17432] (λb=>[.c 1 0 (.sl 2 93 0 b.length),.r 2 (.vec 93 (b.map encFile))]) (λ_=>e) (λ_=>.a e e (.c1 e i q λ_ _=>.J e (.k [4,7] [2,17464,29768])) (.a e e (.c0 e i q λ_ _=>.B λ_ j=>.st e (Ev.addS e e j) e (.c1 e i q λ_ _=>.dn e (.J e (.k [4,7] [2,17464,38040])))) (.a e e (.a e e (.c1 e i q λ_ _=>.B λ_ l=>.st e (Ev.iaF e e l) e (.f (hp:=(.cons (.agg (.cons (.borrow e (by decide) lw) .nil)) (.cons (.agg (.d2 .nil)) .nil))) (hcase:=λ_=>(.inr ⟨rfl,ownL_root ⟨own_rows (λ_=>e) _,trivial⟩⟩)) [] [50200] 1 e i q λ_ _=>.dn e (.J e (.k [4,7] [2,17464,50360])))) (.J e (.k [4,7] [2,17464,17432]))) (.a e e (.c1 e i q λ_ _=>.J e (.k [4,7] [2,17464,58392])) (.J e (.k [4,7] [2,17464,17432])))))) λb=>.q e (.f (hp:=(.cons (.agg (.cons (.borrow e (by decide) lw) .nil)) .nil)) (hcase:=λ_=>(.inr ⟨rfl,ownL_root trivial⟩)) [] [2] 0 e i q λ_ _=>.a e e (.E e e (.n [0,1] [] [0] [] [10000000])) (.Ek [2] e e e))))
def s_PutRaws_l1 (N:Nat)(b:List Raw):Nat->Int->(List File)->Option ((Disk×Int)⊕((List File)))
 |0,_,_=>none
 |m+1,a,c=>
 (if decide (a<(b.length:Int))then
 (at? b a).bind λf=>
 (s_PutRaw N (Disk.mk c) f).bind λd=>
 (if(!d.2)then
 some (Sum.inl ((Disk.mk c),a))
 else
 s_PutRaws_l1 N b m (w64 (a+1)) d.1.Files)
 else
 some (Sum.inr c))
def s_PutRaws (N:Nat)(b:Disk)(a:List Raw):Option (Disk×Int):=
 (s_DiskOk N b).bind λc=>
 (if(!c)then
 some ((Disk.mk ([])),0)
 else
 (if decide ((a.length:Int)>60)then
 some ((Disk.mk ([])),0)
 else
 (cat? ([]:List File) b.Files).bind λd=>
 joinP (λ(f:List File)=>
 some ((Disk.mk f),(a.length:Int))) λg=>
 (s_PutRaws_l1 N a N 0 d).bind (Sum.elim (λh=>some h) (λ(j:List File)=>g j))))
instance i65 (N:Nat)(g:Disk)(j:List Raw):JG 74 (s_PutRaws N g j) [.agg [RO 93 (g.Files.map encFile)],RO 79 (j.map encRaw)] 0 [] (λr=>.tup [.agg [.sl 0 93 0 r.1.Files.length],VI r.2]) (λr=>[(0,.vec 93 (r.1.Files.map encFile))]):=.st e e Tryz.call74 λB r=>.q e (.q e (.c0 e i q λ_ _=>.a e e (.E e e (.n [0,1] [] [0] [] [10000000])) (.st e (Ev.lnF e) e (.a e e (.E e e (.n [0,1] [] [0] [] [10000000])) (.st e (Ev.bsW (ys:=([]:List File)) (f:=encFile) e .nil e e e e e) e (.B λ_ o=>.st e (Ev.apW (f:=encFile) (ontoW e e e) (addsF e) e bt93 e o) e (.jk e [1,4,6] [1016,13368,13336] (λb=>[.c 1 0 (.sl 2 93 0 b.length),.r 2 (.vec 93 (b.map encFile))]) (λ_=>e) (λ_=>.K2 e [1,4,6,7] [1016,13368,13336] (λl d=>[.f 7 (VI l),.c 1 0 (.sl 2 93 0 d.length),.r 2 (.vec 93 (d.map encFile))]) (λ_ _=>e) λ_ l d _ m=>.q e (.st e (Ev.lnF e) e (.a e e (.q e (.B λ_ p=>.st e (Ev.iaF e e p) e (.f (hp:=(.cons (.agg (.cons (.borrow e (by decide) lw) .nil)) (.cons (.agg (.d4 .nil)) .nil))) (hcase:=λ_=>(.inr ⟨rfl,ownL_root ⟨own_rows (λ_=>e) _,trivial⟩⟩)) [] [2] 1 e i q λ_ _=>.dn e (.q e (.a e e (.Xr m e e (.il (.e e (.Ek [2] e e e)))) (.R e (λh=>⟨_,_,h,e,e⟩) (.k [1,4,6,7] [0,1,29752]))))))) (.X m e e (.ir (.n e (.J e (.k [1,4,6] [0,1,2])))))))) λb=>.st e (Ev.lnF e) e (.Ek [2] e e e))))))))
def s_LogLast (N:Nat)(a:Log):Option (Int×Int):=
 (if((a.Entries.length:Int)==0)then
 some (a.Start,a.StartTerm)
 else
 (at? a.Entries (w64 ((a.Entries.length:Int)-1))).bind λb=>
 some (w64 (a.Start+(a.Entries.length:Int)),b.Term))
instance i66 (N:Nat)(b:Log):JG 147 (s_LogLast N b) [.agg [VI b.Start,VI b.StartTerm,RO 91 (b.Entries.map encEntry)]] 0 [] (λr=>.tup [VI r.1,VI r.2]) (λr=>[]):=.st e e Tryz.call147 λB r=>.st e (Ev.lnF e) e (.q e (.a e e (.dn e (.Ek [] e e e)) (.B λ_ c=>.st e (Ev.iaF e e c) e (.dn e (.Ek [] e e e)))))
def s_ConfAt_l1 (N:Nat)(a:Node)(f:Int):Nat->Int->(List Int)->Option ((List Int))
 |0,_,_=>none
 |m+1,b,c=>
 (if decide (b<(a.Log.Entries.length:Int))then
 (if(decide ((w64 ((w64 (a.Log.Start+1))+b))<=f))then
 joinP (λ(h:List Int)=>
 s_ConfAt_l1 N a f m (w64 (b+1)) h) λd=>
 (at? a.Log.Entries b).bind λj=>
 (if(j.Kind==2)then
 (at? a.Log.Entries b).bind λk=>
 (s_ReadConf N k.Data).bind λg=>
 (if g.2 then
 d g.1
 else
 d c)
 else
 d c)
 else
 some c)
 else
 some c)
def s_ConfAt (N:Nat)(a:Node)(b:Int):Option ((List Int)):=
 (cat? ([]:List Int) a.Conf).bind λc=>
 joinP (λ(d:List Int)=>
 some d) λf=>
 (s_ConfAt_l1 N a b N 0 c).bind (λg=>f g)
instance i67 (N:Nat)(g:Node)(l:Int):JG 178 (s_ConfAt N g l) [.agg (cNode0 g []),VI l] 0 [] (λr=>.sl 0 3 0 r.length) (λr=>[(0,.vec 3 (r.map encI))]):=.st e e Tryz.call178 λB r=>.st e (Ev.bsW (ys:=([]:List Int)) (f:=encI) e .nil e e e e e) e (.B λ_ p=>.st e (Ev.apW (f:=encI) (ontoW e e e) (addsF e) e bt3 e p) e (.j e (λb=>[(5,.sl 0 3 0 b.length)]) (λb=>[(0,.vec 3 (b.map encI))]) (λ_=>.K2 e [1,2,5,6] [1000,5144] (λm c=>[.f 5 (.sl 1 3 0 c.length),.f 6 (VI m),.r 1 (.vec 3 (c.map encI))]) (λ_ _=>e) λ_ m c _ o=>.q e (.q e (.st e (Ev.lnF e) e (.a e e (.a e e (.jk e [1,2,5,6] [0,1] (λd=>[.f 5 (.sl 1 3 0 d.length),.r 1 (.vec 3 (d.map encI))]) (λ_=>e) (λ_=>.B λ_ s=>.st e (Ev.iaF e e s) e (.a e e (.B λ_ t=>.st e (Ev.iaF e e t) e (.c1 e i q λ_ _=>.a e e (.J e (.k [1,2,5,6] [0,25688])) (.J e (.k [1,2,5,6] [0,1])))) (.J e (.k [1,2,5,6] [0,1])))) λd=>.R e (λh=>⟨_,_,h,e,e⟩) (.k [1,2,5,6] [0,1])) (.X o e e (.n e (.J e (.k [5] [1]))))) (.X o e e (.n e (.J e (.k [5] [1])))))))) λb=>.Ek [0] e e e))
def s_ConfOf (N:Nat)(a:Node):Option ((List Int)):=
 (s_ConfAt N a 100120).bind λb=>
 some b
instance i68 (N:Nat)(a:Node):JG 150 (s_ConfOf N a) [.agg (cNode0 a [])] 0 [] (λr=>.sl 0 3 0 r.length) (λr=>[(0,.vec 3 (r.map encI))]):=.st e e Tryz.call150 λB r=>.c1 e i q λ_ _=>.Ek [5112] e e e
def s_l16Others_l1 (N:Nat)(a:List Int)(d:Int):Nat->Int->(List Int)->Option ((List Int))
 |0,_,_=>none
 |m+1,b,c=>
 (if decide (b<(a.length:Int))then
 joinP (λ(g:List Int)=>
 s_l16Others_l1 N a d m (w64 (b+1)) g) λf=>
 (at? a b).bind λh=>
 (if(h !=d)then
 (at? a b).bind λj=>
 (cat? c ([j]:List Int)).bind λk=>
 f k
 else
 f c)
 else
 some c)
def s_l16Others (N:Nat)(a:List Int)(b:Int):Option ((List Int)):=
 joinP (λ(c:List Int)=>
 some c) λd=>
 (s_l16Others_l1 N a b N 0 ([]:List Int)).bind (λf=>d f)
instance i69 (N:Nat)(g:List Int)(l:Int):JG 149 (s_l16Others N g l) [RO 3 (g.map encI),VI l] 0 [] (λr=>.sl 0 3 0 r.length) (λr=>[(0,.vec 3 (r.map encI))]):=.st e e Tryz.call149 λB r=>.st e (Ev.bsW (ys:=([]:List Int)) (f:=encI) e .nil e e e e e) e (.j e (λb=>[(5,.sl 0 3 0 b.length)]) (λb=>[(0,.vec 3 (b.map encI))]) (λ_=>.K2 e [0,1,5,6] [5096] (λm c=>[.f 5 (.sl 0 3 0 c.length),.f 6 (VI m),.r 0 (.vec 3 (c.map encI))]) (λ_ _=>e) λ_ m c _ o=>.q e (.st e (Ev.lnF e) e (.a e e (.jk e [0,1,5,6] [0] (λd=>[.f 5 (.sl 0 3 0 d.length),.r 0 (.vec 3 (d.map encI))]) (λ_=>e) (λ_=>.B λ_ p=>.st e (Ev.iaF e e p) e (.a e e (.B λs t=>.st e (Ev.iaF e e t) e (.st e (Ev.bsW (ys:=([s]:List Int)) (f:=encI) e (.d1 .nil) e e e e e) e (.B λ_ u=>.st e (Ev.apW (f:=encI) (ontoW e e e) (addsW e e e (λ_=>e)) e bt3 e u) e (.J e (.k [0,1,5,6] [25672]))))) (.J e (.k [0,1,5,6] [0])))) λd=>.R e (λh=>⟨_,_,h,e,e⟩) (.k [0,1,5,6] [0])) (.X o e e (.n e (.J e (.k [5] [0]))))))) λb=>.Ek [0] e e e)
def s_NodeOk_l1 (N:Nat)(d:Node)(f:Int×Int)(c:List Int):Nat->Int->Option ((Bool)⊕(Unit))
 |0,_=>none
 |m+1,b=>
 (if decide (b<(c.length:Int))then
 (at? d.Peers b).bind λa=>
 (at? c b).bind λg=>
 (if(a.Id !=g)then
 some (Sum.inl false)
 else
 (s_l01In N a.Next 1 (w64 (f.1+1))).bind λh=>
 (if(!h)then
 some (Sum.inl false)
 else
 (s_l01In N a.Match 0 (w64 (a.Next-1))).bind λj=>
 (if(!j)then
 some (Sum.inl false)
 else
 (s_l01In N a.Sent 0 20000).bind λk=>
 (if(!k)then
 some (Sum.inl false)
 else
 s_NodeOk_l1 N d f c m (w64 (b+1))))))
 else
 some (Sum.inr ()))
def s_NodeOk (N:Nat)(a:Node):Option (Bool):=
 (s_l01In N a.Id 1 4).bind λg=>
 (if(!g)then
 some false
 else
 (s_ConfOk N a.Conf).bind λh=>
 (if(!h)then
 some false
 else
 (s_LogOk N a.Log).bind λj=>
 (if(!j)then
 some false
 else
 (s_l01In N a.Term 0 100000).bind λk=>
 (if(!k)then
 some false
 else
 (s_l01In N a.Vote 0 4).bind λl=>
 (if(!l)then
 some false
 else
 (s_l01In N a.Lead 0 4).bind λm=>
 (if(!m)then
 some false
 else
 (s_l01In N a.Role 0 2).bind λn=>
 (if(!n)then
 some false
 else
 (s_LogLast N a.Log).bind λb=>
 joinP (λ(v:Unit)=>
 joinP (λ(c:List Int)=>
 (if((a.Peers.length:Int)!=(c.length:Int))then
 some false
 else
 joinP (λ(z:Unit)=>
 some true) λo=>
 (s_NodeOk_l1 N a b c N 0).bind (Sum.elim (λp=>some p) (λ(a0:Unit)=>o ())))) λd=>
 (if(a.Role==2)then
 (s_ConfOf N a).bind λs=>
 (s_l16Others N s a.Id).bind λt=>
 d t
 else
 d ([]:List Int))) λf=>
 (if decide (a.Term<b.2)then
 some false
 else
 (s_l01In N a.Commit a.Log.Start b.1).bind λu=>
 (if(!u)then
 some false
 else
 (s_l01In N a.Clock 0 20).bind λw=>
 (if(!w)then
 some false
 else
 (s_l01In N a.Limit 1 20).bind λx=>
 (if(!x)then
 some false
 else
 (s_l07Rise N a.Votes 1 4).bind λy=>
 (if(!y)then
 some false
 else
 (if decide ((a.Votes.length:Int)>0)then
 (if(a.Role !=1)then
 some false
 else
 f ())
 else
 f ())))))))))))))
instance i70 (N:Nat)(d:Node):JB 75 (s_NodeOk N d) [.agg (cNode0 d [])]:=.st e e Tryz.call75 λB r=>.q e (.q e (.c0 e i q λ_ _=>.a e e (.Ek [] e e e) (.c0 e i q λ_ _=>.a e e (.Ek [] e e e) (.c0 e i q λ_ _=>.a e e (.Ek [] e e e) (.c0 e i q λ_ _=>.a e e (.Ek [] e e e) (.c0 e i q λ_ _=>.a e e (.Ek [] e e e) (.c0 e i q λ_ _=>.a e e (.Ek [] e e e) (.c0 e i q λ_ _=>.a e e (.Ek [] e e e) (.c0 e i q λ_ _=>.jk e [1,3] [1000] (λ_=>[]) (λ_=>e) (λ_=>.q e (.a e e (.Ek [] e e e) (.c0 e i q λ_ _=>.a e e (.Ek [] e e e) (.c0 e i q λ_ _=>.a e e (.Ek [] e e e) (.c0 e i q λ_ _=>.a e e (.Ek [] e e e) (.c0 e i q λ_ _=>.a e e (.Ek [] e e e) (.st e (Ev.lnF e) e (.a e e (.a e e (.Ek [] e e e) (.J e (.k [1,3] [1000]))) (.J e (.k [1,3] [1000])))))))))) λ_=>.st e (Ev.bsW (ys:=([]:List Int)) (f:=encI) e .nil e e e e e) e (.jk e [1,3,5] [0,25576] (λc=>[.f 5 (.sl 1 3 0 c.length),.r 1 (.vec 3 (c.map encI))]) (λ_=>e) (λ_=>.a e e (.c1 e i q λ_ _=>.f (hp:=(.cons (.borrow e (by decide) lw) (.d1 .nil))) (hcase:=λ_=>(.inr ⟨rfl,ownL_root ⟨own_rows (λ_=>e) _,trivial⟩⟩)) [] [33784] 1 e i q λ_ _=>.dn e (.J e (.k [1,3,5] [0,33832]))) (.J e (.k [1,3,5] [0,25576]))) λc=>.q e (.st e (Ev.lnF e) e (.a e e (.Ek [] e e e) (.j e (λ_=>[]) (λ_=>[]) (λ_=>.K1 e [1,3,5,6] [0,1] (λg=>[.f 6 (VI g)]) (λ_=>e) λ_ g _ b=>.q e (.a e e (.q e (.B λ_ m=>.st e (Ev.iaF e e m) e (.q e (.B λ_ l=>.st e (Ev.iaW e e e l) e (.st e (Ev.ldE (f:=encI) e e (at_some l).2 e e e) e (.a e e (.dn e (.Xr b e e (.il (.e e (.Ek [] e e e))))) (.c0 e i q λ_ _=>.a e e (.dn e (.Xr b e e (.il (.e e (.Ek [] e e e))))) (.c0 e i q λ_ _=>.a e e (.dn e (.Xr b e e (.il (.e e (.Ek [] e e e))))) (.c0 e i q λ_ _=>.dn e (.a e e (.Xr b e e (.il (.e e (.Ek [] e e e)))) (.R e (λh=>⟨_,h,e,e⟩) (.k [1,3,5,6] [0,1])))))))))))) (.X b e e (.ir (.n e (.J e (.k [] []))))))) λ_=>.Ek [] e e e)))))))))))))
def s_Boot (N:Nat)(k:Int)(b:Disk)(l:Int):Option (Server×(List Raw)×Int):=
 (s_OpenShelf N b).bind λa=>
 (if(a.2.2 !=0)then
 some ((Server.mk (Node.mk 0 0 0 0 0 ([]) (Log.mk 0 0 ([])) 0 0 0 ([]) ([])) (Disk.mk ([])) (Shelf.mk (Manifest.mk ([]) 0 0 0 ([])) ([]) 0) (⟨#[]⟩:BA) 0 0),([]:List Raw),1)
 else
 (s_FileAt N b (⟨#[108,111,103]⟩:BA)).bind λf=>
 (s_ReadLog N f.1).bind λd=>
 (if(!f.2)then
 some ((Server.mk (Node.mk 0 0 0 0 0 ([]) (Log.mk 0 0 ([])) 0 0 0 ([]) ([])) (Disk.mk ([])) (Shelf.mk (Manifest.mk ([]) 0 0 0 ([])) ([]) 0) (⟨#[]⟩:BA) 0 0),([]:List Raw),2)
 else
 (if(!d.2.2)then
 some ((Server.mk (Node.mk 0 0 0 0 0 ([]) (Log.mk 0 0 ([])) 0 0 0 ([]) ([])) (Disk.mk ([])) (Shelf.mk (Manifest.mk ([]) 0 0 0 ([])) ([]) 0) (⟨#[]⟩:BA) 0 0),([]:List Raw),2)
 else
 (s_LogBehind N d.1 a.1.Man.Base a.1.Man.BaseTerm).bind λg=>
 joinP (λ(m:List Raw)=>
 (s_l03Text N b (⟨#[118,111,116,101]⟩:BA)).bind λh=>
 (s_ReadVotes N h).bind λc=>
 joinP (λ(n:List Raw)=>
 joinP (λ(o:List Raw)=>
 (s_PutRaws N b o).bind λx=>
 (cat? ([]:List Int) a.1.Man.Conf).bind λp=>
 (s_NodeOk N (Node.mk k c.1 c.2.1 0 0 p g a.1.Stamp 0 l ([]) ([]))).bind λy=>
 (if(!y)then
 some ((Server.mk (Node.mk 0 0 0 0 0 ([]) (Log.mk 0 0 ([])) 0 0 0 ([]) ([])) (Disk.mk ([])) (Shelf.mk (Manifest.mk ([]) 0 0 0 ([])) ([]) 0) (⟨#[]⟩:BA) 0 0),([]:List Raw),3)
 else
 some ((Server.mk (Node.mk k c.1 c.2.1 0 0 p g a.1.Stamp 0 l ([]) ([])) x.1 a.1 (⟨#[]⟩:BA) 0 0),o,0))) λs=>
 (s_l03At N b (⟨#[118,111,116,101,43]⟩:BA)).bind λv=>
 (if decide (v>=0)then
 (cat? n ([(Raw.mk 4 (⟨#[118,111,116,101,43]⟩:BA) (⟨#[]⟩:BA) (⟨#[]⟩:BA))]:List Raw)).bind λz=>
 s z
 else
 s n)) λt=>
 (if decide (c.2.2<(h.size:Int))then
 (stake? h c.2.2).bind λa0=>
 (cat? m ([(Raw.mk 1 (⟨#[118,111,116,101]⟩:BA) (⟨#[]⟩:BA) a0)]:List Raw)).bind λa1=>
 t a1
 else
 t m)) λj=>
 (s_l12Same N d.1 g).bind λa2=>
 (if(!a2)then
 (s_LogFile N g).bind λa3=>
 (cat? a.2.1 ([(Raw.mk 1 (⟨#[108,111,103,43]⟩:BA) (⟨#[]⟩:BA) a3.1),(Raw.mk 3 (⟨#[108,111,103,43]⟩:BA) (⟨#[108,111,103]⟩:BA) (⟨#[]⟩:BA))]:List Raw)).bind λa4=>
 j a4
 else
 joinP (λ(u:List Raw)=>
 (s_l03At N b (⟨#[108,111,103,43]⟩:BA)).bind λa5=>
 (if decide (a5>=0)then
 (cat? u ([(Raw.mk 4 (⟨#[108,111,103,43]⟩:BA) (⟨#[]⟩:BA) (⟨#[]⟩:BA))]:List Raw)).bind λa6=>
 j a6
 else
 j u)) λw=>
 (if decide (d.2.1<(f.1.size:Int))then
 (stake? f.1 d.2.1).bind λa7=>
 (cat? a.2.1 ([(Raw.mk 1 (⟨#[108,111,103]⟩:BA) (⟨#[]⟩:BA) a7)]:List Raw)).bind λa8=>
 w a8
 else
 w a.2.1)))))
instance i71 (N:Nat)(h:Int)(j:Disk)(l:Int):JG 30 (s_Boot N h j l) [VI h,.agg [RO 93 (j.Files.map encFile)],VI l] 0 [] (λr=>.tup [.agg (cServer0 r.1 0 1 2 3 4 5 6 7 []),.sl 8 79 0 r.2.1.length,VI r.2.2]) (λr=>(rServer0 r.1 0 1 2 3 4 5 6 7 [(8,.vec 79 (r.2.1.map encRaw))])):=.st e e Tryz.call30 λB r=>.st e (Ev.bsW (ys:=([]:List Raw)) (f:=encRaw) e .nil e e e e e) e (.f [] [] 4 e i q λ_ _=>.q e (.a e e (.E e e (.n [0,1,2] [5096] [0] [] [10000000,10000001,10000002,10000003,10000004,10000005,10000006,10000007,5096])) (.c0 e i q λ_ _=>.c1 e i q λ_ _=>.q e (.q e (.a e e (.E e e (.n [0,1,2] [5096] [0] [] [10000000,10000001,10000002,10000003,10000004,10000005,10000006,10000007,5096])) (.a e e (.E e e (.n [0,1,2] [5096] [0] [] [10000000,10000001,10000002,10000003,10000004,10000005,10000006,10000007,5096])) (.f (hp:=(.cons (.agg (.d2 (.cons (.borrow e (by decide) lw) .nil))) (.d2 .nil))) (hcase:=λ_=>(.inr ⟨rfl,ownL_root ⟨own_rows (λ_=>e) _,trivial⟩⟩)) [] [25592] 1 e i q λ_ _=>.jk e [0,2,4,6,9,10,11,18] [1000,1016,5096,9288,9211,37992,9208,9209,9210,37976] (λb=>[.f 11 (.sl 4 79 0 b.length),.r 4 (.vec 79 (b.map encRaw))]) (λ_=>e) (λ_=>.f (hp:=(.cons (.agg (.d2 (.cons (.borrow e (by decide) lw) .nil))) (.cons (.agg (.d2 (.cons (.borrow e (by decide) lw) .nil))) .nil))) (hcase:=λ_=>(.inr ⟨rfl,ownL_root trivial⟩)) [] [25592,37976] 0 e i q λ_ _=>.a e e (.f (hp:=(.cons (.agg (.d2 (.cons (.borrow e (by decide) lw) .nil))) .nil)) (hcase:=λ_=>(.inr ⟨rfl,ownL_root trivial⟩)) [] [37976] 0 e i q λm _=>.st e (Ev.bsW (ys:=([(Raw.mk 1 (⟨#[108,111,103,43]⟩:BA) (⟨#[]⟩:BA) m.1),(Raw.mk 3 (⟨#[108,111,103,43]⟩:BA) (⟨#[108,111,103]⟩:BA) (⟨#[]⟩:BA))]:List Raw)) (f:=encRaw) e (.d4 (.d4 .nil)) e e e e e) e (.B λ_ o=>.st e (Ev.apW (f:=encRaw) (ontoW e e e) (addsW e e e (λ_=>e)) e bt79 e o) e (.J e (.k [0,2,4,6,9,10,11,18] [1000,1016,5096,9288,50232,37992,9208,9209,9210,37976])))) (.jk e [0,2,4,6,9,10,11,18] [1000,1016,5096,9288,9211,37992,9208,9209,9210,37976] (λc=>[.f 11 (.sl 4 79 0 c.length),.r 4 (.vec 79 (c.map encRaw))]) (λ_=>e) (λ_=>.a e e (.B λp s=>.st e (Ev.ssH e e s) e (.st e (Ev.bsW (ys:=([(Raw.mk 1 (⟨#[108,111,103]⟩:BA) (⟨#[]⟩:BA) p)]:List Raw)) (f:=encRaw) e (.d4 .nil) e e e e e) e (.B λ_ t=>.st e (Ev.apW (f:=encRaw) (ontoW e e e) (addsW e e e (λ_=>e)) e bt79 e t) e (.J e (.k [0,2,4,6,9,10,11,18] [1000,1016,5096,9288,58440,37992,9208,9209,9210,37976]))))) (.J e (.k [0,2,4,6,9,10,11,18] [1000,1016,5096,9288,9211,37992,9208,9209,9210,37976]))) λc=>.c0 e i q λ_ _=>.a e e (.st e (Ev.bsW (ys:=([(Raw.mk 4 (⟨#[108,111,103,43]⟩:BA) (⟨#[]⟩:BA) (⟨#[]⟩:BA))]:List Raw)) (f:=encRaw) e (.d4 .nil) e e e e e) e (.B λ_ u=>.st e (Ev.apW (f:=encRaw) (ontoW e e e) (addsW e e e (λ_=>e)) e bt79 e u) e (.J e (.k [0,2,4,6,9,10,11,18] [0,1,2,3,66584,5,6,7,8,9])))) (.J e (.k [0,2,4,6,9,10,11,18] [0,1,2,3,4,5,6,7,8,9])))) λb=>.c0 e i q λ_ _=>.c0 e i q λ_ _=>.jk e [0,2,4,6,9,10,11,18,22,23] [0,1,2,3,4,5,6,7,8,9] (λd=>[.f 11 (.sl 4 79 0 d.length),.r 4 (.vec 79 (d.map encRaw))]) (λ_=>e) (λ_=>.a e e (.B λw x=>.st e (Ev.ssH e e x) e (.st e (Ev.bsW (ys:=([(Raw.mk 1 (⟨#[118,111,116,101]⟩:BA) (⟨#[]⟩:BA) w)]:List Raw)) (f:=encRaw) e (.d4 .nil) e e e e e) e (.B λ_ y=>.st e (Ev.apW (f:=encRaw) (ontoW e e e) (addsW e e e (λ_=>e)) e bt79 e y) e (.J e (.k [0,2,4,6,9,10,11,18,22,23] [0,1,2,3,83016,5,6,7,8,9]))))) (.J e (.k [0,2,4,6,9,10,11,18,22,23] [0,1,2,3,4,5,6,7,8,9]))) λd=>.jk e [0,2,4,6,9,10,11,18,22,23] [0,1,2,3,4,5,6,7,8,9] (λg=>[.f 11 (.sl 4 79 0 g.length),.r 4 (.vec 79 (g.map encRaw))]) (λ_=>e) (λ_=>.c0 e i q λ_ _=>.a e e (.st e (Ev.bsW (ys:=([(Raw.mk 4 (⟨#[118,111,116,101,43]⟩:BA) (⟨#[]⟩:BA) (⟨#[]⟩:BA))]:List Raw)) (f:=encRaw) e (.d4 .nil) e e e e e) e (.B λ_ v=>.st e (Ev.apW (f:=encRaw) (ontoW e e e) (addsW e e e (λ_=>e)) e bt79 e v) e (.J e (.k [0,2,4,6,9,10,11,18,22,23] [0,1,2,3,91160,5,6,7,8,9])))) (.J e (.k [0,2,4,6,9,10,11,18,22,23] [0,1,2,3,4,5,6,7,8,9]))) λg=>.f (hp:=(.cons (.agg (.d1 .nil)) (.cons (.borrow e (by decide) lw) .nil))) (hcase:=λ_=>(.inr ⟨rfl,ownL_root ⟨own_rows (λ_=>e) _,trivial⟩⟩)) [] [4] 1 e i q λ_ _=>.st e (Ev.bsW (ys:=([]:List Int)) (f:=encI) e .nil e e e e e) e (.B λ_ z=>.st e (Ev.apW (f:=encI) (ontoW e e e) (addsW e e e (λ_=>e)) e bt3 e z) e (.dn e (.q e (.f (hp:=(.cons (.agg (.d4 (.d1 (.cons (.borrow e (by decide) lw) (.d2 (.cons (.borrow e (by decide) lw) (.d2 (.d1 (.cons (.nil _ _) (.cons (.nil _ _) .nil)))))))))) .nil)) (hcase:=λ_=>(.inr ⟨rfl,ownL_root trivial⟩)) [] [99416,9] 0 e i q λ_ _=>.a e e (.E e e (.n [0,1,2] [2] [0] [] [10000000,10000001,10000002,10000003,10000004,10000005,10000006,10000007,2])) (.E e e (.n [0,1,2] [99416,9,95240,6,7,8,4] [0] [] [99416,9,10000000,10000001,95240,6,7,8,4])))))))))))))
def s_l07Conf_l1 (N:Nat):Nat->Int->(List Int)->Int->Int->(List Int)->Option ((List Int)×Int×Int×(List Int))
 |0,_,_,_,_,_=>none
 |m+1,d,g,j,k,f=>
 (if decide (d<=4)then
 joinP (λ(c:(List Int)×Int×Int×(List Int))=>
 s_l07Conf_l1 N m (w64 (d+1)) c.1 c.2.1 c.2.2.1 c.2.2.2) λl=>
 (s_l01Once N (Tl01Cur.mk g j k) 2).bind λa=>
 (if a.1 then
 (cat? f ([d]:List Int)).bind λn=>
 l (a.2.b,a.2.i,a.2.h,n)
 else
 l (a.2.b,a.2.i,a.2.h,f))
 else
 some (g,j,k,f))
def s_l07Conf (N:Nat)(d:Tl01Cur):Option ((List Int)×Tl01Cur):=
 joinP (λ(a:(List Int)×Int×Int×(List Int))=>
 joinP (λ(g:List Int)=>
 some (g,(Tl01Cur.mk a.1 a.2.1 a.2.2.1))) λf=>
 (if((a.2.2.2.length:Int)==0)then
 (cat? a.2.2.2 ([1]:List Int)).bind λj=>
 f j
 else
 f a.2.2.2)) λk=>
 (s_l07Conf_l1 N N 1 d.b d.i d.h ([]:List Int)).bind (λc=>k (c.1,c.2.1,c.2.2.1,c.2.2.2))
instance i72 (N:Nat)(g:Tl01Cur):JG 77 (s_l07Conf N g) [.ptr 0 0] 1 [(0,.box [RO 5 (g.b.map encU),VI g.i,VI g.h])] (λr=>.sl 1 3 0 r.1.length) (λr=>[(0,.box [RO 5 (r.2.b.map encU),VI r.2.i,VI r.2.h]),(1,.vec 3 (r.1.map encI))]):=.st e e Tryz.call77 λB r=>.st e (Ev.bsW (ys:=([]:List Int)) (f:=encI) e .nil e e e e e) e (.j e (λc=>[(3,.sl 1 3 0 c.2.2.2.length)]) (λc=>[(0,.box [RO 5 (c.1.map encU),VI c.2.1,VI c.2.2.1]),(1,.vec 3 (c.2.2.2.map encI))]) (λ_=>.K5 e [0,3,4] [0,5096] (λl p s t m=>[.f 3 (.sl 1 3 0 m.length),.f 4 (VI l),.r 0 (.box [RO 5 (p.map encU),VI s,VI t]),.r 1 (.vec 3 (m.map encI))]) (λ_ _ _ _ _=>e) λ_ l p s t m _ u=>.q e (.a e e (.jk e [0,3,4] [0,1] (λd=>[.f 3 (.sl 1 3 0 d.2.2.2.length),.r 0 (.box [RO 5 (d.1.map encU),VI d.2.1,VI d.2.2.1]),.r 1 (.vec 3 (d.2.2.2.map encI))]) (λ_=>e) (λ_=>.f [0] [] 0 e i q λ_ _=>.a e e (.st e (Ev.bsW (ys:=([l]:List Int)) (f:=encI) e (.d1 .nil) e e e e e) e (.B λ_ w=>.st e (Ev.apW (f:=encI) (ontoW e e e) (addsW e e e (λ_=>e)) e bt3 e w) e (.J e (.k [0,3,4] [0,25624])))) (.J e (.k [0,3,4] [0,1]))) λd=>.R e (λh=>⟨_,_,_,_,_,h,e,e⟩) (.k [0,3,4] [0,1])) (.X u e e (.n e (.J e (.k [3] [0,1])))))) λc=>.jk e [3] [0,1] (λo=>[.f 3 (.sl 1 3 0 o.length),.r 1 (.vec 3 (o.map encI))]) (λ_=>e) (λ_=>.a e e (.st e (Ev.bsW (ys:=([1]:List Int)) (f:=encI) e (.d1 .nil) e e e e e) e (.B λ_ x=>.st e (Ev.apW (f:=encI) (ontoW e e e) (addsW e e e (λ_=>e)) e bt3 e x) e (.J e (.k [3] [0,33800])))) (.J e (.k [3] [0,1]))) λo=>.Ek [0,1] e e e)
def s_ConfText_l1 (N:Nat)(a:List Int):Nat->Int->(List Int)->Option ((List Int))
 |0,_,_=>none
 |m+1,b,c=>
 (if decide (b<(a.length:Int))then
 (at? a b).bind λd=>
 (cat? c ([IntKind.wrap .u8 (d)]:List Int)).bind λf=>
 s_ConfText_l1 N a m (w64 (b+1)) f
 else
 some c)
def s_ConfText (N:Nat)(a:List Int):Option (BA×Bool):=
 (s_ConfOk N a).bind λb=>
 (if(!b)then
 some ((⟨#[]⟩:BA),false)
 else
 joinP (λ(c:List Int)=>
 some (strOf c,true)) λd=>
 (s_ConfText_l1 N a N 0 ([]:List Int)).bind (λf=>d f))
instance i73 (N:Nat)(d:List Int):JG 76 (s_ConfText N d) [RO 3 (d.map encI)] 0 [] (λr=>.tup [VS r.1,VB r.2]) (λr=>[]):=.st e e Tryz.call76 λB r=>.q e (.c0 e i q λ_ _=>.a e e (.Ek [] e e e) (.st e (Ev.bsW (ys:=([]:List Int)) (f:=encU) e .nil e e e e e) e (.j e (λb=>[(4,.sl 0 5 0 b.length)]) (λb=>[(0,.vec 5 (b.map encU))]) (λ_=>.K2 e [0,4,5] [13288] (λg c=>[.f 4 (.sl 0 5 0 c.length),.f 5 (VI g),.r 0 (.vec 5 (c.map encU))]) (λ_ _=>e) λ_ g c _ l=>.q e (.st e (Ev.lnF e) e (.a e e (.B λm o=>.st e (Ev.iaF e e o) e (.st e (Ev.bsW (ys:=([IntKind.wrap .u8 (m)]:List Int)) (f:=encU) e (.d1 .nil) e e e e e) e (.B λ_ p=>.st e (Ev.apW (f:=encU) (ontoW e e e) (addsW e e e (λ_=>e)) e bt5 e p) e (.R e (λh=>⟨_,_,h,e,e⟩) (.k [0,4,5] [29784]))))) (.X l e e (.n e (.J e (.k [4] [0]))))))) λb=>.st e (.sbC (addsW (f:=encU) e e e (λ_=>e))) e (.Ek [] e e e))))
def s_l01Pick_i1 (N:Nat)(c:Tl01Cur)(a:List BA):Option (BA×Tl01Cur):=
 (s_l01Below N c (a.length:Int)).bind λb=>
 (at? a b.1).bind λd=>
 some (d,b.2)
instance i75 (N:Nat)(a:Tl01Cur)(c:List BA):JG 222 (s_l01Pick_i1 N a c) [.ptr 0 0,.sl 1 9 0 c.length] 2 [(0,.box [RO 5 (a.b.map encU),VI a.i,VI a.h]),(1,.vec 9 (c.map encS))] (λr=>VS r.1) (λr=>[(0,.box [RO 5 (r.2.b.map encU),VI r.2.i,VI r.2.h]),(1,.vec 9 (c.map encS))]):=.st e e Tryz.call222 λB r=>.f [0] [] 0 e i q λ_ _=>.B λ_ d=>.st e (Ev.iaW e e e d) e (.st e (Ev.ldE (f:=encS) e e (at_some d).2 e e e) e (.Ek [0,1] e e e))
def s_l15Right (N:Nat)(n:Tl01Cur):Option (Command×Tl01Cur):=
 (s_l01Below N n 5).bind λa=>
 (if((w64 (1+a.1))==1)then
 some ((Command.mk (w64 (1+a.1)) 0 0 (⟨#[]⟩:BA) (⟨#[]⟩:BA) (⟨#[]⟩:BA)),a.2)
 else
 (s_l01Below N a.2 4).bind λk=>
 (s_l01Below N k.2 3).bind λl=>
 (s_l01Pick_i1 N l.2 ([(⟨#[97]⟩:BA),(⟨#[98]⟩:BA),(⟨#[99]⟩:BA)]:List BA)).bind λc=>
 joinP (λ(d:(List Int)×Int×Int×BA×BA)=>
 some ((Command.mk (w64 (1+a.1)) (w64 (1+k.1)) (w64 (1+l.1)) c.1 d.2.2.2.1 d.2.2.2.2),(Tl01Cur.mk d.1 d.2.1 d.2.2.1))) λj=>
 (if((w64 (1+a.1))==3)then
 (s_l01Pick_i1 N c.2 ([(⟨#[]⟩:BA),(⟨#[49]⟩:BA),(⟨#[50]⟩:BA),(⟨#[116,104,114,101,101]⟩:BA)]:List BA)).bind λf=>
 j (f.2.b,f.2.i,f.2.h,f.1,(⟨#[]⟩:BA))
 else
 (if((w64 (1+a.1))==5)then
 (s_l01Pick_i1 N c.2 ([(⟨#[]⟩:BA),(⟨#[49]⟩:BA),(⟨#[50]⟩:BA),(⟨#[116,104,114,101,101]⟩:BA)]:List BA)).bind λm=>
 (s_l01Pick_i1 N m.2 ([(⟨#[]⟩:BA),(⟨#[49]⟩:BA),(⟨#[50]⟩:BA),(⟨#[116,104,114,101,101]⟩:BA)]:List BA)).bind λg=>
 j (g.2.b,g.2.i,g.2.h,m.1,g.1)
 else
 j (c.2.b,c.2.i,c.2.h,(⟨#[]⟩:BA),(⟨#[]⟩:BA)))))
instance i76 (N:Nat)(g:Tl01Cur):JG 154 (s_l15Right N g) [.ptr 0 0] 1 [(0,.box [RO 5 (g.b.map encU),VI g.i,VI g.h])] (λr=>.agg (cCommand0 r.1 [])) (λr=>[(0,.box [RO 5 (r.2.b.map encU),VI r.2.i,VI r.2.h])]):=.st e e Tryz.call154 λB r=>.f [0] [] 0 e i q λ_ _=>.q e (.a e e (.Ek [0] e e e) (.f [0] [] 0 e i q λ_ _=>.f [0] [] 0 e i q λ_ _=>.st e (Ev.bsW (ys:=([(⟨#[97]⟩:BA),(⟨#[98]⟩:BA),(⟨#[99]⟩:BA)]:List BA)) (f:=encS) e (.d2 (.d1 .nil)) e e e e e) e (.f [0,25592] [] 0 e i q λ_ _=>.jk e [2,3] [0,1000,5160] (λd=>[.r 0 (.box [RO 5 (d.1.map encU),VI d.2.1,VI d.2.2.1]),.c 2 4 (VS d.2.2.2.1),.c 2 5 (VS d.2.2.2.2)]) (λ_=>e) (λ_=>.a e e (.st e (Ev.bsW (ys:=([(⟨#[]⟩:BA),(⟨#[49]⟩:BA),(⟨#[50]⟩:BA),(⟨#[116,104,114,101,101]⟩:BA)]:List BA)) (f:=encS) e (.d4 .nil) e e e e e) e (.f [0,37880] [] 0 e i q λ_ _=>.J e (.k [2,3] [0,1000,5160]))) (.a e e (.st e (Ev.bsW (ys:=([(⟨#[]⟩:BA),(⟨#[49]⟩:BA),(⟨#[50]⟩:BA),(⟨#[116,104,114,101,101]⟩:BA)]:List BA)) (f:=encS) e (.d4 .nil) e e e e e) e (.f [0,46072] [] 0 e i q λ_ _=>.st e (Ev.bsW (ys:=([(⟨#[]⟩:BA),(⟨#[49]⟩:BA),(⟨#[50]⟩:BA),(⟨#[116,104,114,101,101]⟩:BA)]:List BA)) (f:=encS) e (.d4 .nil) e e e e e) e (.f [0,50168] [] 0 e i q λ_ _=>.J e (.k [2,3] [0,1000,5160])))) (.J e (.k [2,3] [0,1000,5160])))) λd=>.Ek [0] e e e)))
def s_l15Read_l1 (N:Nat)(b:BA):Nat->Int->Option (Int)
 |0,_=>none
 |m+1,a=>
 (if decide (a<(b.size:Int))then
 (sat? b a).bind λc=>
 (if(c !=32)then
 s_l15Read_l1 N b m (w64 (a+1))
 else
 some a)
 else
 some a)
def s_l15Read_l2 (N:Nat)(b:BA):Nat->Int->Option (Int)
 |0,_=>none
 |m+1,a=>
 (if decide (a<(b.size:Int))then
 (sat? b a).bind λc=>
 (if(c !=32)then
 s_l15Read_l2 N b m (w64 (a+1))
 else
 some a)
 else
 some a)
def s_l15Read (N:Nat)(b:Int)(a:BA):Option (Tl15State×Bool):=
 joinP (λ(c:Int)=>
 joinP (λ(d:Int)=>
 (if decide (d>=(a.size:Int))then
 some ((Tl15State.mk b 0 0 (⟨#[]⟩:BA)),false)
 else
 (stake? a c).bind λj=>
 (s_ReadDecimal N j).bind λf=>
 (scut? a (w64 (c+1)) d).bind λk=>
 (s_ReadDecimal N k).bind λg=>
 (sdrop? a (w64 (d+1))).bind λh=>
 (if f.2 then
 some ((Tl15State.mk b f.1 g.1 h),g.2)
 else
 some ((Tl15State.mk b f.1 g.1 h),false)))) λl=>
 (s_l15Read_l2 N a N (w64 (c+1))).bind (λm=>l m)) λn=>
 (s_l15Read_l1 N a N 0).bind (λo=>n o)
instance i77 (N:Nat)(b:Int)(c:BA):JG 223 (s_l15Read N b c) [VI b,VS c] 0 [] (λr=>.tup [.agg (cTl15State0 r.1 []),VB r.2]) (λr=>[]):=.st e e Tryz.call223 λB r=>.jk e [0,1,4,6] [1000] (λd=>[.f 6 (VI d)]) (λ_=>e) (λ_=>.K1 e [0,1,4,6] [1000] (λg=>[.f 6 (VI g)]) (λ_=>e) λ_ g _ j=>.q e (.q e (.a e e (.B λ_ p=>.st e (Ev.ixS e e p) e (.a e e (.R e (λh=>⟨_,h,e,e⟩) (.k [0,1,4,6] [0])) (.X j e e (.n e (.J e (.k [0,1,4,6] [0])))))) (.X j e e (.n e (.J e (.k [0,1,4,6] [0]))))))) λd=>.jk e [0,1,4,6,7] [0] (λl=>[.f 7 (VI l)]) (λ_=>e) (λ_=>.K1 e [0,1,4,6,7] [0] (λm=>[.f 7 (VI m)]) (λ_=>e) λ_ m _ o=>.q e (.q e (.a e e (.B λ_ s=>.st e (Ev.ixS e e s) e (.a e e (.R e (λh=>⟨_,h,e,e⟩) (.k [0,1,4,6,7] [0])) (.X o e e (.n e (.J e (.k [0,1,4,6,7] [0])))))) (.X o e e (.n e (.J e (.k [0,1,4,6,7] [0]))))))) λl=>.q e (.a e e (.Ek [] e e e) (.B λ_ t=>.st e (Ev.ssH e e t) e (.c0 e i q λ_ _=>.B λ_ u=>.st e (Ev.ssB e e e u) e (.c0 e i q λ_ _=>.B λ_ w=>.st e (Ev.ssL e e w) e (.q e (.a e e (.Ek [] e e e) (.Ek [] e e e)))))))
def s_l15Sessions_l2 (N:Nat)(b:List Tl15State)(c:Int×Bool):Nat->Int->Option (Int)
 |0,_=>none
 |m+1,a=>
 (if decide (a>0)then
 (at? b (w64 (a-1))).bind λd=>
 (if decide (d.id>c.1)then
 s_l15Sessions_l2 N b c m (w64 (a-1))
 else
 some a)
 else
 some a)
def s_l15Sessions_l1 (N:Nat)(b:List Pair):Nat->Int->(List Tl15State)->Option (((List Tl15State)×Bool)⊕((List Tl15State)))
 |0,_,_=>none
 |m+1,c,a=>
 (if decide (c<(b.length:Int))then
 joinP (λ(j:List Tl15State)=>
 s_l15Sessions_l1 N b m (w64 (c+1)) j) λg=>
 (at? b c).bind λk=>
 (sat? k.Key 0).bind λl=>
 (if(l !=115)then
 g a
 else
 (at? b c).bind λn=>
 (sdrop? n.Key 1).bind λo=>
 (s_ReadDecimal N o).bind λf=>
 (at? b c).bind λp=>
 (s_l15Read N f.1 p.Value).bind λh=>
 (if(!f.2)then
 some (Sum.inl (a,false))
 else
 (if(!h.2)then
 some (Sum.inl (a,false))
 else
 joinP (λ(d:Int)=>
 (take? a d).bind λy=>
 (cat? ([]:List Tl15State) (a.take d.toNat)).bind λs=>
 (cat? s ([h.1]:List Tl15State)).bind λt=>
 (drop? a d).bind λv=>
 (cat? t ((a.drop d.toNat).take (a.length-d.toNat))).bind λu=>
 g u) λw=>
 (s_l15Sessions_l2 N a f N (a.length:Int)).bind (λx=>w x))))
 else
 some (Sum.inr a))
def s_l15Sessions (N:Nat)(a:List Pair):Option ((List Tl15State)×Bool):=
 joinP (λ(b:List Tl15State)=>
 some (b,true)) λc=>
 (s_l15Sessions_l1 N a N 0 ([]:List Tl15State)).bind (Sum.elim (λd=>some d) (λ(f:List Tl15State)=>c f))
instance i78 (N:Nat)(l:List Pair):JG 155 (s_l15Sessions N l) [RO 89 (l.map encPair)] 0 [] (λr=>.tup [.sl 0 222 0 r.1.length,VB r.2]) (λr=>[(0,.vec 222 (r.1.map encTl15State))]):=.st e e Tryz.call155 λB r=>.st e (Ev.bsW (ys:=([]:List Tl15State)) (f:=encTl15State) e .nil e e e e e) e (.j e (λc=>[(4,.sl 0 222 0 c.length)]) (λc=>[(0,.vec 222 (c.map encTl15State))]) (λ_=>.K2 e [0,4,5] [5096] (λm b=>[.f 4 (.sl 0 222 0 b.length),.f 5 (VI m),.r 0 (.vec 222 (b.map encTl15State))]) (λ_ _=>e) λ_ m b _ d=>.q e (.st e (Ev.lnF e) e (.a e e (.jk e [0,4,5] [0] (λg=>[.f 4 (.sl 0 222 0 g.length),.r 0 (.vec 222 (g.map encTl15State))]) (λ_=>e) (λ_=>.q e (.B λ_ u=>.st e (Ev.iaF e e u) e (.B λ_ w=>.st e (Ev.ixS e e w) e (.a e e (.J e (.k [0,4,5] [0])) (.B λ_ x=>.st e (Ev.iaF e e x) e (.B λ_ y=>.st e (Ev.ssL e e y) e (.c0 e i q λ_ _=>.B λ_ v=>.st e (Ev.iaF e e v) e (.c0 e i q λz _=>.q e (.q e (.a e e (.Xr d e e (.il (.e e (.Ek [0] e e e)))) (.a e e (.Xr d e e (.il (.e e (.Ek [0] e e e)))) (.jk e [0,4,5,8,10] [0,29832] (λo=>[.f 10 (VI o)]) (λ_=>e) (λ_=>.K1 e [0,4,5,6,8,10] [0,29832] (λp=>[.f 10 (VI p)]) (λ_=>e) λ_ p _ s=>.q e (.q e (.a e e (.B λ_ t=>.st e (Ev.iaW e e e t) e (.st e (Ev.ldE (f:=encTl15State) e e (at_some t).2 e e e) e (.a e e (.R e (λh=>⟨_,h,e,e⟩) (.k [0,4,5,6,8,10] [0,1])) (.X s e e (.n e (.J e (.k [0,4,5,8,10] [0,1]))))))) (.X s e e (.n e (.J e (.k [0,4,5,8,10] [0,1]))))))) λo=>.st e (Ev.bsW (ys:=([]:List Tl15State)) (f:=encTl15State) e .nil e e e e e) e (.B λ_ a0=>.st e (Ev.slWh (xs:=b) e e e a0) e (.B λ_ a1=>.st e (Ev.apW (f:=encTl15State) (ontoW e e e) (addsP e e (λ_=>e)) e bt222 e a1) e (.st e (Ev.bsW (ys:=([z.1]:List Tl15State)) (f:=encTl15State) e (.d4 .nil) e e e e e) e (.B λ_ a2=>.st e (Ev.apW (f:=encTl15State) (ontoW e e e) (addsW e e e (λ_=>e)) e bt222 e a2) e (.B λ_ a3=>.st e (Ev.slWl (xs:=b) e e e a3) e (.B λ_ a4=>.st e (Ev.apW (f:=encTl15State) (ontoW e e e) (addsP e e (λ_=>e)) e bt222 e a4) e (.J e (.k [0,4,5] [62504])))))))))))))))))))) λg=>.R e (λh=>⟨_,_,h,e,e⟩) (.k [0,4,5] [0])) (.X d e e (.ir (.n e (.J e (.k [4] [0])))))))) λc=>.Ek [0] e e e)
def s_CommandOk (N:Nat)(a:Command):Option (Bool):=
 (s_l01In N a.Op 1 5).bind λb=>
 (if(!b)then
 some false
 else
 (s_l01In N a.Session 0 100000).bind λc=>
 (if(!c)then
 some false
 else
 (s_l01In N a.Seq 0 100000).bind λd=>
 (if(!d)then
 some false
 else
 (if decide ((a.Value.size:Int)>12)then
 some false
 else
 (if decide ((a.Old.size:Int)>12)then
 some false
 else
 (if(a.Op==1)then
 some (((a.Op==1)&&((a.Session==0)&&((a.Seq==0)&&(decide (a.Key=(⟨#[]⟩:BA))&&(decide (a.Value=(⟨#[]⟩:BA))&&(decide (a.Old=(⟨#[]⟩:BA))&&true)))))) ^^ false)
 else
 (s_l01In N (a.Key.size:Int) 1 9).bind λf=>
 (if(!f)then
 some false
 else
 (if(a.Op==2)then
 (if decide (a.Value=(⟨#[]⟩:BA))then
 some (decide (a.Old=(⟨#[]⟩:BA)))
 else
 some false)
 else
 (if(a.Op==4)then
 (if decide (a.Value=(⟨#[]⟩:BA))then
 some (decide (a.Old=(⟨#[]⟩:BA)))
 else
 some false)
 else
 (if(a.Op==3)then
 some (decide (a.Old=(⟨#[]⟩:BA)))
 else
 some true))))))))))
instance i80 (N:Nat)(b:Command):Sem Tryz.prog 151 (s_CommandOk N b) [.agg (cCommand0 b [])] 0 [] (λr=>VB r) (λr=>[]):=.so s151 e Tryz.call151 λB r=>.q e (.q e (.c0 e i q λ_ _=>.a e e (.Ek [] e e e) (.c0 e i q λ_ _=>.a e e (.Ek [] e e e) (.c0 e i q λ_ _=>.a e e (.Ek [] e e e) (.a e e (.Ek [] e e e) (.a e e (.Ek [] e e e) (.q e (.a e e (.Ek [] e e e) (.q e (.c0 e i q λ_ _=>.a e e (.Ek [] e e e) (.q e (.q e (.a e e (.q e (.a e e (.Ek [] e e e) (.Ek [] e e e))) (.a e e (.q e (.a e e (.Ek [] e e e) (.Ek [] e e e))) (.a e e (.Ek [] e e e) (.Ek [] e e e))))))))))))))))
def s_CommandText (N:Nat)(a:Command):Option (BA×Bool):=
 (s_CommandOk N a).bind λb=>
 (if(!b)then
 some ((⟨#[]⟩:BA),false)
 else
 (s_l01Var N a.Session).bind λc=>
 (scat? (strOf ([IntKind.wrap .u8 (a.Op)]:List Int)) c).bind λd=>
 (s_l01Var N a.Seq).bind λf=>
 (scat? d f).bind λg=>
 (s_l05Short N a.Key).bind λh=>
 (scat? g h).bind λj=>
 (s_l05Short N a.Value).bind λk=>
 (scat? j k).bind λl=>
 (s_l05Short N a.Old).bind λm=>
 (scat? l m).bind λn=>
 some (n,true))
instance i81 (N:Nat)(b:Command):JG 78 (s_CommandText N b) [.agg (cCommand0 b [])] 0 [] (λr=>.tup [VS r.1,VB r.2]) (λr=>[]):=.st e e Tryz.call78 λB r=>.q e (.c0 e i q λ_ _=>.a e e (.Ek [] e e e) (.st e (Ev.bsW (ys:=([IntKind.wrap .u8 (b.Op)]:List Int)) (f:=encU) e (.d1 .nil) e e e e e) e (.st e (.sbC (addsW (f:=encU) e e e (λ_=>e))) e (.c0 e i q λ_ _=>.B λ_ c=>.st e (Ev.addS e e c) e (.c0 e i q λ_ _=>.B λ_ d=>.st e (Ev.addS e e d) e (.c0 e i q λ_ _=>.B λ_ g=>.st e (Ev.addS e e g) e (.c0 e i q λ_ _=>.B λ_ h=>.st e (Ev.addS e e h) e (.c0 e i q λ_ _=>.B λ_ j=>.st e (Ev.addS e e j) e (.dn e (.Ek [] e e e))))))))))
def s_l15Drawn_i1 (N:Nat)(m:Tl01Cur)(n:List Pair):Option (Command×Tl01Cur):=
 (s_l15Right N m).bind λc=>
 (s_l15Sessions N n).bind λj=>
 (if(c.1.Op==1)then
 some (c.1,c.2)
 else
 (if((j.1.length:Int)==0)then
 some (c.1,c.2)
 else
 (s_l01Once N c.2 6).bind λk=>
 (if k.1 then
 some (c.1,k.2)
 else
 (s_l01Below N k.2 (j.1.length:Int)).bind λl=>
 (at? j.1 l.1).bind λd=>
 joinP (λ(g:(List Int)×Int×Int×Int)=>
 some ((Command.mk c.1.Op d.id g.2.2.2 c.1.Key c.1.Value c.1.Old),(Tl01Cur.mk g.1 g.2.1 g.2.2.1))) λf=>
 (s_l01Below N l.2 8).bind λa=>
 (if(a.1==0)then
 f (a.2.b,a.2.i,a.2.h,d.seq)
 else
 (if(a.1==1)then
 f (a.2.b,a.2.i,a.2.h,w64 (d.seq+2))
 else
 (if(a.1==2)then
 (if decide (d.seq>0)then
 f (a.2.b,a.2.i,a.2.h,w64 (d.seq-1))
 else
 f (a.2.b,a.2.i,a.2.h,w64 (d.seq+1)))
 else
 f (a.2.b,a.2.i,a.2.h,w64 (d.seq+1))))))))
instance i83 (N:Nat)(g:Tl01Cur)(j:List Pair):JG 79 (s_l15Drawn_i1 N g j) [.ptr 0 0,.sl 1 89 0 j.length] 2 [(0,.box [RO 5 (g.b.map encU),VI g.i,VI g.h]),(1,.vec 89 (j.map encPair))] (λr=>.agg (cCommand0 r.1 [])) (λr=>[(0,.box [RO 5 (r.2.b.map encU),VI r.2.i,VI r.2.h]),(1,.vec 89 (j.map encPair))]):=.st e e Tryz.call79 λB r=>.f [0] [] 0 e i q λ_ _=>.f (hp:=(.cons (.borrow e (by decide) lw) .nil)) (hcase:=λ_=>(.inr ⟨rfl,ownL_root ⟨own_rows (λ_=>e) _,trivial⟩⟩)) [] [1] 1 e i q λ_ _=>.q e (.q e (.a e e (.Ek [0,1] e e e) (.a e e (.Ek [0,1] e e e) (.f [0] [] 0 e i q λ_ _=>.a e e (.Ek [0,1] e e e) (.f [0] [] 0 e i q λ_ _=>.B λ_ l=>.st e (Ev.iaW e e e l) e (.st e (Ev.ldE (f:=encTl15State) e e (at_some l).2 e e e) e (.jk e [4,5] [0,1,1000,5128] (λd=>[.r 0 (.box [RO 5 (d.1.map encU),VI d.2.1,VI d.2.2.1]),.c 3 2 (VI d.2.2.2)]) (λ_=>e) (λ_=>.f [0] [] 0 e i q λ_ _=>.a e e (.J e (.k [4,5] [0,1,1000,5128])) (.a e e (.J e (.k [4,5] [0,1,1000,5128])) (.a e e (.a e e (.J e (.k [4,5] [0,1,1000,5128])) (.J e (.k [4,5] [0,1,1000,5128]))) (.J e (.k [4,5] [0,1,1000,5128]))))) λd=>.Ek [0,1] e e e)))))))
def s_l17Propose_i1 (N:Nat)(d:Tl01Cur)(j:Server)(f:List Pair):Option (Input×Tl01Cur):=
 (s_l01Once N d 6).bind λa=>
 (if a.1 then
 (s_l07Conf N a.2).bind λb=>
 (s_ConfText N b.1).bind λg=>
 some ((Input.mk 3 0 (Message.mk 0 0 0 0 0 0 0 false ([]) ([]) (⟨#[]⟩:BA) false) 2 g.1),b.2)
 else
 (s_l15Drawn_i1 N a.2 f).bind λc=>
 (s_CommandText N c.1).bind λh=>
 some ((Input.mk 3 0 (Message.mk 0 0 0 0 0 0 0 false ([]) ([]) (⟨#[]⟩:BA) false) 3 h.1),c.2))
instance i84 (N:Nat)(c:Tl01Cur)(g:Server)(d:List Pair):JG 31 (s_l17Propose_i1 N c g d) [.ptr 0 0,.agg (cServer1 g []),.sl 1 89 0 d.length] 2 [(0,.box [RO 5 (c.b.map encU),VI c.i,VI c.h]),(1,.vec 89 (d.map encPair))] (λr=>.agg (cInput0 r.1 2 3 [])) (λr=>((0,.box [RO 5 (r.2.b.map encU),VI r.2.i,VI r.2.h])::(1,.vec 89 (d.map encPair))::(rInput0 r.1 2 3 []))):=.st e e Tryz.call31 λB r=>.q e (.f [0] [] 0 e i q λ_ _=>.a e e (.f [0] [] 1 e i q λ_ _=>.f (hp:=(.cons (.borrow e (by decide) lw) .nil)) (hcase:=λ_=>(.inr ⟨rfl,ownL_root trivial⟩)) [] [17400] 0 e i q λ_ _=>.E e e (.n [0] [0,1] [0] [] [0,1,10000000,10000001])) (.f [0,1] [] 0 e i q λ_ _=>.c0 e i q λ_ _=>.E e e (.n [0] [0,1] [0] [] [0,1,10000000,10000001])))
def s_l09SameInts_l1 (N:Nat)(b:List Int)(c:List Int):Nat->Int->Option ((Bool)⊕(Unit))
 |0,_=>none
 |m+1,a=>
 (if decide (a<(b.length:Int))then
 (at? b a).bind λd=>
 (at? c a).bind λf=>
 (if(d !=f)then
 some (Sum.inl false)
 else
 s_l09SameInts_l1 N b c m (w64 (a+1)))
 else
 some (Sum.inr ()))
def s_l09SameInts (N:Nat)(a:List Int)(b:List Int):Option (Bool):=
 (if((a.length:Int)!=(b.length:Int))then
 some false
 else
 joinP (λ(f:Unit)=>
 some true) λc=>
 (s_l09SameInts_l1 N a b N 0).bind (Sum.elim (λd=>some d) (λ(g:Unit)=>c ())))
instance i85 (N:Nat)(b:List Int)(c:List Int):JB 157 (s_l09SameInts N b c) [RO 3 (b.map encI),RO 3 (c.map encI)]:=.st e e Tryz.call157 λB r=>.q e (.st e (Ev.lnF e) e (.st e (Ev.lnF e) e (.a e e (.Ek [] e e e) (.j e (λ_=>[]) (λ_=>[]) (λ_=>.K1 e [0,1,5] [] (λd=>[.f 5 (VI d)]) (λ_=>e) λ_ d _ g=>.q e (.st e (Ev.lnF e) e (.a e e (.q e (.B λ_ l=>.st e (Ev.iaF e e l) e (.B λ_ m=>.st e (Ev.iaF e e m) e (.dn e (.a e e (.Xr g e e (.il (.e e (.Ek [] e e e)))) (.R e (λh=>⟨_,h,e,e⟩) (.k [0,1,5] []))))))) (.X g e e (.ir (.n e (.J e (.k [] [])))))))) λ_=>.Ek [] e e e))))
def s_l09Same_l1 (N:Nat)(d:Shelf)(f:Shelf):Nat->Int->Option ((Bool)⊕(Unit))
 |0,_=>none
 |m+1,a=>
 (if decide (a<(d.Dir.length:Int))then
 (at? d.Dir a).bind λb=>
 (at? f.Dir a).bind λc=>
 (if((decide (b.Key=c.Key)&&((b.Seg==c.Seg)&&((b.At==c.At)&&((b.Size==c.Size)&&true)))) ^^ true)then
 some (Sum.inl false)
 else
 s_l09Same_l1 N d f m (w64 (a+1)))
 else
 some (Sum.inr ()))
def s_l09Same (N:Nat)(a:Shelf)(b:Shelf):Option (Bool):=
 (if(a.Stamp !=b.Stamp)then
 some false
 else
 (s_l09SameInts N a.Man.Segs b.Man.Segs).bind λc=>
 (if(!c)then
 some false
 else
 (if(a.Man.Next !=b.Man.Next)then
 some false
 else
 (if(a.Man.Base !=b.Man.Base)then
 some false
 else
 (if(a.Man.BaseTerm !=b.Man.BaseTerm)then
 some false
 else
 (s_l09SameInts N a.Man.Conf b.Man.Conf).bind λd=>
 (if(!d)then
 some false
 else
 (if((a.Dir.length:Int)!=(b.Dir.length:Int))then
 some false
 else
 joinP (λ(h:Unit)=>
 some true) λf=>
 (s_l09Same_l1 N a b N 0).bind (Sum.elim (λg=>some g) (λ(j:Unit)=>f ())))))))))
instance i86 (N:Nat)(b:Shelf)(c:Shelf):Sem Tryz.prog 156 (s_l09Same N b c) [.agg (cShelf1 b []),.agg (cShelf1 c [])] 0 [] (λr=>VB r) (λr=>[]):=.so s156 e Tryz.call156 λB r=>.q e (.q e (.a e e (.Ek [] e e e) (.c0 e i q λ_ _=>.a e e (.Ek [] e e e) (.a e e (.Ek [] e e e) (.a e e (.Ek [] e e e) (.a e e (.Ek [] e e e) (.c0 e i q λ_ _=>.a e e (.Ek [] e e e) (.st e (Ev.lnF e) e (.st e (Ev.lnF e) e (.a e e (.Ek [] e e e) (.j e (λ_=>[]) (λ_=>[]) (λ_=>.K1 e [2,3,5] [1000,1016] (λd=>[.f 5 (VI d)]) (λ_=>e) λ_ d _ g=>.q e (.st e (Ev.lnF e) e (.a e e (.q e (.B λ_ l=>.st e (Ev.iaF e e l) e (.B λ_ m=>.st e (Ev.iaF e e m) e (.dn e (.a e e (.Xr g e e (.il (.e e (.Ek [] e e e)))) (.R e (λh=>⟨_,h,e,e⟩) (.k [2,3,5] [0,1]))))))) (.X g e e (.ir (.n e (.J e (.k [] [])))))))) λ_=>.Ek [] e e e)))))))))))
def s_ServerOk (N:Nat)(a:Server):Option (Bool):=
 (s_Boot N a.Node.Id a.Disk 20).bind λb=>
 (if(b.2.2 !=0)then
 some false
 else
 (if decide ((b.2.1.length:Int)>0)then
 some false
 else
 (s_l09Same N b.1.Shelf a.Shelf).bind λc=>
 (if(!c)then
 some false
 else
 (s_l12Same N b.1.Node.Log a.Node.Log).bind λd=>
 (if(!d)then
 some false
 else
 (if(b.1.Node.Term !=a.Node.Term)then
 some false
 else
 (if(b.1.Node.Vote !=a.Node.Vote)then
 some false
 else
 (s_l09SameInts N b.1.Node.Conf a.Node.Conf).bind λf=>
 (if(!f)then
 some false
 else
 (s_NodeOk N a.Node).bind λg=>
 (if g then
 (if decide (a.Node.Commit>=a.Shelf.Stamp)then
 (if decide ((a.Stage.size:Int)<=20000)then
 (s_l01In N a.StageAt 0 100000).bind λh=>
 (if h then
 (s_l01In N a.StageTerm 0 100000).bind λj=>
 some j
 else
 some false)
 else
 some false)
 else
 some false)
 else
 some false))))))))
instance i87 (N:Nat)(b:Server):JB 80 (s_ServerOk N b) [.agg (cServer1 b [])]:=.st e e Tryz.call80 λB r=>.f [] [] 9 e i q λ_ _=>.q e (.q e (.a e e (.Ek [] e e e) (.a e e (.Ek [] e e e) (.f (hp:=(.cons (.agg (.cons (.borrow e (by decide) lw) (.d2 (.d1 (.cons (.borrow e (by decide) lw) (.cons (.borrow e (by decide) lw) (.d1 .nil))))))) (.cons (.agg (.d4 (.d2 (.d1 .nil)))) .nil))) (hcase:=λ_=>(.inr ⟨rfl,ownL_root trivial⟩)) [] [5181,5182,5183] 0 e i q λ_ _=>.a e e (.Ek [] e e e) (.f (hp:=(.cons (.agg (.d2 (.cons (.borrow e (by decide) lw) .nil))) (.cons (.agg (.d2 (.d1 .nil))) .nil))) (hcase:=λ_=>(.inr ⟨rfl,ownL_root trivial⟩)) [] [5177] 0 e i q λ_ _=>.a e e (.Ek [] e e e) (.a e e (.Ek [] e e e) (.a e e (.Ek [] e e e) (.f (hp:=(.cons (.borrow e (by decide) lw) (.d1 .nil))) (hcase:=λ_=>(.inr ⟨rfl,ownL_root trivial⟩)) [] [5176] 0 e i q λ_ _=>.a e e (.Ek [] e e e) (.q e (.c0 e i q λ_ _=>.a e e (.a e e (.a e e (.c0 e i q λ_ _=>.a e e (.c0 e i q λ_ _=>.Ek [] e e e) (.Ek [] e e e)) (.Ek [] e e e)) (.Ek [] e e e)) (.Ek [] e e e)))))))))))
def s_l16Copy (N:Nat)(a:Node):Option (Node):=
 (cat? ([]:List Int) a.Conf).bind λb=>
 (cat? ([]:List Entry) a.Log.Entries).bind λc=>
 (cat? ([]:List Int) a.Votes).bind λd=>
 (cat? ([]:List Peer) a.Peers).bind λf=>
 some ({ a with Conf:=b,Log:=(Log.mk a.Log.Start a.Log.StartTerm c),Votes:=d,Peers:=f })
instance i88 (N:Nat)(a:Node):JG 81 (s_l16Copy N a) [.agg (cNode0 a [])] 0 [] (λr=>.agg (cNode1 r 0 1 2 3 [])) (λr=>(rNode0 r 0 1 2 3 [])):=.st e e Tryz.call81 λB r=>.st e (Ev.bsW (ys:=([]:List Int)) (f:=encI) e .nil e e e e e) e (.B λ_ b=>.st e (Ev.apW (f:=encI) (ontoW e e e) (addsF e) e bt3 e b) e (.st e (Ev.bsW (ys:=([]:List Entry)) (f:=encEntry) e .nil e e e e e) e (.B λ_ c=>.st e (Ev.apW (f:=encEntry) (ontoW e e e) (addsF e) e bt91 e c) e (.st e (Ev.bsW (ys:=([]:List Int)) (f:=encI) e .nil e e e e e) e (.B λ_ d=>.st e (Ev.apW (f:=encI) (ontoW e e e) (addsF e) e bt3 e d) e (.st e (Ev.bsW (ys:=([]:List Peer)) (f:=encPeer) e .nil e e e e e) e (.B λ_ g=>.st e (Ev.apW (f:=encPeer) (ontoW e e e) (addsF e) e bt195 e g) e (.Ek [5144,9256,13336,17432] e e e))))))))
def s_l16Tell (N:Nat)(a:Tl16Run)(b:Message):Option (Tl16Run):=
 (cat? a.told ([({ b with From:=a.n.Id,Term:=a.n.Term })]:List Message)).bind λc=>
 some (Tl16Run.mk a.n c)
instance i89 (N:Nat)(a:Tl16Run)(b:Message):JG 161 (s_l16Tell N a b) [.ptr 0 0,.agg (cMessage0 b [])] 6 ((0,.box (cTl16Run0 a 1 2 3 4 5 []))::(rTl16Run0 a 1 2 3 4 5 [])) (λr=>.tup []) (λr=>((0,.box [VI r.n.Id,VI r.n.Term,VI r.n.Vote,VI r.n.Role,VI r.n.Lead,.sl 1 3 0 a.n.Conf.length,VI r.n.Log.Start,VI r.n.Log.StartTerm,.sl 2 91 0 a.n.Log.Entries.length,VI r.n.Commit,VI r.n.Clock,VI r.n.Limit,.sl 3 3 0 a.n.Votes.length,.sl 4 195 0 a.n.Peers.length,.sl 6 42 0 r.told.length])::(rNode0 a.n 1 2 3 4 [(5,.gone),(6,.vec 42 (r.told.map (encMessage false)))]))):=.st e e Tryz.call161 λB r=>.st e (Ev.bsW (ys:=([({ b with From:=a.n.Id,Term:=a.n.Term })]:List Message)) (f:=(encMessage false)) e (.d4 (.d4 (.d4 .nil))) e e e e e) e (.B λ_ c=>.st e (Ev.apW (f:=(encMessage false)) (ontoW e e e) (addsW e e e (λ_=>e)) e bt42 e c) e (.dn e (.Ek [0,1,2,3,4,5,13400] e e e)))
def s_l16Tell_i1 (N:Nat)(a:Tl16Run)(b:Message):Option (Tl16Run×(List Int)):=
 (cat? a.told ([({ b with From:=a.n.Id,Term:=a.n.Term,Entries:=[] })]:List Message)).bind λc=>
 some ((Tl16Run.mk a.n c),b.Conf)
instance i90 (N:Nat)(b:Tl16Run)(a:Message):JG 161 (s_l16Tell_i1 N b a) [.ptr 0 0,.agg [VI a.Kind,VI a.From,VI a.To,VI a.Term,VI a.Index,VI a.LogTerm,VI a.Commit,VB a.Ok,NI 91,.sl 1 3 0 a.Conf.length,VS a.Data,VB a.Last]] 7 ((0,.box (cTl16Run0 b 2 3 4 5 6 []))::(1,.vec 3 (a.Conf.map encI))::(rTl16Run0 b 2 3 4 5 6 [])) (λr=>.tup []) (λr=>((0,.box [VI r.1.n.Id,VI r.1.n.Term,VI r.1.n.Vote,VI r.1.n.Role,VI r.1.n.Lead,.sl 2 3 0 b.n.Conf.length,VI r.1.n.Log.Start,VI r.1.n.Log.StartTerm,.sl 3 91 0 b.n.Log.Entries.length,VI r.1.n.Commit,VI r.1.n.Clock,VI r.1.n.Limit,.sl 4 3 0 b.n.Votes.length,.sl 5 195 0 b.n.Peers.length,.sl 7 42 0 r.1.told.length])::(1,.ro 3 (r.2.map encI))::(rNode0 b.n 2 3 4 5 [(6,.gone),(7,.vec 42 (r.1.told.map (encMessage false)))]))):=.st e e Tryz.call161 λB r=>.stz e (EvZ.frz (f:=encI) (g:=encI) (xs:=a.Conf) 1 (λ_=>e) e (.mk (Ev.bsW (ys:=([({ a with From:=b.n.Id,Term:=b.n.Term,Entries:=[] })]:List Message)) (f:=(encMessage false)) e (.d4 (.d4 (.cons (.nilro _ _) (.cons (.ro e (shareW _ e)) (.d2 .nil))))) e e e e e))) e (.B λ_ c=>.st e (Ev.apW (f:=(encMessage false)) (ontoW e e e) (addsW e e e (λ_=>e)) e bt42 e c) e (.dn e (.Ek [0,1,2,3,4,5,6,13400] e e e)))
def s_l16Send_l1 (N:Nat)(b:Tl16Run):Nat->Int->(List Entry)->Option ((List Entry))
 |0,_,_=>none
 |m+1,c,a=>
 (if decide (c<(b.n.Log.Entries.length:Int))then
 (if decide ((a.length:Int)<4)then
 (at? b.n.Log.Entries c).bind λd=>
 (cat? a ([d]:List Entry)).bind λf=>
 s_l16Send_l1 N b m (w64 (c+1)) f
 else
 some a)
 else
 some a)
def s_l16Send (N:Nat)(a:Tl16Run)(d:Peer):Option (Tl16Run):=
 (if decide (d.Next<=a.n.Log.Start)then
 (cat? ([]:List Int) a.n.Conf).bind λf=>
 (s_l16Tell_i1 N a (Message.mk 5 0 d.Id 0 a.n.Log.Start a.n.Log.StartTerm d.Sent false ([]) f (⟨#[]⟩:BA) false)).bind λb=>
 some (Tl16Run.mk (Node.mk b.1.n.Id b.1.n.Term b.1.n.Vote b.1.n.Role b.1.n.Lead a.n.Conf (Log.mk b.1.n.Log.Start b.1.n.Log.StartTerm a.n.Log.Entries) b.1.n.Commit b.1.n.Clock b.1.n.Limit a.n.Votes a.n.Peers) b.1.told)
 else
 (s_LogTerm N a.n.Log (w64 (d.Next-1))).bind λg=>
 joinP (λ(h:List Entry)=>
 (s_l16Tell N a (Message.mk 3 0 d.Id 0 (w64 (d.Next-1)) g a.n.Commit false h ([]:(List Int)) (⟨#[]⟩:BA) false)).bind λc=>
 some (Tl16Run.mk (Node.mk c.n.Id c.n.Term c.n.Vote c.n.Role c.n.Lead a.n.Conf (Log.mk c.n.Log.Start c.n.Log.StartTerm a.n.Log.Entries) c.n.Commit c.n.Clock c.n.Limit a.n.Votes a.n.Peers) c.told)) λj=>
 (s_l16Send_l1 N a N (w64 ((w64 (d.Next-a.n.Log.Start))-1)) ([]:(List Entry))).bind (λk=>j k))
instance i91 (N:Nat)(b:Tl16Run)(d:Peer):JG 224 (s_l16Send N b d) [.ptr 0 0,.agg (cPeer0 d [])] 6 ((0,.box (cTl16Run0 b 1 2 3 4 5 []))::(rTl16Run0 b 1 2 3 4 5 [])) (λr=>.tup []) (λr=>((0,.box [VI r.n.Id,VI r.n.Term,VI r.n.Vote,VI r.n.Role,VI r.n.Lead,.sl 1 3 0 b.n.Conf.length,VI r.n.Log.Start,VI r.n.Log.StartTerm,.sl 2 91 0 b.n.Log.Entries.length,VI r.n.Commit,VI r.n.Clock,VI r.n.Limit,.sl 3 3 0 b.n.Votes.length,.sl 4 195 0 b.n.Peers.length,.sl 6 42 0 r.told.length])::(rNode0 b.n 1 2 3 4 [(5,.gone),(6,.vec 42 (r.told.map (encMessage false)))]))):=.st e e Tryz.call224 λB r=>.q e (.a e e (.st e (Ev.bsW (ys:=([]:List Int)) (f:=encI) e .nil e e e e e) e (.B λ_ s=>.st e (Ev.apW (f:=encI) (ontoW e e e) (addsW e e e (λ_=>e)) e bt3 e s) e (.f [0,13496,1,2,3,4,5] [] 1 e i q λ_ _=>.dn e (.Ek [0,1,2,3,4,5,13560] e e e)))) (.f (hp:=(.cons (.agg (.d2 (.cons (.borrow e (by decide) lw) .nil))) (.d1 .nil))) (hcase:=λ_=>(.inr ⟨rfl,ownL_root trivial⟩)) [] [2] 0 e i q λt _=>.dn e (.jk e [0,5] [0,1,2,3,4,5,17640,900007,900008] (λj=>[.c 6 8 (.sl 7 91 0 j.length),.c 6 9 (.sl 8 3 0 (([]:(List Int)).length)),.r 7 (.vec 91 (j.map encEntry)),.r 8 (.vec 3 (([]:(List Int)).map encI))]) (λ_=>e) (λ_=>.L2 e (λm l=>[(0,.ptr 0 0),(4,.ptr 6 0),(5,.ptr 7 0),(6,VI m)]) (λm l=>((0,.box (cTl16Run0 b 1 2 3 4 5 []))::(rTl16Run0 b 1 2 3 4 5 [(6,.box [VI b.n.Log.Start,VI b.n.Log.StartTerm,.sl 2 91 0 b.n.Log.Entries.length]),(7,.box [VI 3,VI 0,VI d.Id,VI 0,VI (w64 (d.Next-1)),VI t,VI b.n.Commit,VB false,.sl 8 91 0 l.length,.sl 9 3 0 (([]:(List Int)).length),VS (⟨#[]⟩:BA),VB false]),(8,.vec 91 (l.map encEntry)),(9,.vec 3 (([]:(List Int)).map encI))]))) (.n [0,4,5,6] [0,1,2,3,4,5,5176,17640] [] [17640] [0,1,2,3,4,5,5176,17640,20000000,20000001]) λ_ m l _ o=>.q e (.q e (.a e e (.a e e (.B λu p=>.st e (Ev.iaW e e e p) e (.st e (Ev.ldE (f:=encEntry) e e (at_some p).2 e e e) e (.st e (Ev.bsW (ys:=([u]:List Entry)) (f:=encEntry) e (.d2 (.d1 .nil)) e e e e e) e (.B λ_ w=>.st e (Ev.apW (f:=encEntry) (ontoW e e e) (addsW e e e (λ_=>e)) e bt91 e w) e (.dn e (.R e (λh=>⟨_,_,h,e,e⟩) (.k [0,4,5,6] [0,1,2,3,4,5,6,7,33896,9]))))))) (.X o e e (.n e (.J e (.k [0,5] [0,1,2,3,4,5,7,8,9]))))) (.X o e e (.n e (.J e (.k [0,5] [0,1,2,3,4,5,7,8,9]))))))) λj=>.B λ_ x=>.stz e (EvZ.frz (f:=encEntry) (g:=encEntry) (xs:=j) 7 (λ_=>e) e (EvZ.frz (f:=encI) (g:=encI) (xs:=([]:(List Int))) 8 (λ_=>e) e (.mk (Ev.call [0,1,2,3,4,5] [] 1 (sy x) e e (.cons (.ptr e) (.cons (.agg (.d4 (.d4 (.cons (.share e (shareW _ e)) (.cons (.share e (shareW _ e)) (.d2 .nil)))))) .nil)) e (.inl e) e e)))) e (.Ek [0,1,2,3,4,5,37896] e e e))))
def s_l16SendAll_l1 (N:Nat)(b:Tl16Run):Nat->Int->Int->Int->Int->Int->Int->Int->Int->Int->Int->Int->(List Message)->Option (Int×Int×Int×Int×Int×Int×Int×Int×Int×Int×(List Message))
 |0,_,_,_,_,_,_,_,_,_,_,_,_=>none
 |m+1,c,d,f,g,h,j,k,l,o,p,s,t=>
 (if decide (c<(b.n.Peers.length:Int))then
 (at? b.n.Peers c).bind λu=>
 (s_l16Send N (Tl16Run.mk (Node.mk d f g h j b.n.Conf (Log.mk k l b.n.Log.Entries) o p s b.n.Votes b.n.Peers) t) u).bind λa=>
 s_l16SendAll_l1 N b m (w64 (c+1)) a.n.Id a.n.Term a.n.Vote a.n.Role a.n.Lead a.n.Log.Start a.n.Log.StartTerm a.n.Commit a.n.Clock a.n.Limit a.told
 else
 some (d,f,g,h,j,k,l,o,p,s,t))
def s_l16SendAll (N:Nat)(a:Tl16Run):Option (Tl16Run):=
 (s_l16SendAll_l1 N a N 0 a.n.Id a.n.Term a.n.Vote a.n.Role a.n.Lead a.n.Log.Start a.n.Log.StartTerm a.n.Commit a.n.Clock a.n.Limit ([]:(List Message))).bind (λb=>some (Tl16Run.mk (Node.mk b.1 b.2.1 b.2.2.1 b.2.2.2.1 b.2.2.2.2.1 a.n.Conf (Log.mk b.2.2.2.2.2.1 b.2.2.2.2.2.2.1 a.n.Log.Entries) b.2.2.2.2.2.2.2.1 b.2.2.2.2.2.2.2.2.1 b.2.2.2.2.2.2.2.2.2.1 a.n.Votes a.n.Peers) b.2.2.2.2.2.2.2.2.2.2))
instance i92 (N:Nat)(b:Tl16Run):JG 158 (s_l16SendAll N b) [.ptr 0 0] 5 ((0,.box (cNode1 b.n 1 2 3 4 [NI 42]))::(rNode0 b.n 1 2 3 4 [])) (λr=>.tup []) (λr=>((0,.box [VI r.n.Id,VI r.n.Term,VI r.n.Vote,VI r.n.Role,VI r.n.Lead,.sl 1 3 0 b.n.Conf.length,VI r.n.Log.Start,VI r.n.Log.StartTerm,.sl 2 91 0 b.n.Log.Entries.length,VI r.n.Commit,VI r.n.Clock,VI r.n.Limit,.sl 3 3 0 b.n.Votes.length,.sl 4 195 0 b.n.Peers.length,.sl 5 42 0 r.told.length])::(rNode0 b.n 1 2 3 4 [(5,.vec 42 (r.told.map (encMessage false)))]))):=.st e e Tryz.call158 λB r=>.L12 e (λd g j l m o p s t u w c=>[(0,.ptr 0 0),(2,VI d)]) (λd g j l m o p s t u w c=>((0,.box [VI g,VI j,VI l,VI m,VI o,.sl 1 3 0 b.n.Conf.length,VI p,VI s,.sl 2 91 0 b.n.Log.Entries.length,VI t,VI u,VI w,.sl 3 3 0 b.n.Votes.length,.sl 4 195 0 b.n.Peers.length,.sl 5 42 0 c.length])::(rNode0 b.n 1 2 3 4 [(5,.vec 42 (c.map (encMessage false)))]))) (.n [0,2] [0,1,2,3,4] [] [0] [0,1,2,3,4,20000000]) λ_ d g j l m o p s t u w c _ y=>.q e (.a e e (.B λ_ x=>.st e (Ev.iaW e e e x) e (.st e (Ev.ldE (f:=encPeer) e e (at_some x).2 e e e) e (.f [0,1,2,3,4,5] [] 1 e i q λ_ _=>.R e (λh=>⟨_,_,_,_,_,_,_,_,_,_,_,_,h,e,e⟩) (.k [0,2] [0,1,2,3,4,13432])))) (.X y e e (.n e (.Ek [0,1,2,3,4,5] e e e))))
def s_Most_l1 (N:Nat)(a:List Int)(d:List Int):Nat->Int->Int->Option (Int)
 |0,_,_=>none
 |m+1,b,c=>
 (if decide (c<(a.length:Int))then
 joinP (λ(g:Int)=>
 s_Most_l1 N a d m g (w64 (c+1))) λf=>
 (at? a c).bind λh=>
 (s_l09In N d h).bind λj=>
 (if j then
 f (w64 (b+1))
 else
 f b)
 else
 some b)
def s_Most (N:Nat)(a:List Int)(b:List Int):Option (Bool):=
 joinP (λ(c:Int)=>
 (s_ConfOk N a).bind λd=>
 (if d then
 some (decide ((w64 (2*c))>(a.length:Int)))
 else
 some false)) λf=>
 (s_Most_l1 N a b N 0 0).bind (λg=>f g)
instance i93 (N:Nat)(b:List Int)(c:List Int):JB 225 (s_Most N b c) [RO 3 (b.map encI),RO 3 (c.map encI)]:=.st e e Tryz.call225 λB r=>.jk e [0,5] [] (λd=>[.f 5 (VI d)]) (λ_=>e) (λ_=>.K2 e [0,1,5,6] [] (λg j=>[.f 5 (VI g),.f 6 (VI j)]) (λ_ _=>e) λ_ g j _ m=>.q e (.st e (Ev.lnF e) e (.a e e (.jk e [0,1,5,6] [] (λl=>[.f 5 (VI l)]) (λ_=>e) (λ_=>.B λ_ o=>.st e (Ev.iaF e e o) e (.c0 e i q λ_ _=>.a e e (.J e (.k [0,1,5,6] [])) (.J e (.k [0,1,5,6] [])))) λl=>.R e (λh=>⟨_,_,h,e,e⟩) (.k [0,1,5,6] [])) (.X m e e (.n e (.J e (.k [0,5] []))))))) λd=>.q e (.c0 e i q λ_ _=>.a e e (.st e (Ev.lnF e) e (.Ek [] e e e)) (.Ek [] e e e))
def s_l16Elected (N:Nat)(a:Tl16Run):Option (Bool×Tl16Run):=
 (s_ConfOf N a.n).bind λb=>
 (s_Most N b a.n.Votes).bind λc=>
 some (c,(Tl16Run.mk a.n ([])))
instance i94 (N:Nat)(a:Tl16Run):JG 159 (s_l16Elected N a) [.ptr 0 0] 5 ((0,.box (cNode1 a.n 1 2 3 4 [NI 42]))::(rNode0 a.n 1 2 3 4 [])) (λr=>VB r.1) (λr=>((0,.box [VI r.2.n.Id,VI r.2.n.Term,VI r.2.n.Vote,VI r.2.n.Role,VI r.2.n.Lead,.sl 1 3 0 a.n.Conf.length,VI r.2.n.Log.Start,VI r.2.n.Log.StartTerm,.sl 2 91 0 a.n.Log.Entries.length,VI r.2.n.Commit,VI r.2.n.Clock,VI r.2.n.Limit,.sl 3 3 0 a.n.Votes.length,.sl 4 195 0 a.n.Peers.length,.sl 5 42 0 r.2.told.length])::(rNode0 a.n 1 2 3 4 [(5,.vec 42 (r.2.told.map (encMessage false)))]))):=.st e e Tryz.call159 λB r=>.f (hp:=(.cons (.agg (.d4 (.d1 (.cons (.borrow e (by decide) lw) (.d2 (.cons (.borrow e (by decide) lw) (.d2 (.d1 (.cons (.borrow e (by decide) lw) (.cons (.borrow e (by decide) lw) .nil)))))))))) .nil)) (hcase:=λ_=>(.inr ⟨rfl,ownL_root ⟨own_rows (λ_=>e) _,trivial⟩⟩)) [] [1,2,3,4] 1 e i q λ_ _=>.f (hp:=(.cons (.borrow e (by decide) lw) (.cons (.borrow e (by decide) lw) .nil))) (hcase:=λ_=>(.inr ⟨rfl,ownL_root trivial⟩)) [] [5160,3] 0 e i q λ_ _=>.dn e (.E e e (.n [0] [0,1,2,3,4] [] [0] [0,1,2,3,4,20000000]))
def s_l16Room (N:Nat)(a:Node):Option (Bool):=
 (if decide ((a.Log.Entries.length:Int)<120)then
 (s_l12Last N a.Log).bind λb=>
 some (decide (b<100000))
 else
 some false)
instance i95 (N:Nat)(b:Node):JB 169 (s_l16Room N b) [.agg (cNode0 b [])]:=.st e e Tryz.call169 λB r=>.q e (.st e (Ev.lnF e) e (.a e e (.c0 e i q λ_ _=>.Ek [] e e e) (.Ek [] e e e)))
def s_l16ConfIndex_l1 (N:Nat)(a:Node):Nat->Int->Int->Option (Int)
 |0,_,_=>none
 |m+1,c,b=>
 (if decide (b<(a.Log.Entries.length:Int))then
 joinP (λ(f:Int)=>
 s_l16ConfIndex_l1 N a m f (w64 (b+1))) λd=>
 (at? a.Log.Entries b).bind λg=>
 (if(g.Kind==2)then
 d (w64 ((w64 (a.Log.Start+1))+b))
 else
 d c)
 else
 some c)
def s_l16ConfIndex (N:Nat)(a:Node):Option (Int):=
 joinP (λ(b:Int)=>
 some b) λc=>
 (s_l16ConfIndex_l1 N a N a.Log.Start 0).bind (λd=>c d)
instance i96 (N:Nat)(c:Node):JI 171 (s_l16ConfIndex N c) [.agg (cNode0 c [])]:=.st e e Tryz.call171 λB r=>.j e (λb=>[(3,VI b)]) (λb=>[]) (λ_=>.K2 e [1,3,4] [1000] (λd g=>[.f 3 (VI d),.f 4 (VI g)]) (λ_ _=>e) λ_ d g _ m=>.q e (.st e (Ev.lnF e) e (.a e e (.jk e [1,3,4] [0] (λl=>[.f 3 (VI l)]) (λ_=>e) (λ_=>.B λ_ o=>.st e (Ev.iaF e e o) e (.a e e (.J e (.k [1,3,4] [0])) (.J e (.k [1,3,4] [0])))) λl=>.R e (λh=>⟨_,_,h,e,e⟩) (.k [1,3,4] [0])) (.X m e e (.n e (.J e (.k [3] []))))))) λb=>.Ek [] e e e
def s_l16Follow (N:Nat)(a:Tl16Run)(b:Int):Option (Tl16Run):=
 some (Tl16Run.mk (Node.mk a.n.Id a.n.Term a.n.Vote 0 b a.n.Conf a.n.Log a.n.Commit a.n.Clock a.n.Limit ([]:List Int) ([]:List Peer)) a.told)
instance i97 (N:Nat)(a:Tl16Run)(b:Int):JG 163 (s_l16Follow N a b) [.ptr 0 0,VI b] 6 ((0,.box (cTl16Run0 a 1 2 3 4 5 []))::(rTl16Run0 a 1 2 3 4 5 [])) (λr=>.tup []) (λr=>[(0,.box [VI r.n.Id,VI r.n.Term,VI r.n.Vote,VI r.n.Role,VI r.n.Lead,.sl 1 3 0 a.n.Conf.length,VI r.n.Log.Start,VI r.n.Log.StartTerm,.sl 2 91 0 a.n.Log.Entries.length,VI r.n.Commit,VI r.n.Clock,VI r.n.Limit,.sl 6 3 0 r.n.Votes.length,.sl 7 195 0 r.n.Peers.length,.sl 5 42 0 a.told.length]),(1,.vec 3 (a.n.Conf.map encI)),(2,.vec 91 (a.n.Log.Entries.map encEntry)),(3,.gone),(4,.gone),(5,.vec 42 (a.told.map (encMessage false))),(6,.vec 3 (r.n.Votes.map encI)),(7,.vec 195 (r.n.Peers.map encPeer))]):=.st e e Tryz.call163 λB r=>.st e (Ev.bsW (ys:=([]:List Int)) (f:=encI) e .nil e e e e e) e (.st e (Ev.bsW (ys:=([]:List Peer)) (f:=encPeer) e .nil e e e e e) e (.E e e (.mv [] [0,1,2,3,4,5,9208,13304] [3,4] [0,1,2,3,4,5,9208,13304])))
def s_l16Commit_l2 (N:Nat)(a:Tl16Run)(d:Int):Nat->Int->(List Int)->Option ((List Int))
 |0,_,_=>none
 |m+1,b,c=>
 (if decide (b<(a.n.Peers.length:Int))then
 joinP (λ(g:List Int)=>
 s_l16Commit_l2 N a d m (w64 (b+1)) g) λf=>
 (at? a.n.Peers b).bind λh=>
 (if decide (h.Match>=d)then
 (at? a.n.Peers b).bind λj=>
 (cat? c ([j.Id]:List Int)).bind λk=>
 f k
 else
 f c)
 else
 some c)
def s_l16Commit_l1 (N:Nat)(a:Tl16Run)(f:List Int):Nat->Int->Int->Option (Int)
 |0,_,_=>none
 |m+1,b,c=>
 (if decide (b>c)then
 joinP (λ(g:Int)=>
 s_l16Commit_l1 N a f m (w64 (b-1)) g) λd=>
 joinP (λ(h:List Int)=>
 (s_LogTerm N a.n.Log b).bind λj=>
 (if(j==a.n.Term)then
 (s_Most N f h).bind λk=>
 (if k then
 d b
 else
 d c)
 else
 d c)) λl=>
 (s_l16Commit_l2 N a b N 0 ([a.n.Id]:List Int)).bind (λo=>l o)
 else
 some c)
def s_l16Commit (N:Nat)(a:Tl16Run):Option (Tl16Run):=
 (s_ConfOf N a.n).bind λd=>
 (s_l12Last N a.n.Log).bind λf=>
 joinP (λ(c:Int)=>
 (if(a.n.Role==2)then
 (s_l09In N d a.n.Id).bind λg=>
 (if(!g)then
 (s_l16ConfIndex N (Node.mk a.n.Id a.n.Term a.n.Vote a.n.Role a.n.Lead a.n.Conf a.n.Log c a.n.Clock a.n.Limit a.n.Votes a.n.Peers)).bind λh=>
 (if decide (h<=c)then
 (s_l16Follow N (Tl16Run.mk (Node.mk a.n.Id a.n.Term a.n.Vote a.n.Role a.n.Lead a.n.Conf a.n.Log c a.n.Clock a.n.Limit a.n.Votes a.n.Peers) a.told) 0).bind λb=>
 some (Tl16Run.mk (Node.mk b.n.Id b.n.Term b.n.Vote b.n.Role b.n.Lead a.n.Conf (Log.mk b.n.Log.Start b.n.Log.StartTerm a.n.Log.Entries) b.n.Commit b.n.Clock b.n.Limit b.n.Votes b.n.Peers) a.told)
 else
 some (Tl16Run.mk (Node.mk a.n.Id a.n.Term a.n.Vote a.n.Role a.n.Lead a.n.Conf a.n.Log c a.n.Clock a.n.Limit a.n.Votes a.n.Peers) a.told))
 else
 some (Tl16Run.mk (Node.mk a.n.Id a.n.Term a.n.Vote a.n.Role a.n.Lead a.n.Conf a.n.Log c a.n.Clock a.n.Limit a.n.Votes a.n.Peers) a.told))
 else
 some (Tl16Run.mk (Node.mk a.n.Id a.n.Term a.n.Vote a.n.Role a.n.Lead a.n.Conf a.n.Log c a.n.Clock a.n.Limit a.n.Votes a.n.Peers) a.told))) λj=>
 (s_l16Commit_l1 N a d N f a.n.Commit).bind (λk=>j k)
instance i98 (N:Nat)(b:Tl16Run):JG 173 (s_l16Commit N b) [.ptr 0 0] 6 ((0,.box (cTl16Run0 b 1 2 3 4 5 []))::(rTl16Run0 b 1 2 3 4 5 [])) (λr=>.tup []) (λr=>((0,.box (cTl16Run0 r 6 7 8 9 10 []))::(1,.gone)::(2,.gone)::(3,.gone)::(4,.gone)::(5,.gone)::(rTl16Run0 r 6 7 8 9 10 []))):=.st e e Tryz.call173 λB r=>.f (hp:=(.cons (.agg (.d4 (.d1 (.cons (.borrow e (by decide) lw) (.d2 (.cons (.borrow e (by decide) lw) (.d2 (.d1 (.cons (.borrow e (by decide) lw) (.cons (.borrow e (by decide) lw) .nil)))))))))) .nil)) (hcase:=λ_=>(.inr ⟨rfl,ownL_root ⟨own_rows (λ_=>e) _,trivial⟩⟩)) [] [1,2,3,4] 1 e i q λ_ _=>.f (hp:=(.cons (.agg (.d2 (.cons (.borrow e (by decide) lw) .nil))) .nil)) (hcase:=λ_=>(.inr ⟨rfl,ownL_root trivial⟩)) [] [2] 0 e i q λ_ _=>.jk e [0,2] [0,1,2,3,4,5,1064] (λl=>[.c 0 9 (VI l)]) (λ_=>e) (λ_=>.K2 e [0,2,4] [0,1,2,3,4,5,1064] (λm o=>[.f 4 (VI m),.c 0 9 (VI o)]) (λ_ _=>e) λ_ m o _ w=>.q e (.a e e (.jk e [0,2,4] [0,1,2,3,4,5,6] (λp=>[.c 0 9 (VI p)]) (λ_=>e) (λ_=>.st e (Ev.bsW (ys:=([b.n.Id]:List Int)) (f:=encI) e (.d1 .nil) e e e e e) e (.jk e [0,2,4,5] [0,1,2,3,4,5,6,21560] (λd=>[.f 5 (.sl 7 3 0 d.length),.r 7 (.vec 3 (d.map encI))]) (λ_=>e) (λ_=>.K2 e [0,2,4,5,6] [0,1,2,3,4,5,6,21560] (λs g=>[.f 5 (.sl 7 3 0 g.length),.f 6 (VI s),.r 7 (.vec 3 (g.map encI))]) (λ_ _=>e) λ_ s g _ x=>.q e (.a e e (.jk e [0,2,4,5,6] [0,1,2,3,4,5,6,7] (λj=>[.f 5 (.sl 7 3 0 j.length),.r 7 (.vec 3 (j.map encI))]) (λ_=>e) (λ_=>.B λ_ t=>.st e (Ev.iaW e e e t) e (.st e (Ev.ldE (f:=encPeer) e e (at_some t).2 e e e) e (.a e e (.B λy u=>.st e (Ev.iaW e e e u) e (.st e (Ev.ldE (f:=encPeer) e e (at_some u).2 e e e) e (.st e (Ev.bsW (ys:=([y.Id]:List Int)) (f:=encI) e (.d1 .nil) e e e e e) e (.B λ_ v=>.st e (Ev.apW (f:=encI) (ontoW e e e) (addsW e e e (λ_=>e)) e bt3 e v) e (.J e (.k [0,2,4,5,6] [0,1,2,3,4,5,6,42136])))))) (.J e (.k [0,2,4,5,6] [0,1,2,3,4,5,6,7]))))) λj=>.R e (λh=>⟨_,_,h,e,e⟩) (.k [0,2,4,5,6] [0,1,2,3,4,5,6,7])) (.X x e e (.n e (.J e (.k [0,2,4,5] [0,1,2,3,4,5,6,7])))))) λd=>.q e (.f (hp:=(.cons (.agg (.d2 (.cons (.borrow e (by decide) lw) .nil))) (.d1 .nil))) (hcase:=λ_=>(.inr ⟨rfl,ownL_root trivial⟩)) [] [2] 0 e i q λ_ _=>.a e e (.f (hp:=(.cons (.borrow e (by decide) lw) (.cons (.borrow e (by decide) lw) .nil))) (hcase:=λ_=>(.inr ⟨rfl,ownL_root trivial⟩)) [] [6,7] 0 e i q λ_ _=>.dn e (.a e e (.J e (.k [0,2,4] [0,1,2,3,4,5,6])) (.J e (.k [0,2,4] [0,1,2,3,4,5,6])))) (.dn e (.J e (.k [0,2,4] [0,1,2,3,4,5,6])))))) λp=>.R e (λh=>⟨_,_,h,e,e⟩) (.k [0,2,4] [0,1,2,3,4,5,6])) (.X w e e (.n e (.J e (.k [0,2] [0,1,2,3,4,5,6])))))) λl=>.q e (.a e e (.f (hp:=(.cons (.borrow e (by decide) lw) (.d1 .nil))) (hcase:=λ_=>(.inr ⟨rfl,ownL_root trivial⟩)) [] [6] 0 e i q λ_ _=>.a e e (.f (hp:=(.cons (.agg (.d4 (.d1 (.cons (.borrow e (by decide) lw) (.d2 (.cons (.borrow e (by decide) lw) (.d2 (.d1 (.cons (.borrow e (by decide) lw) (.cons (.borrow e (by decide) lw) .nil)))))))))) .nil)) (hcase:=λ_=>(.inr ⟨rfl,ownL_root trivial⟩)) [] [1,2,3,4] 0 e i q λ_ _=>.dn e (.a e e (.f [0,1,2,3,4,5] [] 2 e i q λ_ _=>.E e e (.mv [] [0,1,2,3,4,5,58360,58361] [1,2,5] [0,1,2,3,4,5,30000001,30000002,58360,58361,30000005])) (.E e e (.mv [] [0,1,2,3,4,5] [1,2,3,4,5] [0,1,2,3,4,5,30000001,30000002,30000003,30000004,30000005])))) (.dn e (.E e e (.mv [] [0,1,2,3,4,5] [1,2,3,4,5] [0,1,2,3,4,5,30000001,30000002,30000003,30000004,30000005])))) (.dn e (.E e e (.mv [] [0,1,2,3,4,5] [1,2,3,4,5] [0,1,2,3,4,5,30000001,30000002,30000003,30000004,30000005]))))
def s_l16SendAll_i1_l1 (N:Nat)(b:Tl16Run):Nat->Int->Int->Int->Int->Int->Int->Int->Int->Int->Int->Int->(List Message)->Option (Int×Int×Int×Int×Int×Int×Int×Int×Int×Int×(List Message))
 |0,_,_,_,_,_,_,_,_,_,_,_,_=>none
 |m+1,c,d,f,g,h,j,k,l,o,p,s,t=>
 (if decide (c<(b.n.Peers.length:Int))then
 (at? b.n.Peers c).bind λu=>
 (s_l16Send N (Tl16Run.mk (Node.mk d f g h j b.n.Conf (Log.mk k l b.n.Log.Entries) o p s b.n.Votes b.n.Peers) t) u).bind λa=>
 s_l16SendAll_i1_l1 N b m (w64 (c+1)) a.n.Id a.n.Term a.n.Vote a.n.Role a.n.Lead a.n.Log.Start a.n.Log.StartTerm a.n.Commit a.n.Clock a.n.Limit a.told
 else
 some (d,f,g,h,j,k,l,o,p,s,t))
def s_l16SendAll_i1 (N:Nat)(a:Tl16Run):Option (Tl16Run):=
 (s_l16SendAll_i1_l1 N a N 0 a.n.Id a.n.Term a.n.Vote a.n.Role a.n.Lead a.n.Log.Start a.n.Log.StartTerm a.n.Commit a.n.Clock a.n.Limit a.told).bind (λb=>some (Tl16Run.mk (Node.mk b.1 b.2.1 b.2.2.1 b.2.2.2.1 b.2.2.2.2.1 a.n.Conf (Log.mk b.2.2.2.2.2.1 b.2.2.2.2.2.2.1 a.n.Log.Entries) b.2.2.2.2.2.2.2.1 b.2.2.2.2.2.2.2.2.1 b.2.2.2.2.2.2.2.2.2.1 a.n.Votes a.n.Peers) b.2.2.2.2.2.2.2.2.2.2))
instance i99 (N:Nat)(b:Tl16Run):JG 158 (s_l16SendAll_i1 N b) [.ptr 0 0] 6 ((0,.box (cTl16Run0 b 1 2 3 4 5 []))::(rTl16Run0 b 1 2 3 4 5 [])) (λr=>.tup []) (λr=>((0,.box (cTl16Run0 r 6 7 8 9 10 []))::(1,.gone)::(2,.gone)::(3,.gone)::(4,.gone)::(5,.gone)::(rTl16Run0 r 6 7 8 9 10 []))):=.st e e Tryz.call158 λB r=>.L12 e (λd g j l m o p s t u w c=>[(0,.ptr 0 0),(2,VI d)]) (λd g j l m o p s t u w c=>((0,.box [VI g,VI j,VI l,VI m,VI o,.sl 6 3 0 b.n.Conf.length,VI p,VI s,.sl 7 91 0 b.n.Log.Entries.length,VI t,VI u,VI w,.sl 8 3 0 b.n.Votes.length,.sl 9 195 0 b.n.Peers.length,.sl 10 42 0 c.length])::(1,.gone)::(2,.gone)::(3,.gone)::(4,.gone)::(5,.gone)::(rNode0 b.n 6 7 8 9 [(10,.vec 42 (c.map (encMessage false)))]))) (.mv [0,2] [0,1,2,3,4,5] [1,2,3,4,5] [0,1,2,3,4,5,30000001,30000002,30000003,30000004,30000005]) λ_ d g j l m o p s t u w c _ y=>.q e (.a e e (.B λ_ x=>.st e (Ev.iaW e e e x) e (.st e (Ev.ldE (f:=encPeer) e e (at_some x).2 e e e) e (.f [0,6,7,8,9,10] [] 1 e i q λ_ _=>.R e (λh=>⟨_,_,_,_,_,_,_,_,_,_,_,_,h,e,e⟩) (.k [0,2] [0,1,2,3,4,5,6,7,8,9,13432])))) (.X y e e (.n e (.Ek [0,1,2,3,4,5,6,7,8,9,10] e e e))))
def s_l16Lead_l1 (N:Nat)(c:Int)(a:List Int):Nat->Int->(List Peer)->Option ((List Peer))
 |0,_,_=>none
 |m+1,b,d=>
 (if decide (b<(a.length:Int))then
 (at? a b).bind λf=>
 (cat? d ([(Peer.mk f (w64 (c+1)) 0 0)]:List Peer)).bind λg=>
 s_l16Lead_l1 N c a m (w64 (b+1)) g
 else
 some d)
def s_l16Lead (N:Nat)(a:Tl16Run):Option (Tl16Run):=
 (s_l12Last N a.n.Log).bind λd=>
 joinP (λ(b:List Entry)=>
 (s_ConfOf N (Node.mk a.n.Id a.n.Term a.n.Vote 2 a.n.Id a.n.Conf (Log.mk a.n.Log.Start a.n.Log.StartTerm b) a.n.Commit a.n.Clock a.n.Limit ([]:List Int) a.n.Peers)).bind λf=>
 (s_l16Others N f a.n.Id).bind λg=>
 joinP (λ(h:List Peer)=>
 (s_l16Commit N (Tl16Run.mk (Node.mk a.n.Id a.n.Term a.n.Vote 2 a.n.Id a.n.Conf (Log.mk a.n.Log.Start a.n.Log.StartTerm b) a.n.Commit a.n.Clock a.n.Limit ([]:List Int) h) a.told)).bind λj=>
 (s_l16SendAll_i1 N j).bind λk=>
 some k) λl=>
 (s_l16Lead_l1 N d g N 0 ([]:List Peer)).bind (λm=>l m)) λc=>
 (s_l16Room N (Node.mk a.n.Id a.n.Term a.n.Vote 2 a.n.Id a.n.Conf a.n.Log a.n.Commit a.n.Clock a.n.Limit ([]:List Int) a.n.Peers)).bind λo=>
 (if o then
 (cat? a.n.Log.Entries ([(Entry.mk a.n.Term 1 (⟨#[]⟩:BA))]:List Entry)).bind λp=>
 c p
 else
 c a.n.Log.Entries)
instance i100 (N:Nat)(b:Tl16Run):JG 160 (s_l16Lead N b) [.ptr 0 0] 6 ((0,.box (cTl16Run0 b 1 2 3 4 5 []))::(rTl16Run0 b 1 2 3 4 5 [])) (λr=>.tup []) (λr=>((0,.box (cTl16Run0 r 6 7 8 9 10 []))::(1,.gone)::(2,.gone)::(3,.gone)::(4,.gone)::(5,.gone)::(rTl16Run0 r 6 7 8 9 10 []))):=.st e e Tryz.call160 λB r=>.f (hp:=(.cons (.agg (.d2 (.cons (.borrow e (by decide) lw) .nil))) .nil)) (hcase:=λ_=>(.inr ⟨rfl,ownL_root trivial⟩)) [] [2] 0 e i q λm _=>.st e (Ev.bsW (ys:=([]:List Int)) (f:=encI) e .nil e e e e e) e (.j e (λd=>[(0,.ptr 0 0),(2,VI m)]) (λd=>[(0,.box [VI b.n.Id,VI b.n.Term,VI b.n.Vote,VI 2,VI b.n.Id,.sl 6 3 0 b.n.Conf.length,VI b.n.Log.Start,VI b.n.Log.StartTerm,.sl 7 91 0 d.length,VI b.n.Commit,VI b.n.Clock,VI b.n.Limit,.sl 8 3 0 (([]:List Int).length),.sl 9 195 0 b.n.Peers.length,.sl 10 42 0 b.told.length]),(1,.gone),(2,.gone),(3,.gone),(4,.gone),(5,.gone),(6,.vec 3 (b.n.Conf.map encI)),(7,.vec 91 (d.map encEntry)),(8,.vec 3 (([]:List Int).map encI)),(9,.vec 195 (b.n.Peers.map encPeer)),(10,.vec 42 (b.told.map (encMessage false)))]) (λ_=>.f (hp:=(.cons (.agg (.d4 (.d1 (.cons (.borrow e (by decide) lw) (.d2 (.cons (.borrow e (by decide) lw) (.d2 (.d1 (.cons (.borrow e (by decide) lw) (.cons (.borrow e (by decide) lw) .nil)))))))))) .nil)) (hcase:=λ_=>(.inr ⟨rfl,ownL_root trivial⟩)) [] [1,2,13304,4] 0 e i q λ_ _=>.a e e (.st e (Ev.bsW (ys:=([(Entry.mk b.n.Term 1 (⟨#[]⟩:BA))]:List Entry)) (f:=encEntry) e (.d2 (.d1 .nil)) e e e e e) e (.B λ_ s=>.st e (Ev.apW (f:=encEntry) (ontoW e e e) (addsW e e e (λ_=>e)) e bt91 e s) e (.dn e (.J e (.mv [0,2] [0,1,2,3,4,5,21704,13304] [1,3,4,5] [0,1,2,3,4,5,30000001,21704,13304,30000004,30000005]))))) (.J e (.mv [0,2] [0,1,2,3,4,5,13304] [1,2,3,4,5] [0,1,2,3,4,5,30000001,30000002,13304,30000004,30000005]))) λd=>.f (hp:=(.cons (.agg (.d4 (.d1 (.cons (.borrow e (by decide) lw) (.d2 (.cons (.borrow e (by decide) lw) (.d2 (.d1 (.cons (.borrow e (by decide) lw) (.cons (.borrow e (by decide) lw) .nil)))))))))) .nil)) (hcase:=λ_=>(.inr ⟨rfl,ownL_root ⟨own_rows (λ_=>e) _,trivial⟩⟩)) [] [6,7,8,9] 1 e i q λ_ _=>.f (hp:=(.cons (.borrow e (by decide) lw) (.d1 .nil))) (hcase:=λ_=>(.inr ⟨rfl,ownL_root ⟨own_rows (λ_=>e) _,trivial⟩⟩)) [] [25640] 1 e i q λ_ _=>.dn e (.st e (Ev.bsW (ys:=([]:List Peer)) (f:=encPeer) e .nil e e e e e) e (.jk e [0] [0,1,2,3,4,5,6,7,8,29688,10] (λg=>[.c 0 13 (.sl 9 195 0 g.length),.r 9 (.vec 195 (g.map encPeer))]) (λ_=>e) (λ_=>.K2 e [0,2,3,4] [0,1,2,3,4,5,25736,6,7,8,29688,10] (λo l=>[.f 4 (VI o),.c 0 13 (.sl 10 195 0 l.length),.r 10 (.vec 195 (l.map encPeer))]) (λ_ _=>e) λ_ o l _ t=>.q e (.a e e (.B λu p=>.st e (Ev.iaW e e e p) e (.st e (Ev.ldE (f:=encI) e e (at_some p).2 e e e) e (.st e (Ev.bsW (ys:=([(Peer.mk u (w64 (m+1)) 0 0)]:List Peer)) (f:=encPeer) e (.d4 .nil) e e e e e) e (.B λ_ w=>.st e (Ev.apW (f:=encPeer) (ontoW e e e) (addsW e e e (λ_=>e)) e bt195 e w) e (.dn e (.R e (λh=>⟨_,_,h,e,e⟩) (.k [0,2,3,4] [0,1,2,3,4,5,6,7,8,9,46280,11]))))))) (.X t e e (.n e (.J e (.k [0] [0,1,2,3,4,5,7,8,9,10,11])))))) λg=>.f [0,6,7,8,9,10] [] 5 e i q λ_ _=>.f [0,50168,50169,50170,50171,50172] [] 5 e i q λ_ _=>.Ek [0,1,2,3,4,5,54264,54265,54266,54267,54268] e e e)))
def s_Tick_l1 (N:Nat)(g:Node)(b:Node)(c:Int×Int)(d:List Int):Nat->Int->Int->Int->Int->Int->Int->Int->Int->Int->Int->Int->(List Message)->Option (Int×Int×Int×Int×Int×Int×Int×Int×Int×Int×(List Message))
 |0,_,_,_,_,_,_,_,_,_,_,_,_=>none
 |m+1,f,h,j,k,l,o,p,s,t,u,w,x=>
 (if decide (f<(d.length:Int))then
 (at? d f).bind λy=>
 (s_l16Tell N (Tl16Run.mk (Node.mk h j k l o b.Conf (Log.mk p s b.Log.Entries) t u w ([g.Id]:List Int) b.Peers) x) (Message.mk 1 0 y 0 c.1 c.2 0 false ([]) ([]) (⟨#[]⟩:BA) false)).bind λa=>
 s_Tick_l1 N g b c d m (w64 (f+1)) a.n.Id a.n.Term a.n.Vote a.n.Role a.n.Lead a.n.Log.Start a.n.Log.StartTerm a.n.Commit a.n.Clock a.n.Limit a.told
 else
 some (h,j,k,l,o,p,s,t,u,w,x))
def s_Tick (N:Nat)(c:Node)(h:Int):Option (Node×(List Message)×Bool):=
 (s_NodeOk N c).bind λl=>
 (if(!l)then
 some ((Node.mk 0 0 0 0 0 ([]) (Log.mk 0 0 ([])) 0 0 0 ([]) ([])),([]:List Message),false)
 else
 (s_l01In N h 1 20).bind λm=>
 (if(!m)then
 some ((Node.mk 0 0 0 0 0 ([]) (Log.mk 0 0 ([])) 0 0 0 ([]) ([])),([]:List Message),false)
 else
 (s_l16Copy N c).bind λb=>
 (if(c.Role==2)then
 (s_l16SendAll N (Tl16Run.mk b ([]))).bind λd=>
 some ((Node.mk d.n.Id d.n.Term d.n.Vote d.n.Role d.n.Lead b.Conf (Log.mk d.n.Log.Start d.n.Log.StartTerm b.Log.Entries) d.n.Commit d.n.Clock d.n.Limit b.Votes b.Peers),d.told,true)
 else
 (if decide ((w64 (c.Clock+1))<b.Limit)then
 some (({ b with Clock:=w64 (c.Clock+1) }),[],true)
 else
 (s_ConfOf N ({ b with Clock:=0,Limit:=h })).bind λj=>
 (s_l09In N j c.Id).bind λo=>
 (if(!o)then
 some (({ b with Clock:=0,Limit:=h }),[],true)
 else
 (if(c.Term==100000)then
 some (({ b with Clock:=0,Limit:=h }),[],true)
 else
 (s_l16Elected N (Tl16Run.mk (Node.mk b.Id (w64 (c.Term+1)) c.Id 1 0 b.Conf b.Log b.Commit 0 h ([c.Id]:List Int) b.Peers) ([]))).bind λa=>
 (if a.1 then
 (s_l16Lead N (Tl16Run.mk (Node.mk a.2.n.Id a.2.n.Term a.2.n.Vote a.2.n.Role a.2.n.Lead b.Conf (Log.mk a.2.n.Log.Start a.2.n.Log.StartTerm b.Log.Entries) a.2.n.Commit a.2.n.Clock a.2.n.Limit ([c.Id]:List Int) b.Peers) a.2.told)).bind λk=>
 some (k.n,k.told,true)
 else
 (s_LogLast N (Log.mk a.2.n.Log.Start a.2.n.Log.StartTerm b.Log.Entries)).bind λp=>
 (s_l16Others N j c.Id).bind λs=>
 joinP (λ(f:Int×Int×Int×Int×Int×Int×Int×Int×Int×Int×(List Message))=>
 some ((Node.mk f.1 f.2.1 f.2.2.1 f.2.2.2.1 f.2.2.2.2.1 b.Conf (Log.mk f.2.2.2.2.2.1 f.2.2.2.2.2.2.1 b.Log.Entries) f.2.2.2.2.2.2.2.1 f.2.2.2.2.2.2.2.2.1 f.2.2.2.2.2.2.2.2.2.1 ([c.Id]:List Int) b.Peers),f.2.2.2.2.2.2.2.2.2.2,true)) λt=>
 (s_Tick_l1 N c b p s N 0 a.2.n.Id a.2.n.Term a.2.n.Vote a.2.n.Role a.2.n.Lead a.2.n.Log.Start a.2.n.Log.StartTerm a.2.n.Commit a.2.n.Clock a.2.n.Limit a.2.told).bind (λg=>t (g.1,g.2.1,g.2.2.1,g.2.2.2.1,g.2.2.2.2.1,g.2.2.2.2.2.1,g.2.2.2.2.2.2.1,g.2.2.2.2.2.2.2.1,g.2.2.2.2.2.2.2.2.1,g.2.2.2.2.2.2.2.2.2.1,g.2.2.2.2.2.2.2.2.2.2)))))))))
instance i101 (N:Nat)(d:Node)(z:Int):JG 82 (s_Tick N d z) [.agg (cNode0 d []),VI z] 0 [] (λr=>.tup [.agg (cNode1 r.1 0 1 2 3 []),.sl 4 42 0 r.2.1.length,VB r.2.2]) (λr=>(rNode0 r.1 0 1 2 3 [(4,.vec 42 (r.2.1.map (encMessage false)))])):=.st e e Tryz.call82 λB r=>.q e (.q e (.c0 e i q λ_ _=>.a e e (.st e (Ev.bsW (ys:=([]:List Message)) (f:=(encMessage false)) e .nil e e e e e) e (.E e e (.n [0,1,2] [9208] [0] [] [10000000,10000001,10000002,10000003,9208]))) (.c0 e i q λ_ _=>.a e e (.st e (Ev.bsW (ys:=([]:List Message)) (f:=(encMessage false)) e .nil e e e e e) e (.E e e (.n [0,1,2] [9208] [0] [] [10000000,10000001,10000002,10000003,9208]))) (.f [] [] 4 e i q λc _=>.q e (.a e e (.f [13336,13304,13305,13306,13307] [] 1 e i q λ_ _=>.dn e (.Ek [13304,13305,13306,13307,21496] e e e)) (.q e (.dn e (.a e e (.dn e (.E e e (.n [0,1,2] [13304,13305,13306,13307] [1] [] [13304,13305,13306,13307,10000000]))) (.f (hp:=(.cons (.agg (.d4 (.d1 (.cons (.borrow e (by decide) lw) (.d2 (.cons (.borrow e (by decide) lw) (.d2 (.d1 (.cons (.borrow e (by decide) lw) (.cons (.borrow e (by decide) lw) .nil)))))))))) .nil)) (hcase:=λ_=>(.inr ⟨rfl,ownL_root ⟨own_rows (λ_=>e) _,trivial⟩⟩)) [] [13304,13305,13306,13307] 1 e i q λ_ _=>.q e (.q e (.f (hp:=(.cons (.borrow e (by decide) lw) (.d1 .nil))) (hcase:=λ_=>(.inr ⟨rfl,ownL_root trivial⟩)) [] [50216] 0 e i q λ_ _=>.a e e (.dn e (.E e e (.n [0,1,2] [13304,13305,13306,13307] [1] [] [13304,13305,13306,13307,10000000]))) (.a e e (.dn e (.E e e (.n [0,1,2] [13304,13305,13306,13307] [1] [] [13304,13305,13306,13307,10000000]))) (.st e (Ev.bsW (ys:=([d.Id]:List Int)) (f:=encI) e (.d1 .nil) e e e e e) e (.q e (.f [13336,13304,13305,78872,13307] [] 1 e i q λ_ _=>.a e e (.f [13336,13304,13305,78872,13307,82936] [] 5 e i q λ_ _=>.dn e (.Ek [87032,87033,87034,87035,87036] e e e)) (.f (hp:=(.cons (.agg (.d2 (.cons (.borrow e (by decide) lw) .nil))) .nil)) (hcase:=λ_=>(.inr ⟨rfl,ownL_root trivial⟩)) [] [13305] 0 e i q λa0 _=>.f (hp:=(.cons (.borrow e (by decide) lw) (.d1 .nil))) (hcase:=λ_=>(.inr ⟨rfl,ownL_root ⟨own_rows (λ_=>e) _,trivial⟩⟩)) [] [50216] 1 e i q λa1 _=>.j e (λb=>[(4,.ptr 0 0),(7,.ptr 1 0)]) (λb=>[(0,.box [VI 0,VI 0,VI 0,VI 0,VI 0,.sl 2 3 0 (([]:List Int).length),VI 0,VI 0,.sl 3 91 0 (([]:List Entry).length),VI 0,VI 0,VI 0,.sl 4 3 0 (([]:List Int).length),.sl 5 195 0 (([]:List Peer).length)]),(1,.box [VI b.1,VI b.2.1,VI b.2.2.1,VI b.2.2.2.1,VI b.2.2.2.2.1,.sl 6 3 0 c.Conf.length,VI b.2.2.2.2.2.1,VI b.2.2.2.2.2.2.1,.sl 7 91 0 c.Log.Entries.length,VI b.2.2.2.2.2.2.2.1,VI b.2.2.2.2.2.2.2.2.1,VI b.2.2.2.2.2.2.2.2.2.1,.sl 8 3 0 (([d.Id]:List Int).length),.sl 9 195 0 c.Peers.length,.sl 10 42 0 b.2.2.2.2.2.2.2.2.2.2.length]),(2,.vec 3 (([]:List Int).map encI)),(3,.vec 91 (([]:List Entry).map encEntry)),(4,.vec 3 (([]:List Int).map encI)),(5,.vec 195 (([]:List Peer).map encPeer)),(6,.vec 3 (c.Conf.map encI)),(7,.vec 91 (c.Log.Entries.map encEntry)),(8,.vec 3 (([d.Id]:List Int).map encI)),(9,.vec 195 (c.Peers.map encPeer)),(10,.vec 42 (b.2.2.2.2.2.2.2.2.2.2.map (encMessage false)))]) (λ_=>.L12 e (λl m o p s t u w x y v g=>[(4,.ptr 0 0),(7,.ptr 1 0),(9,VI a0.1),(10,VI a0.2),(11,.sl 2 3 0 a1.length),(12,VI l)]) (λl m o p s t u w x y v g=>[(0,.box [VI 0,VI 0,VI 0,VI 0,VI 0,NI 3,VI 0,VI 0,NI 91,VI 0,VI 0,VI 0,NI 3,NI 195]),(1,.box [VI m,VI o,VI p,VI s,VI t,.sl 3 3 0 c.Conf.length,VI u,VI w,.sl 4 91 0 c.Log.Entries.length,VI x,VI y,VI v,.sl 5 3 0 (([d.Id]:List Int).length),.sl 6 195 0 c.Peers.length,.sl 7 42 0 g.length]),(2,.vec 3 (a1.map encI)),(3,.vec 3 (c.Conf.map encI)),(4,.vec 91 (c.Log.Entries.map encEntry)),(5,.vec 3 (([d.Id]:List Int).map encI)),(6,.vec 195 (c.Peers.map encPeer)),(7,.vec 42 (g.map (encMessage false)))]) (.k [4,7,9,10,11,12] [1016,13336,99352,13304,13305,78872,13307,82936]) λ_ l m o p s t u w x y v g _ a3=>.q e (.a e e (.B λ_ a2=>.st e (Ev.iaW e e e a2) e (.st e (Ev.ldE (f:=encI) e e (at_some a2).2 e e e) e (.f [1,3,4,5,6,7] [] 1 e i q λ_ _=>.R e (λh=>⟨_,_,_,_,_,_,_,_,_,_,_,_,h,e,e⟩) (.k [4,7,9,10,11,12] [0,1,2,3,4,5,6,115816])))) (.X a3 e e (.n e (.J e (.n [4,7] [0,1,3,4,5,6,7] [] [0] [0,1,20000000,20000001,20000002,20000003,3,4,5,6,7])))))) λb=>.dn e (.Ek [6,7,8,9,10] e e e)))))))))))))))))
end Go.Proofs.YtmcbbifeekhmgaaGreatDoor.Pe.FnBoots
