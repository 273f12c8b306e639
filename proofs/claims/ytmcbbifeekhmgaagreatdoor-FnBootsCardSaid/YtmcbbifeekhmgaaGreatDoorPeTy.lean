import Derived.Test.YtmcbbifeekhmgaaGreatDoorPeStep
namespace Go.Proofs.YtmcbbifeekhmgaaGreatDoor.Pe
open Go Go.RowKit
set_option linter.unusedVariables false
abbrev w64 (n:Int):Int:=IntKind.i64.wrap n
abbrev VI (n:Int):V:=.c (.i .i64 n)
abbrev VB (b:Bool):V:=.c (.b b)
abbrev VS (s:ByteArray):V:=.c (.s s)
abbrev RO (e:Nat)(rows:List (List C)):V:=.c (.row false e rows)
abbrev NI (e:Nat):V:=.c (.row true e [])
abbrev encI (n:Int):List C:=[.i .i64 n]
abbrev encU (n:Int):List C:=[.i .u8 n]
abbrev encS (n:ByteArray):List C:=[.s n]
def at? {α:Type}(xs:List α)(i:Int):Option α:=if 0<=i then xs[i.toNat]? else none
def cat? {α:Type}(xs ys:List α):Option (List α):=if xs.length+ys.length<=68719476736 then some (xs++ys)else none
def drop? {α:Type}(xs:List α)(i:Int):Option (List α):=if 0<=i/\i<=xs.length then some (xs.drop i.toNat)else none
def take? {α:Type}(xs:List α)(i:Int):Option (List α):=if 0<=i/\i<=xs.length then some (xs.take i.toNat)else none
def mk? {α:Type}(z:α)(n:Int):Option (List α):=if 0<=n/\n<=68719476736 then some (List.replicate n.toNat z)else none
def sat? (t:ByteArray)(i:Int):Option Int:=if 0<=i then(t[i.toNat]?).map (λb=>(b.toNat:Int))else none
def sdrop? (t:ByteArray)(i:Int):Option ByteArray:=if 0<=i/\i<=t.size then some (t.extract i.toNat t.size)else none
def stake? (t:ByteArray)(i:Int):Option ByteArray:=if 0<=i/\i<=t.size then some (t.extract 0 i.toNat)else none
def clr? {α:Type}(z:α)(xs:List α)(o n:Nat):Option (List α):=if o+n<=xs.length then some (xs.take o++(List.replicate n z++xs.drop (o+n)))else none
def len? {α β:Type}(xs:List α)(ys:List β):Option Unit:=if xs.length=ys.length then some ()else none
def scut? (t:ByteArray)(i j:Int):Option ByteArray:=if 0<=i/\i<=j/\j<=t.size then some (t.extract i.toNat j.toNat)else none
def scat? (t u:ByteArray):Option ByteArray:=if t.size+u.size<=9223372036854775807 then some (t++u)else none
abbrev imax (a b:Int):Int:=if a<b then b else a
def joinP {α β:Type}(k:α->Option β)(body:(α->Option β)->Option β):Option β:=body k
theorem bindO {α β:Type}{o:Option α}{k:α->Option β}{r:β}(h:o.bind k=some r):∃x,o=some x/\k x=some r:=Option.bind_eq_some_iff.1 h
theorem someO {α:Type}{a r:α}(h:some a=some r):a=r:=Option.some.inj h
theorem at_some {α:Type}{xs:List α}{i:Int}{x:α}(h:at? xs i=some x):0<=i/\xs[i.toNat]? =some x:=by
 unfold at? at h
 split at h
 ·exact⟨by assumption,h⟩
 ·cases h
theorem at_lt {α:Type}{xs:List α}{k:Nat}(h:k<xs.length):at? xs (k:Int)=some xs[k]:=by
 unfold at?
 rw[if_pos (by omega),Int.toNat_natCast,List.getElem?_eq_getElem h]
theorem w64_id {n:Int}(h0: -9223372036854775808<=n)(h:n<9223372036854775808):w64 n=n:=by
 unfold w64
 rw[IntKind.wrap_i64]
 omega
theorem w64_succ {k:Nat}(h:k<9223372036854775807):w64 ((k:Int)+1)=((k+1:Nat):Int):=by
 rw[w64_id (by omega) (by omega)]
 rfl
theorem cat_some {α:Type}{xs ys zs:List α}(h:cat? xs ys=some zs):xs.length+ys.length<=68719476736/\zs=xs++ys:=by
 unfold cat? at h
 split at h
 ·exact⟨by assumption,(someO h).symm⟩
 ·cases h
theorem clr_len {α:Type}{z:α}{xs zs:List α}{o n:Nat}(h:clr? z xs o n=some zs):xs.length=zs.length:=by
 unfold clr? at h
 split at h
 ·obtain rfl:=someO h
  simp only[List.length_append,List.length_take,List.length_replicate,List.length_drop]
  omega
 ·cases h
theorem mapAt {α:Type}{xs:List α}{f:α->List C}{i:Nat}{y:α}(h:xs[i]? =some y):(xs.map f)[i]? =some (f y):=by simp[h]
theorem roRows_mapf {α:Type}{f g:α->List C}(h:∀x,roCs (f x)=g x)(xs:List α):roRows (xs.map f)=xs.map g:=by
 rw[roRows_map,List.map_map]
 exact List.map_congr_left (λx _=>h x)
theorem lendW {α:Type}{f g:α->List C}(h:∀x,roCs (f x)=g x)(xs:List α){len:Nat}(hl:len=xs.length):((roRows (xs.map f)).drop 0).take len=xs.map g:=by
 subst hl
 rw[roRows_mapf h,List.drop_zero,List.take_of_length_le (by simp)]
theorem lendP {α:Type}{f g:α->List C}(h:∀x,roCs (f x)=g x)(xs:List α)(o n:Nat):((roRows (xs.map f)).drop o).take n=((xs.drop o).take n).map g:=by
 rw[roRows_mapf h,List.map_take,List.map_drop]
theorem shareW {α:Type}{f:α->List C}(xs:List α){len:Nat}(hl:len=xs.length):((xs.map f).drop 0).take len=xs.map f:=by
 subst hl
 rw[List.drop_zero,List.take_of_length_le (by simp)]
theorem own_rows {α:Type}{f:α->List C}(h:∀x,ownCs (f x)=true):∀(xs:List α),ownRows (xs.map f)=true
 |[]=>rfl
 |x::xs=>by simp only[List.map_cons,ownRows,h x,own_rows h xs,Bool.and_self]
def ownL:St->Prop
 |[]=>True
 |(_,v)::l=>ownRt v/\ownL l
theorem ownL_root:∀{σ:St},ownL σ->∀k,ownRt (root σ k)
 |[],_,k=>trivial
 |(t,v)::l,h,k=>by
  rw[root_put]
  split
  ·exact h.1
  ·exact ownL_root h.2 k
section
variable {P:Program} {fr:Fr} {σ:St} {s n r e i k off len:Nat} {ag:Bool} {x y:A} {ik ik':IntKind} {j j':Int} {α:Type} {f:α->List C} {xs ys zs:List α} {u v':α}
theorem Ev.iaF (hv:val fr x=.c (.row false e (xs.map f)))(hi:val fr y=.c (.i ik j))(hx:at? xs j=some u):Ev P fr σ s (.ia e x y) (.rp (f u)) [] []:=
 .iaRo hv hi (at_some hx).1 (mapAt (at_some hx).2)
theorem Ev.lnF (hv:val fr x=.c (.row false e (xs.map f))):Ev P fr σ s (.ln false x) (.c (.i .i64 xs.length)) [] []:=.pure (by simp[pure1,hv])
theorem Ev.iaW (hv:val fr x=.sl r e 0 len)(hl:len=xs.length)(hi:val fr y=.c (.i ik j))(hx:at? xs j=some u):Ev P fr σ s (.ia e x y) (.el r e j.toNat 0) [] []:=by
 subst hl
 obtain⟨h0,h1⟩:=at_some hx
 have hl:=(List.getElem?_eq_some_iff.1 h1).1
 have:=Ev.ia (P:=P) (σ:=σ) (s:=s) hv hi h0 (by omega)
 rwa [Nat.zero_add]at this
theorem Ev.ldE {l:List C}{vs:List V}{v:V}(hp:val fr x=.el r e i k)(hr:root σ r=.vec e (xs.map f))(hi:xs[i]? =some u)(hl:takeN n ((f u).drop k)=some l)(hvs:reads l=some vs)(hv:mkV ag vs=some v):Ev P fr σ s (.ld n ag x) v [] []:=
 .ldEl hp hr (mapAt hi) hl hvs hv
theorem Ev.stE {vs:List V}{ds:List C}{M:List Nat}(hp:val fr x=.el r e i k)(hr:root σ r=.vec e (xs.map f))(hi:xs[i]? =some u)(hv:cellsV (val fr y)=some vs)(hd:ToCs σ vs ds M)(hM:nodupB M=true)(hrM:has M r=false)(hl:vs.length=n)(hf:Nat.ble (k+n) (f u).length=true)(he:setAt (f u) k ds=f v'):
  Ev P fr σ s (.sto n x y) .undef ((r,.vec e ((xs.set i v').map f))::gl M) (refsL vs):=by
 have:=Ev.stoEl (P:=P) (s:=s) hp hr (mapAt hi) hv hd (nodupB_spec hM) (λhm=>by rw[<-has_iff,hrM]at hm;cases hm) hl (by simpa using hf)
 rwa [he,<-List.map_set]at this
theorem Ev.bsW {m:Nat}{z:List C}{qs:List (Nat×Nat×A)}{vs:List V}{cs:List C}{M:List Nat}(h:fillV fr ((repl z m).map .c) qs=some vs)(hc:ToCs σ vs cs M)(hM:nodupB M=true)(hs:root σ s=.no)(hsM:has M s=false)(he:chunks z.length m cs=ys.map f)(hm:m=ys.length):
  Ev P fr σ s (.bs e m z qs) (.sl s e 0 ys.length) ((s,.vec e (ys.map f))::gl M) (refsL vs):=by
 have:=Ev.bs (P:=P) (e:=e) h hc (nodupB_spec hM) hs (λhm=>by rw[<-has_iff,hsM]at hm;cases hm)
 rw[he]at this
 subst hm
 exact this
theorem ontoN (h:val fr x=.c (.row true i [])):Onto fr σ x e (([]:List α).map f) []:=.nil h
theorem ontoW (h:val fr x=.sl r e 0 len)(hl:len=xs.length)(hr:root σ r=.vec e (xs.map f)):Onto fr σ x e (xs.map f) [r]:=by
 subst hl
 exact .own h hr (by simp) (List.take_of_length_le (by simp))
theorem addsF (h:val fr y=.c (.row false e (ys.map f))):Adds fr σ y e (ys.map f) []:=.ro h
theorem flat_map (hf:∀x,(f x).all flatC=true):∀x∈xs.map f,∀c∈x,flatC c=true:=by
 intro x hx c hc
 obtain⟨a,_,rfl⟩:=List.mem_map.1 hx
 exact List.all_eq_true.1 (hf a) c hc
theorem addsW (h:val fr y=.sl r e 0 len)(hl:len=ys.length)(hr:root σ r=.vec e (ys.map f))(hf:∀x,(f x).all flatC=true):Adds fr σ y e (ys.map f) []:=by
 subst hl
 exact .flat h hr (by rw[List.drop_zero,List.take_of_length_le (by simp)]) (flat_map hf)
theorem addsP (h:val fr y=.sl r e off len)(hr:root σ r=.vec e (ys.map f))(hf:∀x,(f x).all flatC=true):Adds fr σ y e (((ys.drop off).take len).map f) []:=.flat h hr (by rw[List.map_take,List.map_drop]) (flat_map hf)
theorem Ev.apW {Mx My:List Nat}(hx:Onto fr σ x e (xs.map f) Mx)(hy:Adds fr σ y e (ys.map f) My)(hM:nodupB (Mx++My)=true)(hb:bytesOf P e<=2048)(hs:root σ s=.no)(hc:cat? xs ys=some zs):
  Ev P fr σ s (.ap e x y) (.sl s e 0 zs.length) ((s,.vec e (zs.map f))::gl (Mx++My)) []:=by
 obtain⟨hl,rfl⟩:=cat_some hc
 have hlt:(xs.length+ys.length)*bytesOf P e<=140737488355328:=Nat.le_trans (Nat.mul_le_mul hl hb) (by decide)
 have:=Ev.ap (P:=P) (s:=s) hx hy (nodupB_spec hM) (by simp only[List.length_map];simp only[maxLen];omega) (by simpa using hlt) hs
 rw[<-List.map_append,List.length_map]at this
 exact this
theorem Ev.s3W {h m:A}{ik ik':IntKind}{j:Int}(hv:val fr x=.sl r e 0 len)(hxl:len=xs.length)(hh:val fr h=.c (.i ik j))(hm:val fr m=.c (.i ik' j))(ht:take? xs j=some zs):Ev P fr σ s (.s3 e x h m) (.s3 r e j.toNat) [] []:=by
 subst hxl
 unfold take? at ht
 split at ht
 ·rename_i hj
  exact .s3 hv hh hm hj.1 hj.2
 ·cases ht
theorem Ev.ap3W {My:List Nat}{n:Nat}(hv:val fr x=.s3 r e n)(hr:root σ r=.vec e (xs.map f))(hf:∀x,(f x).all flatC=true)(hn:n<=xs.length)(hy:Adds fr σ y e (ys.map f) My)(hy0:0<ys.length)(hM:nodupB My=true)(hb:bytesOf P e<=2048)(hs:root σ s=.no)(hc:cat? (xs.take n) ys=some zs):
  Ev P fr σ s (.ap e x y) (.sl s e 0 zs.length) ((s,.vec e (zs.map f))::gl My) []:=by
 obtain⟨hl,rfl⟩:=cat_some hc
 have hlen:(xs.take n).length=n:=by rw[List.length_take];omega
 rw[hlen]at hl
 have hlt:(n+ys.length)*bytesOf P e<=140737488355328:=Nat.le_trans (Nat.mul_le_mul hl hb) (by decide)
 have:=Ev.ap3 (P:=P) (s:=s) hv hr (by simpa using hn) (by rw[<-List.map_take];exact flat_map hf) hy (by simpa using hy0) (nodupB_spec hM) (by simp only[List.length_map];simp only[maxLen];omega) (by simpa using hlt) hs
 rw[<-List.map_take,<-List.map_append,List.length_map]at this
 rw[List.length_append,hlen]
 exact this
theorem Ev.msW {z:List C}{zv:α}(hl:val fr x=.c (.i ik j))(hc:val fr y=.c (.i ik' j))(hz:z=f zv)(hb:bytesOf P e<=2048)(hs:root σ s=.no)(h:mk? zv j=some zs):Ev P fr σ s (.ms e z x y) (.sl s e 0 zs.length) [(s,.vec e (zs.map f))] []:=by
 unfold mk? at h
 split at h
 ·rename_i hj
  obtain rfl:=someO h
  have hlt:(bytesOf P e:Int)*j<=281474976710656:=by
   have h1:(bytesOf P e:Int)*j<=2048*68719476736:=Int.mul_le_mul (by omega) hj.2 hj.1 (by omega)
   omega
  have:=Ev.ms (P:=P) (σ:=σ) (z:=z) hl hc hj.1 (Int.le_refl _) hlt (by omega) hs
  rw[List.map_replicate,<-hz,List.length_replicate]
  exact this
 ·cases h
theorem Ev.slFl {lo:A}(hv:val fr x=.c (.row false e (xs.map f)))(hl:val fr lo=.c (.i ik j))(h:drop? xs j=some zs):Ev P fr σ s (.sl e x (some lo) none) (.c (.row false e (zs.map f))) [] []:=by
 unfold drop? at h
 split at h
 ·rename_i hj
  obtain rfl:=someO h
  have:=Ev.slRo (P:=P) (σ:=σ) (s:=s) hv (.none _) (.some hl hj.1 _) (by simp;omega) (Nat.le_refl _)
  rwa [List.take_of_length_le (by simp),<-List.map_drop]at this
 ·cases h
theorem Ev.slWl {lo:A}(hv:val fr x=.sl r e 0 len)(hxl:len=xs.length)(hl:val fr lo=.c (.i ik j))(h:drop? xs j=some zs):Ev P fr σ s (.sl e x (some lo) none) (.sl r e j.toNat (xs.length-j.toNat)) [] []:=by
 subst hxl
 unfold drop? at h
 split at h
 ·rename_i hj
  have:=Ev.sl (P:=P) (σ:=σ) (s:=s) hv (.none _) (.some hl hj.1 _) (by omega) (Nat.le_refl _)
  rwa [Nat.zero_add]at this
 ·cases h
theorem Ev.slWh {hi:A}(hv:val fr x=.sl r e 0 len)(hxl:len=xs.length)(hh:val fr hi=.c (.i ik j))(h:take? xs j=some zs):Ev P fr σ s (.sl e x none (some hi)) (.sl r e 0 j.toNat) [] []:=by
 subst hxl
 unfold take? at h
 split at h
 ·rename_i hj
  have:=Ev.sl (P:=P) (σ:=σ) (s:=s) hv (.some hh hj.1 _) (.none _) (Nat.zero_le _) (by omega)
  rwa [Nat.zero_add,Nat.sub_zero]at this
 ·cases h
theorem Ev.clrW {z:List C}{zv:α}(hv:val fr x=.sl r e off len)(hr:root σ r=.vec e (xs.map f))(hz:z=f zv)(h:clr? zv xs off len=some zs):Ev P fr σ s (.clr e z x) (.tup []) [(r,.vec e (zs.map f))] []:=by
 unfold clr? at h
 split at h
 ·rename_i hle
  obtain rfl:=someO h
  have:=Ev.clr (P:=P) (s:=s) (z:=z) hv hr (by simpa using hle)
  rw[hz,<-List.map_replicate,<-List.map_take,<-List.map_drop,<-List.map_append,<-List.map_append,<-hz]at this
  exact this
 ·cases h
theorem take_le (h:take? xs j=some zs):j.toNat<=xs.length:=by
 unfold take? at h
 split at h
 ·omega
 ·cases h
end
section
variable {P:Program} {fr:Fr} {σ:St} {s:Nat} {x y:A} {ik ik':IntKind} {j j':Int} {t t' u:ByteArray}
theorem Ev.ixS {b:Int}(hv:val fr x=.c (.s t))(hi:val fr y=.c (.i ik j))(h:sat? t j=some b):Ev P fr σ s (.ix x y) (.c (.i .u8 b)) [] []:=by
 unfold sat? at h
 split at h
 ·rename_i hj
  obtain⟨c,hc,rfl⟩:=Option.map_eq_some_iff.1 h
  exact .ix hv hi hj hc
 ·cases h
theorem Ev.ssB {lo hi:A}(hv:val fr x=.c (.s t))(hl:val fr lo=.c (.i ik j))(hh:val fr hi=.c (.i ik' j'))(h:scut? t j j'=some u):Ev P fr σ s (.ss x (some lo) (some hi)) (.c (.s u)) [] []:=by
 unfold scut? at h
 split at h
 ·rename_i hj
  obtain rfl:=someO h
  exact .ss hv (.some hh (by omega) _) (.some hl hj.1 _) (by omega) (by omega)
 ·cases h
theorem Ev.ssL {lo:A}(hv:val fr x=.c (.s t))(hl:val fr lo=.c (.i ik j))(h:sdrop? t j=some u):Ev P fr σ s (.ss x (some lo) none) (.c (.s u)) [] []:=by
 unfold sdrop? at h
 split at h
 ·rename_i hj
  obtain rfl:=someO h
  exact .ss hv (.none _) (.some hl hj.1 _) (by omega) (Nat.le_refl _)
 ·cases h
theorem Ev.ssH {hi:A}(hv:val fr x=.c (.s t))(hh:val fr hi=.c (.i ik j))(h:stake? t j=some u):Ev P fr σ s (.ss x none (some hi)) (.c (.s u)) [] []:=by
 unfold stake? at h
 split at h
 ·rename_i hj
  obtain rfl:=someO h
  exact .ss hv (.some hh hj.1 _) (.none _) (Nat.zero_le _) (by omega)
 ·cases h
abbrev strOf (ns:List Int):ByteArray:=bytesOfRows ns
theorem Ev.addS (hv:val fr x=.c (.s t))(hu:val fr y=.c (.s t'))(h:scat? t t'=some u):Ev P fr σ s (.bi .add x y) (.c (.s u)) [] []:=by
 unfold scat? at h
 split at h
 ·rename_i hj
  obtain rfl:=someO h
  exact .add hv hu hj
 ·cases h
theorem Ev.apS {e:Nat}{xs zs:List Int}{t:ByteArray}{Mx:List Nat}(hx:Onto fr σ x e (xs.map λn=>[C.i .u8 n]) Mx)(hv:val fr y=.c (.s t))(hM:nodupB Mx=true)(hs:root σ s=.no)(hc:cat? xs (intsOf t)=some zs):
  Ev P fr σ s (.aps e x y) (.sl s e 0 zs.length) ((s,.vec e (zs.map λn=>[C.i .u8 n]))::gl Mx) []:=by
 obtain⟨hl,rfl⟩:=cat_some hc
 have hsz:(intsOf t).length=t.size:=by
  simp only[intsOf,List.length_map,Array.length_toList]
  rfl
 rw[hsz]at hl
 have:=Ev.aps (P:=P) (s:=s) hx hv (nodupB_spec hM) (by simp only[List.length_map];simp only[maxLen];omega) (by simp only[List.length_map];omega) hs
 rw[List.map_append]
 simpa using this
end
theorem EvZ.frz {P:Program}{fr:Fr}{σ:St}{s:Nat}{o:O}{v:V}{ws:St}{R:List Nat}{α:Type}{f g:α->List C}{xs:List α}{e:Nat}(r:Nat)(h:∀x,roCs (f x)=g x)(hr:root σ r=.vec e (xs.map f))(he:EvZ P fr ((r,.ro e (xs.map g))::σ) s o v ws R):EvZ P fr σ s o v (ws++[(r,.ro e (xs.map g))]) (r::R):=.fz hr (roRows_mapf h xs) he
theorem Gh.frz {P:Program}{B:Begin}{N:Nat}{fr:Fr}{σ:St}{α:Type}{f g:α->List C}{xs:List α}{e:Nat}(r:Nat)(h:∀x,roCs (f x)=g x)(hr:root σ r=.vec e (xs.map f)):Gh P B N fr σ fr ((r,.ro e (xs.map g))::σ):=Gh.freeze hr (roRows_mapf h xs)
section
variable {c:Ctx} {fr:Fr} {σ:St} {Q:Post} {x:A} {p q y:K} {b:Bool} {β:Type} {A1 A2:Option β} {r:β}
def meetQ (c:Ctx)(J:Fr->St->Prop)(Q:Post):Post
 |.normal,fr,σ=>∃fr' σ',Gh c.P c.B c.N fr σ fr' σ'/\J fr' σ'
 |e,fr,σ=>Q e fr σ
theorem Run.mono {p:K}{Q1 Q2:Post}(h:Run c p fr σ Q1)(hq:∀e fr σ,Q1 e fr σ->Q2 e fr σ):Run c p fr σ Q2:=by
 intro code hk a w j L S hr
 refine wp_mono (h code hk a w j L S hr) ?_
 rintro e a' w' ⟨fr',σ',j',L',S',h1,h2⟩
 exact⟨fr',σ',j',L',S',hq _ _ _ h1,h2⟩
theorem Run.seqJ (J:Fr->St->Prop)(h1:Run c p fr σ (meetQ c J Q))(h2:∀fr σ,J fr σ->Run c y fr σ Q):Run c (.seq p y) fr σ Q:=by
 refine Run.seq (Run.mono h1 ?_)
 intro e fr σ h
 cases e with
 |normal=>
  obtain⟨fr',σ',hg,hj⟩:=h
  exact Run.gh hg (h2 fr' σ' hj)
 |_=>exact h
end
def inP (rs:List Nat)(x:Nat):Option Nat:=match has rs x with
 |true=>some x
 |false=>none
def keepS (φ:Nat->Option Nat)(σ:St):List Nat->St
 |[]=>[]
 |r::rs=>(r,renRt φ (root σ r))::keepS φ σ rs
theorem root_keepS {φ:Nat->Option Nat}{σ:St}:∀{rs:List Nat}{x:Nat},root (keepS φ σ rs) x=if x∈rs then renRt φ (root σ x)else .no
 |[],x=>by simp[keepS,root]
 |r::rs,x=>by
  rw[keepS,root_put,root_keepS]
  by_cases h:x=r
  ·subst h;simp
  ·simp[h]
def prune (m:Nat)(ts rs:List Nat)(fr:Fr)(σ:St):Option (Fr×St):=match firsts 0 m rs with
 |true=>match nfF (keepF (inP rs) fr ts),nfS (keepS (inP rs) σ rs)with
  |some a,some b=>some (a,b)
  |_,_=>none
 |false=>none
theorem gh_prune {P:Program}{B:Begin}{N:Nat}{fr fr0:Fr}{σ σ0:St}{ts rs:List Nat}(h:prune B.m ts rs fr σ=some (fr0,σ0)):Gh P B N fr σ fr0 σ0:=by
 unfold prune at h
 split at h<;>try simp only[reduceCtorEq]at h
 rename_i hf
 split at h<;>simp only[Option.some.injEq,Prod.mk.injEq,reduceCtorEq]at h
 rename_i x1 x2 hx1 hx2
 obtain⟨rfl,rfl⟩:=h
 obtain rfl:=nfF_some hx1
 obtain rfl:=nfS_some hx2
 have hfs:=firsts_spec hf
 intro j L S a w h
 let j':Nat->Hd:=λx=>if x∈rs then j x else .no
 let L':Nat->List Nat:=λx=>if x∈rs then L x else[]
 have hφ:∀r k,inP rs r=some k->j r≠ .no->j' k=j r:=by
  intro r k hk _
  unfold inP at hk
  split at hk<;>simp only[Option.some.injEq,reduceCtorEq]at hk
  rename_i hh
  subst hk
  simp only[j',has_iff.1 hh,if_true]
 have hL:∀x b,b∈L' x->b∈L x:=by
  intro x b hb
  simp only[L']at hb
  split at hb
  ·exact hb
  ·simp at hb
 refine⟨j',L',S,h.size,h.defers,λt=> ?_,⟨λx=> ?_,λx=> ?_,λx y b h1 h2=>h.mem.disj x y b (hL x b h1) (hL y b h2),λx b h1=>h.mem.owned x b (hL x b h1),h.mem.stab⟩,{ h.since with mine:=λx b h1=>h.since.mine x b (hL x b h1),same:=λr hlt=> ?_ }⟩
 ·rcases get_keepF (φ:=inP rs) (fr:=fr) (t:=t) (ts:=ts)with e|e
  ·rw[e];exact(h.slots t).ren hφ
  ·rw[e];exact VRel.undef
 ·rw[root_keepS]
  by_cases h1:x∈rs
  ·simp only[h1,if_true]
   have:L' x=L x:=by simp only[L',h1,if_true]
   rw[this]
   exact(h.mem.roots x).ren hφ (by simp only[j',h1,if_true])
  ·simp only[h1,if_false,RootRel,j',L',and_self]
 ·simp only[L']
  split
  ·exact h.mem.nodup _
  ·simp
 ·have hmem:r∈rs:=by
   have:=hfs r hlt
   rw[Nat.zero_add]at this
   exact List.mem_of_getElem? this
  simp only[j',hmem,if_true]
  exact h.since.same r hlt
def nz (fr:Fr)(σ:St):Option (Fr×St):=match nfF fr,nfS σ with
 |some a,some b=>some (a,b)
 |_,_=>none
theorem nz_some {fr fr':Fr}{σ σ':St}(h:nz fr σ=some (fr',σ')):fr'=fr/\σ'=σ:=by
 unfold nz at h
 split at h<;>simp only[Option.some.injEq,Prod.mk.injEq,reduceCtorEq]at h
 rename_i x1 x2 hx1 hx2
 obtain⟨rfl,rfl⟩:=h
 exact⟨nfF_some hx1,nfS_some hx2⟩
section
variable {P:Program} {B:Begin} {N m:Nat} {fr fr0 fr1 fr':Fr} {σ σ0 σ1 σ':St}
theorem gh_prn (ts rs:List Nat)(hB:B.m=m)(h:prune m ts rs fr σ=some (fr0,σ0)):Gh P B N fr σ fr0 σ0:=gh_prune (by rw[hB];exact h)
theorem gh_pk (ts rs:List Nat)(hB:B.m=m)(hok:(nodupB rs&&firsts 0 m rs)=true)(h:nz (keepF (idx rs) fr ts) (pickS rs σ)=some (fr1,σ1))(e1:fr1=fr')(e2:σ1=σ'):Gh P B N fr σ fr' σ':=by
 subst e1
 subst e2
 obtain⟨rfl,rfl⟩:=nz_some h
 simp only[Bool.and_eq_true]at hok
 exact Gh.pick (nodupB_spec hok.1) (λk hk=>by have:=firsts_spec hok.2 k (by rw[<-hB];exact hk);rwa [Nat.zero_add]at this)
theorem gh_nil (ts bs:List Nat)(hB:B.m=m)(h1:okSlots m 10000000 ts fr σ=true)(h2:okBoxes m 20000000 bs (nilSlots 10000000 ts fr σ).2=true)(h:nz (nilSlots 10000000 ts fr σ).1 (nilBoxes 20000000 bs (nilSlots 10000000 ts fr σ).2)=some (fr1,σ1)):Gh P B N fr σ fr1 σ1:=by
 obtain⟨rfl,rfl⟩:=nz_some h
 rw[<-hB]at h1 h2
 exact(gh_nilSlots h1).trans (gh_nilBoxes h2)
end
def mvN (rs:List Nat)(x:Nat):Nat:=match has rs x with
 |true=>x+30000000
 |false=>x
def mvP (rs:List Nat)(x:Nat):Option Nat:=some (mvN rs x)
def renS (φ:Nat->Option Nat):St->St
 |[]=>[]
 |(k,x)::σ=>(k,renRt φ x)::renS φ σ
def upS (φ:Nat->Option Nat)(σ0:St):List Nat->St->St
 |[],σ=>σ
 |r::rs,σ=>(r+30000000,renRt φ (root σ0 r))::upS φ σ0 rs σ
def goS:List Nat->St->St
 |[],σ=>σ
 |r::rs,σ=>(r,.gone)::goS rs σ
def mvS (rs:List Nat)(σ:St):St:=goS rs (upS (mvP rs) σ rs (renS (mvP rs) σ))
def okMv (m:Nat)(rs:List Nat)(σ:St):Bool:=Nat.ble m 30000000&&nodupB rs&&rs.all (λr=>Nat.blt r 30000000&&match root σ (r+30000000)with|.no=>true|_=>false)
theorem root_renS {φ:Nat->Option Nat}:∀{σ:St}{x:Nat},root (renS φ σ) x=renRt φ (root σ x)
 |[],x=>rfl
 |(k,y)::σ,x=>by
  rw[renS,root_put,root_put,root_renS]
  split<;>rfl
theorem root_goS:∀{rs:List Nat}{σ:St}{x:Nat},root (goS rs σ) x=if x∈rs then .gone else root σ x
 |[],σ,x=>by simp[goS]
 |r::rs,σ,x=>by
  rw[goS,root_put,root_goS]
  by_cases h:x=r<;>simp[h]
theorem root_upS {φ:Nat->Option Nat}{σ0:St}:∀{rs:List Nat}{σ:St}{x:Nat},root (upS φ σ0 rs σ) x=if 30000000<=x/\x-30000000∈rs then renRt φ (root σ0 (x-30000000))else root σ x
 |[],σ,x=>by simp[upS]
 |r::rs,σ,x=>by
  rw[upS,root_put,root_upS]
  by_cases h:x=r+30000000
  ·subst h
   simp
  ·rw[if_neg h]
   by_cases h2:30000000<=x/\x-30000000∈rs
   ·rw[if_pos h2,if_pos ⟨h2.1,List.mem_cons_of_mem _ h2.2⟩]
   ·rw[if_neg h2,if_neg]
    rintro⟨h3,h4⟩
    rcases List.mem_cons.1 h4 with h5|h5
    ·exact h (by omega)
    ·exact h2 ⟨h3,h5⟩
theorem gh_mv {P:Program}{B:Begin}{N:Nat}{fr:Fr}{σ:St}{rs ts:List Nat}(hok:okMv B.m rs σ=true):Gh P B N fr σ (keepF (mvP rs) fr ts) (mvS rs σ):=by
 simp only[okMv,Bool.and_eq_true,Nat.ble_eq]at hok
 obtain⟨⟨hm,hnd⟩,hall⟩:=hok
 have hr:∀r∈rs,r<30000000/\root σ (r+30000000)=.no:=by
  intro r h
  have:=List.all_eq_true.1 hall r h
  simp only[Bool.and_eq_true,Nat.blt_eq]at this
  refine⟨this.1,?_⟩
  have h2:=this.2
  split at h2
  ·assumption
  ·cases h2
 intro j L S a w h
 let j':Nat->Hd:=λx=>if 30000000<=x/\x-30000000∈rs then j (x-30000000)else j x
 let L':Nat->List Nat:=λx=>if x∈rs then[]else if 30000000<=x/\x-30000000∈rs then L (x-30000000)else L x
 have hno:∀r∈rs,j (r+30000000)=.no/\L (r+30000000)=[]:=by
  intro r hr'
  have:=h.mem.roots (r+30000000)
  rw[(hr r hr').2]at this
  exact this
 have hφ:∀r k,mvP rs r=some k->j r≠ .no->j' k=j r:=by
  intro r k hk hne
  simp only[mvP,Option.some.injEq,mvN]at hk
  split at hk
  ·rename_i hh
   have hh:=has_iff.1 hh
   subst hk
   simp only[j']
   rw[if_pos ⟨Nat.le_add_left _ _,by rw[Nat.add_sub_cancel];exact hh⟩,Nat.add_sub_cancel]
  ·subst hk
   simp only[j']
   rw[if_neg]
   rintro⟨h1,h2⟩
   have:=(hno _ h2).1
   rw[show r-30000000+30000000=r by omega]at this
   exact hne this
 have hL:∀x b,b∈L' x->(x∉rs/\((30000000<=x/\x-30000000∈rs/\b∈L (x-30000000))\/(¬(30000000<=x/\x-30000000∈rs)/\b∈L x))):=by
  intro x b hb
  simp only[L']at hb
  split at hb
  ·simp at hb
  ·rename_i h1
   split at hb
   ·rename_i h2;exact⟨h1,.inl ⟨h2.1,h2.2,hb⟩⟩
   ·rename_i h2;exact⟨h1,.inr ⟨h2,hb⟩⟩
 refine⟨j',L',S,h.size,h.defers,λt=> ?_,⟨λx=> ?_,λx=> ?_,λx y b h1 h2=> ?_,λx b h1=> ?_,h.mem.stab⟩,{ h.since with mine:=λx b h1=> ?_,same:=λr hlt=> ?_ }⟩
 ·rcases get_keepF (φ:=mvP rs) (fr:=fr) (t:=t) (ts:=ts)with e|e
  ·rw[e];exact(h.slots t).ren hφ
  ·rw[e];exact VRel.undef
 ·rw[mvS,root_goS,root_upS,root_renS]
  by_cases h1:x∈rs
  ·simp only[h1,if_true,RootRel,L']
  ·rw[if_neg h1]
   by_cases h2:30000000<=x/\x-30000000∈rs
   ·rw[if_pos h2]
    have:L' x=L (x-30000000):=by simp only[L',h1,if_false,h2,and_self,if_true]
    rw[this]
    exact(h.mem.roots (x-30000000)).ren hφ (by simp only[j',h2,and_self,if_true])
   ·rw[if_neg h2]
    have:L' x=L x:=by simp only[L',h1,if_false];rw[if_neg h2]
    rw[this]
    exact(h.mem.roots x).ren hφ (by simp only[j'];rw[if_neg h2])
 ·simp only[L']
  split
  ·simp
  ·split
   ·exact h.mem.nodup _
   ·exact h.mem.nodup _
 ·obtain⟨a1,a2⟩:=hL x b h1
  obtain⟨b1,b2⟩:=hL y b h2
  rcases a2 with ⟨a3,a4,a5⟩|⟨a3,a5⟩<;>rcases b2 with ⟨b3,b4,b5⟩|⟨b3,b5⟩
  ·have:=h.mem.disj _ _ b a5 b5;omega
  ·have:=h.mem.disj _ _ b a5 b5;exact absurd (this▸a4) b1
  ·have:=h.mem.disj _ _ b a5 b5;exact absurd (this▸b4) a1
  ·exact h.mem.disj _ _ b a5 b5
 ·obtain⟨_,a2⟩:=hL x b h1
  rcases a2 with ⟨_,_,a5⟩|⟨_,a5⟩<;>exact h.mem.owned _ b a5
 ·obtain⟨_,a2⟩:=hL x b h1
  rcases a2 with ⟨_,_,a5⟩|⟨_,a5⟩<;>exact h.since.mine _ b a5
 ·simp only[j']
  rw[if_neg (by omega)]
  exact h.since.same r hlt
theorem gh_mvE {P:Program}{B:Begin}{N m:Nat}{fr fr1:Fr}{σ σ1:St}(ts rs:List Nat)(hB:B.m=m)(hok:okMv m rs σ=true)(h:nz (keepF (mvP rs) fr ts) (mvS rs σ)=some (fr1,σ1)):Gh P B N fr σ fr1 σ1:=by
 obtain⟨rfl,rfl⟩:=nz_some h
 exact gh_mv (by rw[hB];exact hok)
section
variable {α:Type} {f:α->List C} {xs:List α} {u y:α} {P:Program} {B:Begin} {N:Nat} {fr:Fr} {σ:St}
end
mutual
def roV (σ:St)(rs:List Nat)(b:Bool):V->V
 |.c c=>match b,c with
  |true,.row true e []=>.c (.row false e [])
  |_,c=>.c c
 |.sl r e off len=>match has rs r,root σ r with
  |true,.ro e0 rows=>match Nat.decEq e e0 with
   |.isTrue _=>.c (.row false e ((rows.drop off).take len))
   |.isFalse _=>.sl r e off len
  |_,_=>.sl r e off len
 |.agg vs=>.agg (roVs σ rs b vs)
 |.tup vs=>.tup (roVs σ rs b vs)
 |.fn f vs=>.fn f (roVs σ rs b vs)
 |.ptr r o=>.ptr r o
 |.el r e i k=>.el r e i k
 |.rp cs=>.rp cs
 |.undef=>.undef
 |.s3 r e len=>.s3 r e len
 |.mp r=>.mp r
def roVs (σ:St)(rs:List Nat)(b:Bool):List V->List V
 |[]=>[]
 |v::vs=>roV σ rs b v::roVs σ rs b vs
end
section
variable {P:Program} {B:Begin} {N m:Nat} {fr fr1:Fr} {σ σ1:St} {j:Nat->Hd} {L:Nat->List Nat} {S:Nat->Prop} {a:Act} {w:World}
mutual
theorem roV_rel (h:Mem P σ j L S w)(rs:List Nat)(b:Bool):∀{x:V}{v:Value},VRel P j w S x v->VRel P j w S (roV σ rs b x) v
 |.c c,v,hv=>by
  simp only[roV]
  split
  ·rename_i e
   simp only[VRel]at hv⊢
   have:=nil_own hv
   subst this
   exact .ro e [] none 0 0 [] (by simp) rfl (Nat.le_refl _) (λ_=>rfl) (by simp) (λh=>absurd h (by simp)) (by simpa using CsRel.nil)
  ·exact hv
 |.sl r e off len,v,hv=>by
  simp only[roV]
  split
  ·rename_i e0 rows _ hr
   split
   ·rename_i he _
    subst he
    simp only[VRel]
    exact sl_ro_root h hr hv
   ·exact hv
  ·exact hv
 |.agg vs,v,hv=>by
  simp only[roV,VRel]at hv⊢
  obtain⟨us,e,hs⟩:=hv
  exact⟨us,e,roVs_rel h rs b hs⟩
 |.tup vs,v,hv=>by
  simp only[roV,VRel]at hv⊢
  obtain⟨us,e,hs⟩:=hv
  exact⟨us,e,roVs_rel h rs b hs⟩
 |.fn f vs,v,hv=>by
  simp only[roV,VRel]at hv⊢
  obtain⟨us,e,hs⟩:=hv
  exact⟨us,e,roVs_rel h rs b hs⟩
 |.ptr r o,v,hv=>by simpa only[roV]using hv
 |.el r e i k,v,hv=>by simpa only[roV]using hv
 |.rp cs,v,hv=>by simpa only[roV]using hv
 |.undef,v,hv=>by simpa only[roV]using hv
 |.s3 r e len,v,hv=>by simpa only[roV]using hv
 |.mp r,v,hv=>by simpa only[roV]using hv
theorem roVs_rel (h:Mem P σ j L S w)(rs:List Nat)(b:Bool):∀{xs:List V}{us:List Value},VsRel P j w S xs us->VsRel P j w S (roVs σ rs b xs) us
 |[],us,hv=>by simpa only[roVs]using hv
 |x::xs,us,hv=>by
  simp only[roVs,VsRel]at hv⊢
  obtain⟨u,us',e,h1,h2⟩:=hv
  exact⟨u,us',e,roV_rel h rs b h1,roVs_rel h rs b h2⟩
end
def roFr (σ:St)(rs ns:List Nat)(fr:Fr):List Nat->Fr
 |[]=>[]
 |t::ts=>(t,roV σ rs (has ns t) (get fr t))::roFr σ rs ns fr ts
theorem get_roFr {rs ns:List Nat}{t:Nat}:∀{ts:List Nat},get (roFr σ rs ns fr ts) t=roV σ rs (has ns t) (get fr t)\/get (roFr σ rs ns fr ts) t=.undef
 |[]=>.inr rfl
 |q::ts=>by
  rw[roFr,get_put]
  split
  ·rename_i e
   subst e
   exact .inl rfl
  ·exact get_roFr
def roBx (rs ns:List Nat):List Nat->St->St
 |[],σ=>σ
 |r::bs,σ=>match root σ r with
  |.box cells=>roBx rs ns bs ((r,.box (roVs σ rs (has ns (r+1000000)) cells))::σ)
  |_=>roBx rs ns bs σ
theorem gh_roFr {rs ns ts:List Nat}:Gh P B N fr σ (roFr σ rs ns fr ts) σ:=λj L S a w h=>⟨j,L,S,h.size,h.defers,λt=>by
  rcases get_roFr (σ:=σ) (fr:=fr) (rs:=rs) (ns:=ns) (t:=t) (ts:=ts)with e|e
  ·rw[e];exact roV_rel h.mem rs _ (h.slots t)
  ·rw[e];exact VRel.undef,h.mem,h.since⟩
theorem gh_roB {r:Nat}{rs:List Nat}{b:Bool}{cells:List V}(hr:root σ r=.box cells):Gh P B N fr σ fr ((r,.box (roVs σ rs b cells))::σ):=by
 intro j L S a w h
 have hroots:∀k,RootRel P j w S k (root ((r,Rt.box (roVs σ rs b cells))::σ) k) (L k):=by
  intro k
  rw[root_put]
  split
  ·rename_i e
   subst e
   obtain⟨g,cur,e,hg,hh,hv,h4,h5⟩:=h.mem.boxAt hr
   exact⟨g,cur,e,hg,hh,roVs_rel h.mem rs b hv,h4,h5⟩
  ·exact h.mem.roots k
 exact⟨j,L,S,h.size,h.defers,h.slots,{ h.mem with roots:=hroots },h.since⟩
theorem gh_roBx {rs ns:List Nat}:∀{bs:List Nat}{σ:St},Gh P B N fr σ fr (roBx rs ns bs σ)
 |[],_=>Gh.refl
 |r::bs,σ=>by
  rw[roBx]
  split
  ·rename_i cells hr
   exact(gh_roB hr).trans gh_roBx
  ·exact gh_roBx
theorem gh_ro (ts bs rs ns:List Nat)(h:nz (roFr σ rs ns fr ts) (roBx rs ns bs σ)=some (fr1,σ1)):Gh P B N fr σ fr1 σ1:=by
 obtain⟨rfl,rfl⟩:=nz_some h
 exact gh_roFr.trans gh_roBx
theorem takeMap {α β:Type}{f:α->β}{xs:List α}:(xs.map f).take xs.length=xs.map f:=List.take_of_length_le (by simp)
end
theorem e.{u} {α:Sort u}{a:α}:a=a:=rfl
end Go.Proofs.YtmcbbifeekhmgaaGreatDoor.Pe
