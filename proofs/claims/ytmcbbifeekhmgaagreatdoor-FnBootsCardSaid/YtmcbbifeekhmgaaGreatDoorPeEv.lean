import Derived.Test.YtmcbbifeekhmgaaGreatDoorPeCall2
import Derived.Test.YtmcbbifeekhmgaaGreatDoorPeMem9
import Derived.Test.YtmcbbifeekhmgaaGreatDoorPeLink2
import Derived.Test.YtmcbbifeekhmgaaGreatDoorPeMap
namespace Go.Proofs.YtmcbbifeekhmgaaGreatDoor.Pe
open Go Go.RowKit
def gl (M:List Nat):St:=M.map λr=>(r,Rt.gone)
mutual
def refs:V->List Nat
 |.sl r _ _ _=>[r]
 |.ptr r _=>[r]
 |.el r _ _ _=>[r]
 |.s3 r _ _=>[r]
 |.mp r=>[r]
 |.agg vs=>refsL vs
 |.tup vs=>refsL vs
 |.fn _ vs=>refsL vs
 |_=>[]
def refsL:List V->List Nat
 |[]=>[]
 |v::vs=>refs v++refsL vs
end
inductive Ev (P:Program) (fr:Fr) (σ:St) (s:Nat):O->V->St->List Nat->Prop
 |pure {o:O} {v:V} (h:pure1 fr σ o=some v):Ev P fr σ s o v [] []
 |pkT {c x y:A} {b:Bool} {v:V} (h:val fr c=.c (.b b)) (hb:b=true) (hv:nf (val fr x)=some v):Ev P fr σ s (.pk c x y) v [] []
 |pkF {c x y:A} {b:Bool} {v:V} (h:val fr c=.c (.b b)) (hb:b=false) (hv:nf (val fr y)=some v):Ev P fr σ s (.pk c x y) v [] []
 |al {z:List C} {vs:List V} (hz:nfL (z.map .c)=some vs) (hs:root σ s=.no):Ev P fr σ s (.al z) (.ptr s 0) [(s,.box vs)] []
 |bx {x:A} {vs:List V} (h:cellsV (val fr x)=some vs) (hs:root σ s=.no):Ev P fr σ s (.bx x) (.ptr s 0) [(s,.box vs)] []
 |bd {z:List C} {qs:List (Nat×Nat×A)} {vs us:List V} (h:fillV fr (z.map .c) qs=some vs) (hu:nfL vs=some us):Ev P fr σ s (.bd z qs) (.agg us) [] []
 |bs {e n:Nat} {z:List C} {qs:List (Nat×Nat×A)} {vs:List V} {cs:List C} {M:List Nat} (h:fillV fr ((repl z n).map .c) qs=some vs) (hc:ToCs σ vs cs M) (hM:M.Nodup) (hs:root σ s=.no) (hsM:s∉M):Ev P fr σ s (.bs e n z qs) (.sl s e 0 n) ((s,.vec e (chunks z.length n cs))::gl M) (refsL vs)
 |sto {n k r:Nat} {x y:A} {cells vs us:List V} (hp:val fr x=.ptr r k) (hr:root σ r=.box cells) (hv:cellsV (val fr y)=some vs) (hl:vs.length=n) (hf:Nat.ble (k+n) cells.length=true) (hu:nfL (setAt cells k vs)=some us):Ev P fr σ s (.sto n x y) .undef [(r,.box us)] []
 |stoEl {n r e i k:Nat} {x y:A} {rows:List (List C)} {cs ds:List C} {vs:List V} {M:List Nat} (hp:val fr x=.el r e i k) (hr:root σ r=.vec e rows) (hi:rows[i]? =some cs) (hv:cellsV (val fr y)=some vs) (hd:ToCs σ vs ds M) (hM:M.Nodup) (hrM:r∉M) (hl:vs.length=n) (hf:k+n<=cs.length):
   Ev P fr σ s (.sto n x y) .undef ((r,.vec e (rows.set i (setAt cs k ds)))::gl M) (refsL vs)
 |ldEl {n r e i k:Nat} {ag:Bool} {x:A} {rows:List (List C)} {cs l:List C} {vs:List V} {v:V} (hp:val fr x=.el r e i k) (hr:root σ r=.vec e rows) (hi:rows[i]? =some cs) (hl:takeN n (cs.drop k)=some l) (hvs:reads l=some vs) (hv:mkV ag vs=some v):Ev P fr σ s (.ld n ag x) v [] []
 |ldL {n r e i k:Nat} {ag:Bool} {x:A} {rows:List (List C)} {cs l:List C} {ls:List (Nat×Nat)} {vs:List V} {v:V} (hp:val fr x=.el r e i k) (hr:root σ r=.lnk e rows i cs ls) (hl:takeN n (cs.drop k)=some l) (hvs:readsL σ ls k l=some vs) (hv:mkV ag vs=some v):Ev P fr σ s (.ld n ag x) v [] (ls.map (·.2))
 |ia {e r off len:Nat} {x y:A} {k:IntKind} {i:Int} (hv:val fr x=.sl r e off len) (hi:val fr y=.c (.i k i)) (h0:0<=i) (h1:i<len):Ev P fr σ s (.ia e x y) (.el r e (off+i.toNat) 0) [] []
 |iaRo {e:Nat} {x y:A} {k:IntKind} {i:Int} {rows:List (List C)} {cs:List C} (hv:val fr x=.c (.row false e rows)) (hi:val fr y=.c (.i k i)) (h0:0<=i) (h1:rows[i.toNat]? =some cs):Ev P fr σ s (.ia e x y) (.rp cs) [] []
 |iaS {e r off len:Nat} {x y:A} {k:IntKind} {i:Int} {rows:List (List C)} {cs:List C} (hv:val fr x=.sl r e off len) (hr:root σ r=.ro e rows) (hi:val fr y=.c (.i k i)) (h0:0<=i) (h1:((rows.drop off).take len)[i.toNat]? =some cs):Ev P fr σ s (.ia e x y) (.rp cs) [] []
 |ix {x y:A} {t:ByteArray} {k:IntKind} {i:Int} {b:UInt8} (hv:val fr x=.c (.s t)) (hi:val fr y=.c (.i k i)) (h0:0<=i) (hb:t[i.toNat]? =some b):Ev P fr σ s (.ix x y) (.c (.i .u8 b.toNat)) [] []
 |sl {e r off len l q:Nat} {x:A} {lo hi:Option A} (hv:val fr x=.sl r e off len) (hq:Bnd fr hi len q) (hl:Bnd fr lo 0 l) (h1:l<=q) (h2:q<=len):Ev P fr σ s (.sl e x lo hi) (.sl r e (off+l) (q-l)) [] []
 |slX {e r l q len:Nat} {x:A} {lo hi:Option A} {rows:List (List C)} (hv:val fr x=.sl r e 0 len) (hr:root σ r=.vec e rows) (hq:Bnd fr hi len q) (hl:Bnd fr lo 0 l) (h1:l<=q) (h2:q<=rows.length):Ev P fr σ s (.sl e x lo hi) (.sl r e l (q-l)) [] []
 |clr {e r off len:Nat} {z:List C} {x:A} {rows:List (List C)} (hv:val fr x=.sl r e off len) (hr:root σ r=.vec e rows) (hle:off+len<=rows.length):Ev P fr σ s (.clr e z x) (.tup []) [(r,.vec e (rows.take off++(List.replicate len z++rows.drop (off+len))))] []
 |slRo {e l q:Nat} {x:A} {lo hi:Option A} {rows:List (List C)} (hv:val fr x=.c (.row false e rows)) (hq:Bnd fr hi rows.length q) (hl:Bnd fr lo 0 l) (h1:l<=q) (h2:q<=rows.length):Ev P fr σ s (.sl e x lo hi) (.c (.row false e ((rows.drop l).take (q-l)))) [] []
 |ss {l q:Nat} {x:A} {lo hi:Option A} {t:ByteArray} (hv:val fr x=.c (.s t)) (hq:Bnd fr hi t.size q) (hl:Bnd fr lo 0 l) (h1:l<=q) (h2:q<=t.size):Ev P fr σ s (.ss x lo hi) (.c (.s (t.extract l q))) [] []
 |add {x y:A} {t u:ByteArray} (hv:val fr x=.c (.s t)) (hu:val fr y=.c (.s u)) (hb:t.size+u.size<=9223372036854775807):Ev P fr σ s (.bi .add x y) (.c (.s (t++u))) [] []
 |bin {op:BinOp} {x y:A} {k:IntKind} {m n r:Int} (hv:val fr x=.c (.i k m)) (hv':val fr y=.c (.i k n)) (hr:intD op k m n=some r):Ev P fr σ s (.bi op x y) (.c (.i k r)) [] []
 |sh {op:BinOp} {x y:A} {k k':IntKind} {m n r:Int} (hv:val fr x=.c (.i k m)) (hv':val fr y=.c (.i k' n)) (hr:intSh op k m n=some r):Ev P fr σ s (.bi op x y) (.c (.i k r)) [] []
 |sbC {x:A} {e:Nat} {ns:List Int} (ha:Adds fr σ x e (ns.map λn=>[C.i .u8 n]) []):Ev P fr σ s (.sb x) (.c (.s (bytesOfRows ns))) [] []
 |bsR {e:Nat} {x:A} {t:ByteArray} (hv:val fr x=.c (.s t)):Ev P fr σ s (.bs_ e x) (.c (.row false e ((intsOf t).map λn=>[C.i .u8 n]))) [] []
 |ms {e:Nat} {z:List C} {x y:A} {kl kc:IntKind} {l c:Int} (hl:val fr x=.c (.i kl l)) (hc:val fr y=.c (.i kc c)) (h0:0<=l) (hlc:l<=c) (hb:(bytesOf P e:Int)*c<=281474976710656) (h63:c<=9223372036854775807) (hs:root σ s=.no):Ev P fr σ s (.ms e z x y) (.sl s e 0 l.toNat) [(s,.vec e (List.replicate l.toNat z))] []
 |ap {e:Nat} {x y:A} {rx ry:List (List C)} {Mx My:List Nat} (hx:Onto fr σ x e rx Mx) (hy:Adds fr σ y e ry My) (hM:(Mx++My).Nodup) (h63:rx.length+ry.length<=maxLen) (hb:(rx.length+ry.length)*bytesOf P e<=140737488355328) (hs:root σ s=.no):Ev P fr σ s (.ap e x y) (.sl s e 0 (rx++ry).length) ((s,.vec e (rx++ry))::gl (Mx++My)) []
 |s3 {e r len:Nat} {x h m:A} {k k':IntKind} {n:Int} (hv:val fr x=.sl r e 0 len) (hh:val fr h=.c (.i k n)) (hm:val fr m=.c (.i k' n)) (h0:0<=n) (h1:n<=len):Ev P fr σ s (.s3 e x h m) (.s3 r e n.toNat) [] []
 |s3N {e e':Nat} {x h m:A} {k k':IntKind} (hv:val fr x=.c (.row true e' [])) (hh:val fr h=.c (.i k 0)) (hm:val fr m=.c (.i k' 0)):Ev P fr σ s (.s3 e x h m) (.c (.row true e' [])) [] []
 |ap3 {e r len:Nat} {x y:A} {rows ry:List (List C)} {My:List Nat} (hv:val fr x=.s3 r e len) (hr:root σ r=.vec e rows) (hl:len<=rows.length) (hf:∀x∈rows.take len,∀c∈x,flatC c=true) (hy:Adds fr σ y e ry My) (hy0:0<ry.length) (hM:My.Nodup) (h63:len+ry.length<=maxLen) (hb:(len+ry.length)*bytesOf P e<=140737488355328) (hs:root σ s=.no):Ev P fr σ s (.ap e x y) (.sl s e 0 (len+ry.length)) ((s,.vec e (rows.take len++ry))::gl My) []
 |mk (hs:root σ s=.no):Ev P fr σ s .mk (.mp s) [(s,.mp [])] []
 |mu {m x y:A} {r:Nat} {es:List (ByteArray×Int)} {k:ByteArray} {v:Int} (hm:val fr m=.mp r) (hr:root σ r=.mp es) (hk:val fr x=.c (.s k)) (hv:val fr y=.c (.i .i64 v)) (hn:mhas es k=false):Ev P fr σ s (.mu m x y) .undef [(r,.mp (es++[(k,v)]))] []
 |lk {m x:A} {r:Nat} {es:List (ByteArray×Int)} {k:ByteArray} (hm:val fr m=.mp r) (hr:root σ r=.mp es) (hk:val fr x=.c (.s k)):Ev P fr σ s (.lk m x) (.c (.i .i64 (mget es k))) [] []
 |slN {e e':Nat} {x:A} {lo hi:Option A} (hv:val fr x=.c (.row true e' [])) (hq:Bnd fr hi 0 0) (hl:Bnd fr lo 0 0):Ev P fr σ s (.sl e x lo hi) (.c (.row true e' [])) [] []
 |apz {e e':Nat} {z:List C} {x y:A} {k:IntKind} {n:Int} (hx:val fr x=.c (.row true e' [])) (hy:val fr y=.c (.i k n)) (h0:1<=n) (h63:n<=maxLen) (hb:n.toNat*bytesOf P e<=140737488355328) (hs:root σ s=.no):Ev P fr σ s (.apz e z x y) (.sl s e 0 n.toNat) [(s,.vec e (List.replicate n.toNat z))] []
 |aps {e:Nat} {x y:A} {rx:List (List C)} {Mx:List Nat} {t:ByteArray} (hx:Onto fr σ x e rx Mx) (hv:val fr y=.c (.s t)) (hM:Mx.Nodup) (h63:rx.length+t.size<=maxLen) (hb:rx.length+t.size<=140737488355328) (hs:root σ s=.no):Ev P fr σ s (.aps e x y) (.sl s e 0 (rx++(intsOf t).map λn=>[C.i .u8 n]).length) ((s,.vec e (rx++(intsOf t).map λn=>[C.i .u8 n]))::gl Mx) []
 |cl {f n:Nat} {xs:List A} {vs:List V} {ρ β:List Nat} {σc σo:St} {vo:V} (hsem:Says P f vs ρ.length σc vo σo) (hσ:pickS ρ σ=σc) (hρ:ρ.Nodup) (hβ:∀r∈β,r∉ρ) (hp:Passes σ ρ β (xs.map (val fr)) vs) (hs:∀k,k<n->root σ (s+k)=.no) (hI:(ρ++upto s n).Nodup) (hb:below (ρ.length+n) σo=true) (hcase:β=[]\/(ownV vo=true/\∀k,ownRt (root σo k))):
   Ev P fr σ s (.cl f xs) (renV (back ρ s) vo) (backSt (back ρ s) σo (ρ++upto s n) 0) ρ
 |cx {f n:Nat} {x:A} {xs:List A} {caps vs:List V} {ρ β:List Nat} {σc σo:St} {vo:V} (hf:val fr x=.fn f caps) (hsem:Says P f vs ρ.length σc vo σo) (hσ:pickS ρ σ=σc) (hρ:ρ.Nodup) (hβ:∀r∈β,r∉ρ) (hp:Passes σ ρ β (xs.map (val fr)++caps) vs) (hs:∀k,k<n->root σ (s+k)=.no) (hI:(ρ++upto s n).Nodup) (hb:below (ρ.length+n) σo=true) (hcase:β=[]\/(ownV vo=true/\∀k,ownRt (root σo k))):
   Ev P fr σ s (.cx x xs) (renV (back ρ s) vo) (backSt (back ρ s) σo (ρ++upto s n) 0) ρ
section
variable {P:Program} {B:Begin} {N:Nat} {fr:Fr} {σ:St} {j:Nat->Hd} {L:Nat->List Nat} {S:Nat->Prop} {a:Act} {w:World} {o:Oper}
theorem Does.call {σ':St}{v:V}{f:Nat}{args:Array Value}(hr:(execOp a.eval o).run P w=.ok (.enter f args) w)(hc:Calls P f args w λe w'=>∃u j' L' S',e=.returned u/\Rel P B N fr σ' j' L' S' a w'/\VRel P j' w' S' v u):Does P B N fr σ' a w o v:=by
 intro K Q hK
 unfold Oper.wp
 rw[hr,Oper.upon_enter]
 refine hc.mono ?_
 grind
def From (P:Program)(o:Oper):O->Prop
 |.al z=>∃t,o.op=.alloc t/\zOf P t=some z
 |.bx x'=>∃t x,o.op=.box t x/\aOf P t x=some x'
 |.bd z qs=>∃t ps fs pl,o.op=.build t ps/\zOf P t=some z/\P.underlying t=some (.struct fs)/\placesOf P fs.toList=some pl/\partsOf P (λi=>match pl[i]?,fs[i]? with|some (off,n),some f=>some (off,n,f.type)|_,_=>none) ps.toList=some qs
 |.bs e n z qs=>∃t ps,o.op=.buildSlice t n ps/\elemOf P t=some e/\zOf P e=some z/\n*z.length<=4096/\z.length≠0/\partsOf P (λi=>some (i*z.length,z.length,e)) ps.toList=some qs
 |.sto n x' y'=>∃t x y,o.op=.store t x y/\sizeAt P t=some n/\aOf P 0 x=some x'/\aOf P t y=some y'
 |.ld n ag x'=>∃t x,o.op=.load t x/\shapeOf P t=some (n,ag)/\aOf P 0 x=some x'
 |.ia e x' y'=>∃t n x y,o.op=.indexAddr t x y/\elemOf P t=some e/\sizeAt P e=some n/\aOf P t x=some x'/\aOf P 0 y=some y'
 |.ix x' y'=>∃t x y,o.op=.index t x y/\P.underlying t=some .string/\aOf P t x=some x'/\aOf P 0 y=some y'
 |.sb x'=>∃t u x e,o.op=.convert t u x/\P.underlying t=some (.slice e)/\P.underlying e=some (.int .u8)/\P.underlying u=some .string/\aOf P t x=some x'
 |.bs_ e x'=>∃t u x,o.op=.convert t u x/\P.underlying t=some .string/\P.underlying u=some (.slice e)/\P.underlying e=some (.int .u8)/\sizeAt P e=some 1/\aOf P t x=some x'
 |.clr e z x'=>∃c t x,o.op=.call c/\c.callee=.builtin .clear/\c.args=#[x]/\c.argTypes=#[t]/\elemOf P t=some e/\zOf P e=some z/\z.length≠0/\aOf P t x=some x'
 |.sl e x' lo' hi'=>∃t x lo hi n,o.op=.slice t x lo hi none/\P.underlying t=some (.slice e)/\sizeAt P e=some n/\aOf P t x=some x'/\optOf P lo=some lo'/\optOf P hi=some hi'
 |.s3 e x' h' m'=>∃t x q m n,o.op=.slice t x none (some q) (some m)/\P.underlying t=some (.slice e)/\sizeAt P e=some n/\aOf P t x=some x'/\aOf P 0 q=some h'/\aOf P 0 m=some m'
 |.ss x' lo' hi'=>∃t x lo hi,o.op=.slice t x lo hi none/\P.underlying t=some .string/\aOf P t x=some x'/\optOf P lo=some lo'/\optOf P hi=some hi'
 |.bi op x' y'=>∃t x y u,o.op=.binOp op t x y u/\aOf P t x=some x'/\aOf P u y=some y'
 |.ms e z x' y'=>∃t x y,o.op=.makeSlice t x y/\elemOf P t=some e/\zOf P e=some z/\aOf P 0 x=some x'/\aOf P 0 y=some y'
 |.ap e x' y'=>∃c t x y z,o.op=.call c/\c.callee=.builtin .append/\c.args=#[x,y]/\c.argTypes=#[t,t]/\elemOf P t=some e/\zOf P e=some z/\z.length≠0/\aOf P t x=some x'/\aOf P t y=some y'
 |.aps e x' y'=>∃c t u x y i,o.op=.call c/\c.callee=.builtin .append/\c.args=#[x,y]/\c.argTypes=#[t,u]/\elemOf P t=some e/\P.underlying u=some .string/\P.info? e=some i/\i.zero=some (.int .u8 0)/\i.size=1/\i.bytes=1/\aOf P t x=some x'/\aOf P u y=some y'
 |.apz e z x' y'=>∃c t u x y k,o.op=.call c/\c.callee=.builtin .append/\c.args=#[x,y]/\c.argTypes=#[t,u]/\elemOf P t=some e/\P.underlying u=some (.int k)/\zOf P e=some z/\z.length≠0/\aOf P t x=some x'/\aOf P u y=some y'
 |.mk=>∃t k e,o.op=.makeMap t none/\mapOk P t=some (k,e)
 |.mu m' x' y'=>∃t k e m x y,(o.op=.mapUpdate t m x y\/o.op=.insert t m x y)/\mapOk P t=some (k,e)/\aOf P 0 m=some m'/\aOf P k x=some x'/\aOf P e y=some y'
 |.lk m' x'=>∃t k e m x,o.op=.lookup t m x false/\mapOk P t=some (k,e)/\aOf P 0 m=some m'/\aOf P k x=some x'
 |.cl f xs=>∃c,o.op=.call c/\c.callee=.value (.func f)/\asOf P c.args.toList c.argTypes.toList=some xs
 |.cx x' xs=>∃c t,o.op=.call c/\c.callee=.value (.tmp t)/\x'=.t t/\asOf P c.args.toList c.argTypes.toList=some xs
 |_=>True
theorem from_oOf {op:O}(ho:oOf P o=some op):From P o op:=by
 rcases oOf_some ho with ho|rfl
 rotate_left
 ·trivial
 unfold oOf0 at ho
 cases hop:o.op<;>simp only[hop]at ho
 case alloc t=>
  simp only[Option.map_eq_some_iff]at ho
  obtain⟨z,hz,rfl⟩:=ho
  exact⟨t,hop,hz⟩
 case box t y=>
  simp only[Option.map_eq_some_iff]at ho
  obtain⟨y',hy,rfl⟩:=ho
  exact⟨t,y,hop,hy⟩
 case build t ps=>
  split at ho<;>try simp only[reduceCtorEq]at ho
  rename_i z fs hz hu
  split at ho<;>simp only[reduceCtorEq,Option.map_eq_some_iff]at ho
  rename_i pl hpl
  obtain⟨qs,hq,rfl⟩:=ho
  exact⟨t,ps,fs,pl,hop,hz,hu,hpl,hq⟩
 case buildSlice t n ps=>
  split at ho<;>try simp only[reduceCtorEq]at ho
  rename_i e he
  split at ho<;>try simp only[reduceCtorEq]at ho
  rename_i z hz
  split at ho<;>simp only[reduceCtorEq,Option.map_eq_some_iff]at ho
  rename_i hn
  obtain⟨qs,hq,rfl⟩:=ho
  simp only[Bool.and_eq_true,decide_eq_true_eq]at hn
  exact⟨t,ps,hop,he,hz,hn.1,hn.2,hq⟩
 case load t y=>
  split at ho<;>simp only[Option.some.injEq,reduceCtorEq]at ho
  rename_i n ag y' hs hy
  subst ho
  exact⟨t,y,hop,hs,hy⟩
 case store t y z=>
  split at ho<;>simp only[Option.some.injEq,reduceCtorEq]at ho
  rename_i n y' z' hn hy hz
  subst ho
  exact⟨t,y,z,hop,hn,hy,hz⟩
 case binOp op' t y z u=>
  split at ho<;>try simp only[reduceCtorEq]at ho
  rename_i y' z' hy hz
  split at ho
  ·split at ho<;>simp only[Option.some.injEq,reduceCtorEq]at ho<;>subst ho<;>trivial
  ·split at ho<;>simp only[Option.some.injEq,reduceCtorEq]at ho<;>subst ho<;>trivial
  ·simp only[Option.some.injEq]at ho
   subst ho
   exact⟨t,y,z,u,hop,hy,hz⟩
 case makeSlice t l c=>
  split at ho<;>simp only[reduceCtorEq,Option.map_eq_some_iff]at ho
  rename_i e l' c' he hl hc
  obtain⟨z,hz,rfl⟩:=ho
  exact⟨t,l,c,hop,he,hz,hl,hc⟩
 case slice t y lo hi mx=>
  split at ho
  ·split at ho<;>simp only[reduceCtorEq,Option.map_eq_some_iff,Option.some.injEq]at ho
   ·rename_i y' lo' hi' hu hy hlo hhi
    subst ho
    exact⟨t,y,lo,hi,hop,hu,hy,hlo,hhi⟩
   ·rename_i e y' lo' hi' hu hy hlo hhi
    obtain⟨n,hn,rfl⟩:=ho
    exact⟨t,y,lo,hi,n,hop,hu,hn,hy,hlo,hhi⟩
  ·rename_i m
   split at ho<;>try simp only[reduceCtorEq]at ho
   rename_i q e y' hu hy
   split at ho<;>simp only[reduceCtorEq,Option.map_eq_some_iff]at ho
   rename_i q' m' hq hm
   obtain⟨n,hn,rfl⟩:=ho
   exact⟨t,y,q,m,n,hop,hu,hn,hy,hq,hm⟩
 case indexAddr t y z=>
  split at ho<;>simp only[reduceCtorEq,Option.map_eq_some_iff]at ho
  rename_i e y' z' he hy hz
  obtain⟨n,hn,rfl⟩:=ho
  exact⟨t,n,y,z,hop,he,hn,hy,hz⟩
 case index t y z=>
  split at ho<;>simp only[Option.some.injEq,reduceCtorEq]at ho
  rename_i y' z' hu hy hz
  subst ho
  exact⟨t,y,z,hop,hu,hy,hz⟩
 case call c=>
  split at ho
  ·split at ho<;>try simp only[reduceCtorEq]at ho
   split at ho<;>simp only[Option.map_eq_some_iff,reduceCtorEq]at ho<;>obtain⟨_,_,rfl⟩:=ho<;>trivial
  ·rename_i hcal
   split at ho<;>try simp only[reduceCtorEq]at ho
   rename_i y z t u hca hct
   have hargs:c.args=#[y,z]:=by cases hc:c.args;simp_all
   have hts:c.argTypes=#[t,u]:=by cases hc:c.argTypes;simp_all
   split at ho
   ·rename_i e y' z' htu he hy hz
    split at ho<;>simp only[Option.some.injEq,reduceCtorEq]at ho
    rename_i z0 zs hz0
    subst ho
    rw[beq_iff_eq]at htu
    subst htu
    exact⟨c,t,y,z,_,hop,hcal,hargs,hts,he,hz0,by simp,hy,hz⟩
   ·split at ho<;>try simp only[reduceCtorEq]at ho
    ·rename_i e y' z' he hy hz hus
     split at ho<;>try simp only[reduceCtorEq]at ho
     rename_i i hi
     split at ho<;>try simp only[reduceCtorEq]at ho
     rename_i n hiz
     split at ho<;>simp only[Option.some.injEq,reduceCtorEq]at ho
     rename_i hc
     subst ho
     obtain⟨rfl,h1,h2⟩:=hc
     exact⟨c,t,u,y,z,i,hop,hcal,hargs,hts,he,hus,hi,hiz,h1,h2,hy,hz⟩
    ·rename_i e y' z' k he hy hz hus
     split at ho<;>simp only[Option.some.injEq,reduceCtorEq]at ho
     rename_i z0 zs hz0
     subst ho
     exact⟨c,t,u,y,z,k,hop,hcal,hargs,hts,he,hus,hz0,by simp,hy,hz⟩
  ·split at ho<;>try simp only[reduceCtorEq]at ho
   split at ho<;>simp only[Option.map_eq_some_iff,reduceCtorEq]at ho
   obtain⟨_,_,rfl⟩:=ho
   trivial
  ·split at ho<;>try simp only[reduceCtorEq]at ho
   split at ho<;>simp only[Option.some.injEq,reduceCtorEq]at ho
   subst ho
   trivial
  ·split at ho<;>try simp only[reduceCtorEq]at ho
   split at ho<;>simp only[Option.some.injEq,reduceCtorEq]at ho
   subst ho
   trivial
  ·rename_i hcal
   split at ho<;>try simp only[reduceCtorEq]at ho
   rename_i y t hca hct
   have hargs:c.args=#[y]:=by cases hc:c.args;simp_all
   have hts:c.argTypes=#[t]:=by cases hc:c.argTypes;simp_all
   split at ho<;>try simp only[reduceCtorEq]at ho
   rename_i e y' he hy
   split at ho<;>try simp only[reduceCtorEq]at ho
   rename_i z0 zs hz0
   simp only[Option.some.injEq]at ho
   subst ho
   exact⟨c,t,y,hop,hcal,hargs,hts,he,hz0,by simp,hy⟩
  ·rename_i f hcal
   simp only[Option.map_eq_some_iff]at ho
   obtain⟨xs,hxs,rfl⟩:=ho
   exact⟨c,hop,hcal,hxs⟩
  ·rename_i t hcal
   simp only[Option.map_eq_some_iff]at ho
   obtain⟨xs,hxs,rfl⟩:=ho
   exact⟨c,t,hop,hcal,rfl,hxs⟩
  ·simp at ho
 case pick c y z=>
  split at ho<;>simp only[Option.some.injEq,reduceCtorEq]at ho
  subst ho
  trivial
 case convert s d y=>
  split at ho
  ·simp only[Option.some.injEq]at ho;subst ho;trivial
  ·rename_i e y' hs hd hy
   split at ho<;>simp only[Option.some.injEq,reduceCtorEq]at ho
   rename_i he
   subst ho
   exact⟨s,d,y,e,hop,hs,he,hd,hy⟩
  ·rename_i e y' hs hd hy
   split at ho<;>try simp only[reduceCtorEq]at ho
   rename_i he
   split at ho<;>simp only[Option.some.injEq,reduceCtorEq]at ho
   rename_i h1
   subst ho
   exact⟨s,d,y,hop,hs,hd,he,h1,hy⟩
  ·simp at ho
 case fieldAddr s y f=>
  split at ho<;>try simp only[reduceCtorEq]at ho
  split at ho<;>try simp only[reduceCtorEq]at ho
  split at ho<;>simp only[Option.some.injEq,reduceCtorEq]at ho
  subst ho
  trivial
 case field s y f=>
  split at ho<;>simp only[Option.map_eq_some_iff,reduceCtorEq]at ho
  obtain⟨_,_,rfl⟩:=ho
  trivial
 case makeFunc fn first xs=>
  split at ho<;>simp only[Option.map_eq_some_iff,reduceCtorEq]at ho
  obtain⟨_,_,rfl⟩:=ho
  trivial
 case makeMap t r=>
  split at ho<;>try simp only[reduceCtorEq]at ho
  rename_i q hq
  split at ho<;>simp only[Option.some.injEq,reduceCtorEq]at ho
  subst ho
  exact⟨_,_,_,hop,by assumption⟩
 case mapUpdate t m x y=>
  split at ho<;>try simp only[reduceCtorEq]at ho
  rename_i k e hk
  split at ho<;>simp only[Option.some.injEq,reduceCtorEq]at ho
  rename_i m' x' y' h1 h2 h3
  subst ho
  exact⟨_,_,_,_,_,_,.inl hop,hk,h1,h2,h3⟩
 case insert t m x y=>
  split at ho<;>try simp only[reduceCtorEq]at ho
  rename_i k e hk
  split at ho<;>simp only[Option.some.injEq,reduceCtorEq]at ho
  rename_i m' x' y' h1 h2 h3
  subst ho
  exact⟨_,_,_,_,_,_,.inr hop,hk,h1,h2,h3⟩
 case lookup t m x ok=>
  split at ho<;>try simp only[reduceCtorEq]at ho
  split at ho<;>try simp only[reduceCtorEq]at ho
  rename_i k e hk
  split at ho<;>simp only[Option.some.injEq,reduceCtorEq]at ho
  rename_i m' x' h1 h2
  subst ho
  exact⟨_,_,_,_,_,hop,hk,h1,h2⟩
 all_goals first
  |(simp only[Option.map_eq_some_iff]at ho;obtain⟨_,_,rfl⟩:=ho;trivial)
  |(simp only[reduceCtorEq]at ho;done)
theorem Ev.does (h:Rel P B N fr σ j L S a w){op:O}(ho:oOf P o=some op){s:Nat}{v:V}{ws:St}{R:List Nat}(he:Ev P fr σ s op v ws R)(hm:B.m<=s):Does P B N fr (ws++σ) a w o v:=by
 have hf:=from_oOf ho
 cases he with
 |pure hp=>
  obtain⟨u,h1,h2⟩:=pure1_run h ho hp
  exact Does.value h1 h h2
 | @pkT c0 x0 y0 b v hc hb hv=>
  subst hb
  obtain⟨u,h1,h2⟩:=pure1_run h ho (x:=v) (by simp only[pure1,hc,hv])
  exact Does.value h1 h h2
 | @pkF c0 x0 y0 b v hc hb hv=>
  subst hb
  obtain⟨u,h1,h2⟩:=pure1_run h ho (x:=v) (by simp only[pure1,hc,hv])
  exact Does.value h1 h h2
 |al hz hs=>obtain rfl:=nfL_some hz;obtain⟨t,h1,h2⟩:=hf;exact do_alloc h h1 h2 hs hm
 |bx hv hs=>obtain⟨t,x,h1,h2⟩:=hf;exact do_box h h1 h2 hv hs hm
 |bd hv hu=>obtain rfl:=nfL_some hu;obtain⟨t,ps,fs,pl,h1,h2,h3,h4,h5⟩:=hf;exact do_build h h1 h2 h3 h4 h5 hv
 |bs hv hc hM hs hsM=>obtain⟨t,ps,h1,h2,h3,h4,h5,h6⟩:=hf;exact do_bs h h1 h2 h3 h4 h5 h6 hv hc hM hs hm hsM
 |sto hp hr hv hl hft hu=>obtain rfl:=nfL_some hu;obtain⟨t,x,y,h1,h2,h3,h4⟩:=hf;exact do_store h h1 h2 h3 h4 hp hr hv hl (Nat.ble_eq▸hft)
 |stoEl hp hr hi hv hd hM hrM hl hft=>obtain⟨t,x,y,h1,h2,h3,h4⟩:=hf;exact do_sto_el h h1 h2 h3 h4 hp hr hi hv hd hM hrM hl hft
 |ldEl hp hr hi hl hvs hv=>obtain⟨t,x,h1,h2,h3⟩:=hf;exact do_ld_el h h1 h2 h3 hp hr hi hl hvs hv
 |ldL hp hr hl hvs hv=>obtain⟨t,x,h1,h2,h3⟩:=hf;exact do_ld_lnk h h1 h2 h3 hp hr hl hvs hv
 |ia hv hi h0 hlt=>obtain⟨t,n,x,y,h1,h2,h3,h4,h5⟩:=hf;exact do_ia h h1 h2 h3 h4 h5 hi h0 hv hlt
 |iaRo hv hi h0 hlt=>obtain⟨t,n,x,y,h1,h2,h3,h4,h5⟩:=hf;exact do_ia_ro h h1 h2 h3 h4 h5 hi h0 hv hlt
 |iaS hv hr hi h0 hlt=>obtain⟨t,n,x,y,h1,h2,h3,h4,h5⟩:=hf;exact do_ia_sro h h1 h2 h3 h4 h5 hi h0 hv hr hlt
 |ix hv hi h0 hb=>obtain⟨t,x,y,h1,h2,h3,h4⟩:=hf;exact do_ix h h1 h2 h3 h4 hv hi h0 hb
 |sl hv hq hl h1 h2=>obtain⟨t,x,lo,hi,n,g1,g2,g3,g4,g5,g6⟩:=hf;exact do_sl h g1 g2 g3 g4 g5 g6 hv hq hl h1 h2
 |slX hv hr hq hl h1 h2=>obtain⟨t,x,lo,hi,n,g1,g2,g3,g4,g5,g6⟩:=hf;exact do_slX h g1 g2 g3 g4 g5 g6 hv hr hq hl h1 h2
 |clr hv hr hle=>obtain⟨c,t,x,g1,g2,g3,g4,g5,g6,g7,g8⟩:=hf;exact do_clr h g1 g2 g3 g4 g5 g6 g7 g8 hv hr hle
 |slRo hv hq hl h1 h2=>obtain⟨t,x,lo,hi,n,g1,g2,g3,g4,g5,g6⟩:=hf;exact do_sl_ro h g1 g2 g3 g4 g5 g6 hv hq hl h1 h2
 |ss hv hq hl h1 h2=>obtain⟨t,x,lo,hi,g1,g2,g4,g5,g6⟩:=hf;exact do_ss h g1 g2 g4 g5 g6 hv hq hl h1 h2
 |add hv hu hb=>obtain⟨t,x,y,u,g1,g2,g3⟩:=hf;exact do_add h g1 g2 g3 hv hu hb
 |bin hv hv' hr=>obtain⟨t,x,y,u,g1,g2,g3⟩:=hf;exact do_bin h g1 g2 g3 hv hv' hr
 |sh hv hv' hr=>obtain⟨t,x,y,u,g1,g2,g3⟩:=hf;exact do_sh h g1 g2 g3 hv hv' hr
 |sbC ha=>obtain⟨t,u,x,e0,g1,g2,g3,g4,g5⟩:=hf;exact do_sb h g1 g2 g3 g4 g5 ha
 |bsR hv=>obtain⟨t,u,x,g1,g2,g3,g4,g5,g6⟩:=hf;exact do_bs_ h g1 g2 g3 g4 g5 g6 hv
 |ms hl hc h0 hlc hb h63 hs=>
  obtain⟨t,x,y,g1,g2,g3,g4,g5⟩:=hf
  exact do_ms h g1 g2 g3 g4 g5 hl hc h0 hlc (λi hi=>by simpa[bytesOf,hi]using hb) h63 hs hm
 |ap hx hy hM h63 hb hs=>obtain⟨c,t,x,y,z,g1,g2,g3,g4,g5,g6,g7,g8,g9⟩:=hf;exact do_ap h g1 g2 g3 g4 g5 g6 g7 g8 g9 hx hy hM h63 hb hs hm
 |s3 hv hh hq h0 h1=>obtain⟨t,x,q,m,n,g1,g2,g3,g4,g5,g6⟩:=hf;exact do_s3 h g1 g2 g3 g4 g5 g6 hv hh hq h0 h1
 |s3N hv hh hq=>obtain⟨t,x,q,m,n,g1,g2,g3,g4,g5,g6⟩:=hf;exact do_s3N h g1 g2 g3 g4 g5 g6 hv hh hq
 |ap3 hv hr hl hft hy hy0 hM h63 hb hs=>obtain⟨c,t,x,y,z,g1,g2,g3,g4,g5,g6,g7,g8,g9⟩:=hf;exact do_ap3 h g1 g2 g3 g4 g5 g6 g7 g8 g9 hv hr hl hft hy hy0 hM h63 hb hs hm
 |mk hs=>obtain⟨t,k,e,g1,g2⟩:=hf;exact do_mk h g1 hs hm
 |mu g1 g2 g3 g4 g5=>obtain⟨t,k,e,m,x,y,f1,f2,f3,f4,f5⟩:=hf;exact do_mu h f1 f2 f3 f4 f5 g1 g2 g3 g4 g5
 |lk g1 g2 g3=>obtain⟨t,k,e,m,x,f1,f2,f3,f4⟩:=hf;exact do_lk h f1 f2 f3 f4 g1 g2 g3
 |slN hv hq hl=>obtain⟨t,x,lo,hi,n,g1,g2,g3,g4,g5,g6⟩:=hf;exact do_slN h g1 g2 g3 g4 g5 g6 hv hq hl
 |apz hx hy h0 h63 hb hs=>obtain⟨c,t,u,x,y,k,g1,g2,g3,g4,g5,g6,g7,g8,g9,g10⟩:=hf;exact do_apz h g1 g2 g3 g4 g5 g6 g7 g8 g9 g10 hx hy h0 h63 hb hs hm
 |aps hx hy hM h63 hb hs=>obtain⟨c,t,u,x,y,i,g1,g2,g3,g4,g5,g6,g7,g8,g9,g10,g11,g12⟩:=hf;exact do_aps h g1 g2 g3 g4 g5 g6 g7 g8 g9 g10 g11 g12 hx hy hM h63 hb hs hm
 |cl hsem hσ hρ hβ hp hs hI hb hcase=>
  obtain⟨c,g1,g2,g3⟩:=hf
  have hargs:=asOf_rel h g3
  refine Does.call (f:=_) (args:=(c.args.toList.map a.eval).toArray) ?_ (do_calls h hsem hσ hρ hβ hargs hp (λk hk=>⟨hs k hk,by omega⟩) hI hb hcase)
  have:=hsem.1 (c.args.map a.eval) w
  have e:(c.args.toList.map a.eval).toArray=c.args.map a.eval:=by apply Array.ext';rw[Array.toList_map]
  rw[e]
  simp only[execOp,g1,resolve,g2,Act.eval,Deferred.ofValue,invoke,Sem.run_bind,Sem.run_pure,Result.andThen_ok,Array.append_empty,Array.empty_append]at this⊢
  exact this
 |cx hf0 hsem hσ hρ hβ hp hs hI hb hcase=>
  obtain⟨c,t,g1,g2,rfl,g3⟩:=hf
  have hargs:=asOf_rel h g3
  have hfv:=h.slots t
  simp only[val]at hf0
  rw[hf0]at hfv
  simp only[VRel]at hfv
  obtain⟨us,hfv,hcaps⟩:=hfv
  refine Does.call (f:=_) (args:=(c.args.toList.map a.eval++us).toArray) ?_ (do_calls h hsem hσ hρ hβ (VsRel.append hcaps hargs) hp (λk hk=>⟨hs k hk,by omega⟩) hI hb hcase)
  have:=hsem.1 (c.args.map a.eval++us.toArray) w
  have e:(c.args.toList.map a.eval++us).toArray=c.args.map a.eval++us.toArray:=by apply Array.ext';simp
  rw[e]
  simp only[execOp,g1,resolve,g2,hfv,Deferred.ofValue,invoke,Sem.run_bind,Sem.run_pure,Result.andThen_ok,Array.empty_append]at this⊢
  exact this
end
end Go.Proofs.YtmcbbifeekhmgaaGreatDoor.Pe
