import Derived.Test.YtmcbbifeekhmgaaGreatDoorPeNorm
import Derived.Test.YtmcbbifeekhmgaaGreatDoorPeTy
import Derived.Sort.Grow
import Derived.Deep.Draws
import Derived.Shelf.Strconv.Itoa3
import Derived.Shelf.Small.Strs
import Derived.Lib.AtoiAll
namespace Go.Proofs.YtmcbbifeekhmgaaGreatDoor.Pe
open Go Go.RowKit Go.Sort
section
variable {P:Program} {σ:St} {j:Nat->Hd} {L:Nat->List Nat} {S:Nat->Prop} {w w':World}
structure Kept (w w':World):Prop where
 os:w'.os=w.os
 tape:w'.tape=w.tape
 output:w'.output=w.output
 size:w.heap.size<=w'.heap.size
 heap:∀b,b<w.heap.size->w'.heap[b]? =w.heap[b]?
theorem Kept.refl (w:World):Kept w w:=⟨rfl,rfl,rfl,Nat.le_refl _,λ_ _=>rfl⟩
theorem Kept.grow (w:World)(k:Nat)(os:Array Obj):Kept w (grow (w.drewN k) os):=
 ⟨rfl,rfl,rfl,by show _<=(_++os).size;simp,λ_ hb=>heap_grow_old (w.drewN k) os hb⟩
theorem Mem.kept (h:Mem P σ j L S w)(hk:Kept w w'):Mem P σ j L S w' where
 roots r:=(h.roots r).same (λ_ _=>rfl) rfl (λb hb=>⟨hb,hk.heap b (h.stab b hb)⟩) (λb hb=>hk.heap b (h.owned r b hb).1)
 nodup:=h.nodup
 disj:=h.disj
 owned r b hb:=⟨Nat.lt_of_lt_of_le (h.owned r b hb).1 hk.size,(h.owned r b hb).2⟩
 stab b hb:=Nat.lt_of_lt_of_le (h.stab b hb) hk.size
theorem Says.of_kept {f:Nat}{vs:List V}{vo:V}(hen:∀args w,(callFunc f args).run P w=.ok (.enter f args) w)
  (h:∀(w:World)(S:Nat->Prop)(j:Nat->Hd)(args:List Value),GlbOk w (λ_=>False)->VsRel P j w S vs args->Calls P f args.toArray w λe w'=>(∃v,e=.returned v/\VRel P j w' S vo v)/\Kept w w'):Says P f vs 0 [] vo []:=by
 refine⟨hen,λj L S w args hm hj ha hg=> ?_⟩
 refine(h w S j args (λt ht=>⟨id,(hg t ht).2⟩) ha).mono ?_
 rintro e w' ⟨⟨v,rfl,hv⟩,hk⟩
 refine⟨v,j,L,S,rfl,hv,hm.kept hk,?_⟩
 exact⟨λr b hb=>.inl ⟨r,hb⟩,λb hb=>.inl hb,λb hb=>hb,λr hr=>rfl,hk.os,hk.tape,hk.output,hk.size,λb hb _=>hk.heap b hb⟩
theorem vs1 {x:V}{args:List Value}(h:VsRel P j w S [x] args):∃u,args=[u]/\VRel P j w S x u:=by
 simp only[VsRel]at h
 obtain⟨u,us,rfl,h1,rfl⟩:=h
 exact⟨u,rfl,h1⟩
theorem vs2 {x y:V}{args:List Value}(h:VsRel P j w S [x,y] args):∃u v,args=[u,v]/\VRel P j w S x u/\VRel P j w S y v:=by
 simp only[VsRel]at h
 obtain⟨u,us,rfl,h1,v,vs,rfl,h2,rfl⟩:=h
 exact⟨u,v,rfl,h1,h2⟩
theorem glb_tab {g:Nat}{name:String}{k:IntKind}{zs:List Int}{own:Nat->Prop}(hg:GlbOk w own)(hn:P.globalNamed name=some g)(hm:(g,isTab k zs)∈globTabs):Lib.TabIs P w name k zs:=by
 obtain⟨_,o,h2,e,z,rfl⟩:=hg _ hm
 simp only at h2
 unfold Lib.TabIs World.var?
 rw[hn]
 simp[h2]
theorem glb_err {g:Nat}{name:String}{own:Nat->Prop}(hg:GlbOk w own)(hn:P.globalNamed name=some g)(hm:(g,isErr)∈globTabs):∃tp p,w.var? P name=some #[.iface tp p]:=by
 obtain⟨_,o,h2,tp,p,e,z,rfl⟩:=hg _ hm
 simp only at h2
 refine⟨tp,p,?_⟩
 unfold World.var?
 rw[hn]
 simp[h2]
theorem pow10s_eq:pow10s=Lib.pow10Tab:=by decide
def itoaL (n:Int):List UInt8:=if 0<=n/\n<10 then[UInt8.ofNat (48+n.toNat)]else Lib.itoa n
theorem itoaL_eq (n:Int):itoaL n=Lib.itoa n:=by
 unfold itoaL
 split
 ·rename_i h
  unfold Lib.itoa
  rw[if_neg (by omega),Lib.decDigits,dif_pos (by omega)]
 ·rfl
def itoa? (n:Int):Option ByteArray:=if-9223372036854775808<=n/\n<=9223372036854775807 then some ⟨(itoaL n).toArray⟩else none
theorem says_itoa {f:Nat}(hen:∀args w,(callFunc f args).run P w=.ok (.enter f args) w)
  (hc:∀(n:Int),-9223372036854775808<=n->n<=9223372036854775807->∀w,Lib.TabIs P w "internal/strconv.uint64pow10" .u64 Lib.pow10Tab->Calls P f #[.int .i64 n] w λe w'=>e=.returned (.string ⟨(Lib.itoa n).toArray⟩)/\∃k os,w'=grow (w.drewN k) os)
  {g:Nat} (hn:P.globalNamed "internal/strconv.uint64pow10" =some g) (hm:(g,isTab .u64 pow10s)∈globTabs)
  {n:Int} {r:ByteArray} (h:itoa? n=some r):Says P f [VI n] 0 [] (VS r) []:=by
 unfold itoa? at h
 rw[itoaL_eq]at h
 split at h
 ·rename_i hb
  obtain rfl:=someO h
  refine Says.of_kept hen λw S j args hg ha=> ?_
  obtain⟨u,rfl,hu⟩:=vs1 ha
  simp only[VRel]at hu
  cases hu
  refine(hc n hb.1 hb.2 w (pow10s_eq▸glb_tab hg hn hm)).mono ?_
  rintro e w' ⟨rfl,k,os,rfl⟩
  exact⟨⟨_,rfl,by simp only[VRel];exact .s _⟩,Kept.grow w k os⟩
 ·cases h
theorem says_compare {f:Nat}(hen:∀args w,(callFunc f args).run P w=.ok (.enter f args) w)
  (hc:∀(a b:ByteArray)(w:World),Calls P f #[.string a,.string b] w λe w'=>e=.returned (.int .i64 (Lib.compareBytes a.data.toList b.data.toList))/\w'=w)
  {a b:ByteArray} {r:Int} (h:some (Lib.compareBytes a.data.toList b.data.toList)=some r):Says P f [VS a,VS b] 0 [] (VI r) []:=by
 obtain rfl:=someO h
 refine Says.of_kept hen λw S j args hg ha=> ?_
 obtain⟨u,v,rfl,hu,hv⟩:=vs2 ha
 simp only[VRel]at hu hv
 cases hu
 cases hv
 refine(hc a b w).mono ?_
 rintro e w' ⟨rfl,rfl⟩
 exact⟨⟨_,rfl,by simp only[VRel];exact .i _ _⟩,Kept.refl w'⟩
end
theorem Kept.of_below {w w':World}(h:Below w.heap.size w w'):Kept w w':=⟨h.os,h.tape,h.output,h.size,h.block⟩
theorem Kept.trans {a b c:World}(h:Kept a b)(k:Kept b c):Kept a c:=
 ⟨k.os.trans h.os,k.tape.trans h.tape,k.output.trans h.output,Nat.le_trans h.size k.size,λi hi=>(k.heap i (Nat.lt_of_lt_of_le hi h.size)).trans (h.heap i hi)⟩
theorem var_kept {P:Program}{w w':World}(h:Kept w w'){n:String}{cs:Array Value}(hv:w.var? P n=some cs):w'.var? P n=some cs:=by
 unfold World.var? at hv⊢
 cases hg:P.globalNamed n with
 |none=>rw[hg]at hv;cases hv
 |some g=>
  rw[hg]at hv
  simp only[Option.bind_some]at hv⊢
  have hlt:g<w.heap.size:=by
   rcases Nat.lt_or_ge g w.heap.size with h1|h1
   ·exact h1
   ·rw[Array.getElem?_eq_none h1]at hv
    cases hv
  rw[h.heap g hlt]
  exact hv
theorem tab_kept {P:Program}{w w':World}(h:Kept w w'){n:String}{k:IntKind}{zs:List Int}(ht:Lib.TabIs P w n k zs):Lib.TabIs P w' n k zs:=var_kept h ht
def rdecN (t:ByteArray):Int×Bool:=match Lib.atoiAll t.data.toList with
 |.ok v=>if 0<=v/\v<=1000000000/\(⟨(itoaL v).toArray⟩:ByteArray)=t then(v,true)else(0,false)
 |_=>(0,false)
def rdec? (t:ByteArray):Option (Int×Bool):=if t.size<=281474976710656 then some (rdecN t)else none
section
variable {P:Program}
theorem says_rdec {f:Nat}(hen:∀args w,(callFunc f args).run P w=.ok (.enter f args) w)
  (hc:∀(t:ByteArray),t.size<=281474976710656->∀w,Lib.TabIs P w "internal/strconv.uint64pow10" .u64 Lib.pow10Tab->(∃tp p,w.var? P "strconv.ErrSyntax" =some #[.iface tp p])->(∃tp p,w.var? P "strconv.ErrRange" =some #[.iface tp p])->
   Calls P f #[.string t] w λe w'=>e=.returned (.tuple #[.int .i64 (rdecN t).1,.bool (rdecN t).2])/\Kept w w')
  {g g1 g2:Nat} (hn:P.globalNamed "internal/strconv.uint64pow10" =some g) (hm:(g,isTab .u64 pow10s)∈globTabs)
  (hn1:P.globalNamed "strconv.ErrSyntax" =some g1) (hm1:(g1,isErr)∈globTabs) (hn2:P.globalNamed "strconv.ErrRange" =some g2) (hm2:(g2,isErr)∈globTabs)
  {t:ByteArray} {r:Int×Bool} (h:rdec? t=some r):Says P f [VS t] 0 [] (.tup [VI r.1,VB r.2]) []:=by
 unfold rdec? at h
 split at h
 ·rename_i hb
  obtain rfl:=someO h
  refine Says.of_kept hen λw S j args hg ha=> ?_
  obtain⟨u,rfl,hu⟩:=vs1 ha
  simp only[VRel]at hu
  cases hu
  refine(hc t hb w (pow10s_eq▸glb_tab hg hn hm) (glb_err hg hn1 hm1) (glb_err hg hn2 hm2)).mono ?_
  rintro e w' ⟨rfl,hk⟩
  refine⟨⟨_,rfl,?_⟩,hk⟩
  simp only[VRel]
  exact⟨[_,_],rfl,by simp only[VsRel,VRel];exact⟨_,_,rfl,.i _ _,_,_,rfl,.b _,rfl⟩⟩
 ·cases h
end
end Go.Proofs.YtmcbbifeekhmgaaGreatDoor.Pe
