import Derived.Test.YtmcbbifeekhmgaaGreatDoorPeSyn
import Derived.Below
import Derived.Laws.OwnMore
namespace Go.Proofs.YtmcbbifeekhmgaaGreatDoor.Pe
open Go Go.RowKit
inductive Hd where
 |no
 |blk (g:Nat)
 |hdr (v:Value)
def own1 (v:Value):List Nat:=match v.ownBlock with
 |some g=>[g]
 |none=>[]
mutual
inductive CRel (P:Program) (w:World) (S:Nat->Prop):C->Value->List Nat->Prop
 |b (x:Bool):CRel P w S (.b x) (.bool x) []
 |i (k:IntKind) (n:Int):CRel P w S (.i k n) (.int k n) []
 |s (x:ByteArray):CRel P w S (.s x) (.string x) []
 |nilp:CRel P w S .nilp (.pointer none) []
 |dead (v:Value) (h:v.oneCell'=true):CRel P w S .dead v []
 |ro (e:Nat) (rows:List (List C)) (A:Option Addr) (n c:Nat) (vals:List Value)
   (hz:∀x∈rows,x.length=P.cellsOf e) (hn:n=rows.length) (hc:n<=c) (h0:A=none->c=0) (hv:vals.length=n*P.cellsOf e)
   (hA:0<n->∃a,A=some a/\S a.block/\∀k u,vals[k]? =some u->w.cell? (a.add k)=some u)
   (h:CsRel P w S rows.flatten vals []):CRel P w S (.row false e rows) (.slice A n c) []
 |own (e:Nat) (rows:List (List C)) (v:Value) (vals:List Value) (L:List Nat)
   (hz:∀x∈rows,x.length=P.cellsOf e) (ho:w.ownsRow 0 e (P.cellsOf e) v rows.length vals)
   (h:CsRel P w S rows.flatten vals L):CRel P w S (.row true e rows) v (own1 v++L)
inductive CsRel (P:Program) (w:World) (S:Nat->Prop):List C->List Value->List Nat->Prop
 |nil:CsRel P w S [] [] []
 |cons (c:C) (cs:List C) (v:Value) (vs:List Value) (L L':List Nat) (h:CRel P w S c v L) (hs:CsRel P w S cs vs L'):CsRel P w S (c::cs) (v::vs) (L++L')
end
section
variable {P:Program} {w w':World} {S S':Nat->Prop}
theorem own_stays {e size n:Nat}{v:Value}{xs:List Value}(h:w.ownsRow 0 e size v n xs)(hm:∀k,v.ownBlock=some k->w'.heap[k]? =w.heap[k]?):w'.ownsRow 0 e size v n xs:=by
 obtain⟨h1,h2⟩:=h
 refine⟨h1,?_⟩
 rcases h2 with h2|⟨g,cap,cur,rfl,hg,hh,r⟩
 ·exact .inl h2
 ·exact .inr ⟨g,cap,cur,rfl,hg,(hm g (by simp[Value.ownBlock])).trans hh,r⟩
theorem mem_own1 {v:Value}{g:Nat}:g∈own1 v↔v.ownBlock=some g:=by
 grind [own1]
theorem CRel.stays (hS:∀b,S b->S' b/\w'.heap[b]? =w.heap[b]?){c:C}{v:Value}{L:List Nat}(h:CRel P w S c v L):
  (∀b∈L,w'.heap[b]? =w.heap[b]?)->CRel P w' S' c v L:=by
 refine CRel.rec (motive_1:=λc v L _=>(∀b∈L,w'.heap[b]? =w.heap[b]?)->CRel P w' S' c v L) (motive_2:=λcs vs L _=>(∀b∈L,w'.heap[b]? =w.heap[b]?)->CsRel P w' S' cs vs L)
  ?_ ?_ ?_ ?_ ?_ ?_ ?_ ?_ ?_ h
 ·exact λx _=>.b x
 ·exact λk n _=>.i k n
 ·exact λx _=>.s x
 ·exact λ_=>.nilp
 ·exact λv h _=>.dead v h
 ·intro e rows A n c vals hz hn hc h0 hv hA _ ih _
  refine .ro e rows A n c vals hz hn hc h0 hv (λhp=> ?_) (ih (by simp))
  obtain⟨a,ha,hs,hcell⟩:=hA hp
  obtain⟨hs',hb⟩:=hS _ hs
  refine⟨a,ha,hs',λk u hk=> ?_⟩
  rw[<-hcell k u hk]
  refine World.cell?_of_block ?_
  have hab:(a.add k).block=a.block:=by unfold Addr.add;split<;>rfl
  rw[hab]
  exact hb
 ·intro e rows v vals L hz ho _ ih hL
  exact .own e rows v vals L hz (own_stays ho (λk hk=>hL k (List.mem_append_left _ (mem_own1.2 hk)))) (ih (λb hb=>hL b (List.mem_append_right _ hb)))
 ·exact λ_=>.nil
 ·intro c cs v vs L L' _ _ ih1 ih2 hL
  exact .cons c cs v vs L L' (ih1 (λb hb=>hL b (List.mem_append_left _ hb))) (ih2 (λb hb=>hL b (List.mem_append_right _ hb)))
theorem CsRel.stays (hS:∀b,S b->S' b/\w'.heap[b]? =w.heap[b]?){cs:List C}:∀{vs:List Value}{L:List Nat},CsRel P w S cs vs L->
  (∀b∈L,w'.heap[b]? =w.heap[b]?)->CsRel P w' S' cs vs L:=by
 induction cs with
 |nil=>intro vs L h _;cases h;exact .nil
 |cons c cs ih=>
  intro vs L h hL
  cases h with
  |cons _ _ v vs L L' h hs=>
   exact .cons c cs v vs L L' (h.stays hS (λb hb=>hL b (List.mem_append_left _ hb))) (ih hs (λb hb=>hL b (List.mem_append_right _ hb)))
theorem CsRel.len {cs:List C}:∀{vs:List Value}{L:List Nat},CsRel P w S cs vs L->vs.length=cs.length:=by
 induction cs with
 |nil=>intro vs L h;cases h;rfl
 |cons c cs ih=>intro vs L h;cases h with|cons _ _ v vs L L' h hs=>simp[ih hs]
theorem CsRel.append {cs ds:List C}{us:List Value}{M:List Nat}(h2:CsRel P w S ds us M):∀{vs:List Value}{L:List Nat},CsRel P w S cs vs L->CsRel P w S (cs++ds) (vs++us) (L++M):=by
 induction cs with
 |nil=>intro vs L h;cases h;exact h2
 |cons c cs ih=>
  intro vs L h
  cases h with
  |cons _ _ v vs L L' h hs=>
   have:=ih hs
   rw[List.append_assoc]
   exact .cons c _ v _ L _ h this
theorem CsRel.split {cs ds:List C}:∀{vs:List Value}{L:List Nat},CsRel P w S (cs++ds) vs L->∃v1 v2 L1 L2,vs=v1++v2/\L=L1++L2/\CsRel P w S cs v1 L1/\CsRel P w S ds v2 L2:=by
 induction cs with
 |nil=>intro vs L h;exact⟨[],vs,[],L,rfl,rfl,.nil,h⟩
 |cons c cs ih=>
  intro vs L h
  cases h with
  |cons _ _ v vs L L' h hs=>
   obtain⟨v1,v2,L1,L2,rfl,rfl,h1,h2⟩:=ih hs
   exact⟨v::v1,v2,L++L1,L2,rfl,by rw[List.append_assoc],.cons c cs v v1 L L1 h h1,h2⟩
theorem CRel.one {c:C}{v:Value}{L:List Nat}(h:CRel P w S c v L):v.oneCell'=true:=by
 cases h with
 |own e rows v vals L hz ho h=>
  rcases ho.2 with ⟨rfl,_⟩|⟨g,cap,cur,rfl,_⟩<;>rfl
 |dead v h=>exact h
 |_=>rfl
end
end Go.Proofs.YtmcbbifeekhmgaaGreatDoor.Pe
