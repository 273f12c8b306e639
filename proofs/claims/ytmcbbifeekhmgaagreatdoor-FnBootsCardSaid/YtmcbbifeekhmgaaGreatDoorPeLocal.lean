import Derived.Test.YtmcbbifeekhmgaaGreatDoorPeEv
namespace Go.Proofs.YtmcbbifeekhmgaaGreatDoor.Pe
open Go Go.RowKit
def has:List Nat->Nat->Bool
 |[],_=>false
 |x::xs,r=>match Nat.decEq r x with
  |.isTrue _=>true
  |.isFalse _=>has xs r
theorem has_iff:∀{l:List Nat}{r:Nat},has l r=true↔r∈l
 |[],r=>by simp[has]
 |x::xs,r=>by
  simp only[has]
  cases h:Nat.decEq r x with
  |isTrue e=>simp[e]
  |isFalse e=>simp[e,has_iff]
def optA:Option A->List A
 |none=>[]
 |some x=>[x]
def opsA:O->List A
 |.mv x|.bx x|.ld _ _ x|.nc x|.un _ x|.cv _ x|.sb x|.bs_ _ x|.fa _ x|.fd _ _ _ x|.ex x _|.ln _ x|.clr _ _ x|.cp x=>[x]
 |.pk c a b=>[c,a,b]
 |.al _|.bad=>[]
 |.bd _ ps|.bs _ _ _ ps=>ps.map (·.2.2)
 |.sto _ x y|.bi _ x y|.eqs _ _ x y|.bb _ x y|.ms _ _ x y|.ia _ x y|.ix x y|.ap _ x y|.aps _ x y|.apz _ _ x y|.mx x y|.mn x y=>[x,y]
 |.mf _ xs|.cl _ xs=>xs
 |.cx x xs=>x::xs
 |.sl _ x lo hi|.ss x lo hi=>x::(optA lo++optA hi)
 |.s3 _ x h m=>[x,h,m]
 |.mk=>[]
 |.mu m k v=>[m,k,v]
 |.lk m k=>[m,k]
def blind:O->Bool
 |.mv _|.nc _|.fa _ _=>true
 |_=>false
def refsO (fr:Fr)(o:O):List Nat:=if blind o then[]else refsL ((opsA o).map (val fr))
section
variable {P:Program} {fr fr':Fr} {σ σ':St}
theorem refsL_mem:∀{vs:List V}{x:V}{r:Nat},x∈vs->r∈refs x->r∈refsL vs
 |v::vs,x,r,hx,hr=>by
  simp only[refsL,List.mem_append]
  rcases List.mem_cons.1 hx with rfl|hx
  ·exact .inl hr
  ·exact .inr (refsL_mem hx hr)
theorem refsO_eq {fr:Fr}{o:O}(hn:blind o=false):refsO fr o=refsL ((opsA o).map (val fr)):=by
 unfold refsO
 rw[hn]
 rfl
theorem refsO_mem {o:O}{x:A}{r:Nat}(hn:blind o=false)(hx:x∈opsA o)(hr:r∈refs (val fr x)):r∈refsO fr o:=by
 rw[refsO_eq hn]
 exact refsL_mem (List.mem_map.2 ⟨x,hx,rfl⟩) hr
theorem refs_ptr {fr:Fr}{o:O}{x:A}{r q:Nat}(hx:x∈opsA o)(h:val fr x=.ptr r q)(hn:blind o=false:=by rfl):r∈refsO fr o:=refsO_mem hn hx (by rw[h];simp[refs])
theorem refs_sl {fr:Fr}{o:O}{x:A}{r e off len:Nat}(hx:x∈opsA o)(h:val fr x=.sl r e off len)(hn:blind o=false:=by rfl):r∈refsO fr o:=refsO_mem hn hx (by rw[h];simp[refs])
theorem refs_el {fr:Fr}{o:O}{x:A}{r e i k:Nat}(hx:x∈opsA o)(h:val fr x=.el r e i k)(hn:blind o=false:=by rfl):r∈refsO fr o:=refsO_mem hn hx (by rw[h];simp[refs])
theorem pure1_local {o:O}(hv:∀x∈opsA o,val fr' x=val fr x)(hσ:∀r∈refsO fr o,root σ' r=root σ r):pure1 fr' σ' o=pure1 fr σ o:=by
 cases o with
 |ld n ag x=>
  have h1:=hv x (by simp[opsA])
  simp only[pure1,h1]
  cases h2:val fr x with
  |ptr r q=>simp only[hσ r (refs_ptr (x:=x) (by simp[opsA]) h2)]
  |_=>rfl
 |mf f xs=>
  grind [pure1,List.map_congr_left,opsA]
 |pk c a b=>simp only[pure1,hv c (by simp[opsA]),hv a (by simp[opsA]),hv b (by simp[opsA])]
 |ln str x=>cases str<;>simp only[pure1,hv x (by simp[opsA])]
 |bi op x y=>simp only[pure1,hv x (by simp[opsA]),hv y (by simp[opsA])]
 |eqs ne ks x y=>simp only[pure1,hv x (by simp[opsA]),hv y (by simp[opsA])]
 |bb op x y=>simp only[pure1,hv x (by simp[opsA]),hv y (by simp[opsA])]
 |mx x y=>simp only[pure1,hv x (by simp[opsA]),hv y (by simp[opsA])]
 |mn x y=>simp only[pure1,hv x (by simp[opsA]),hv y (by simp[opsA])]
 |un op x=>cases op<;>simp only[pure1,hv x (by simp[opsA])]
 |mv x=>simp only[pure1,hv x (by simp[opsA])]
 |nc x=>simp only[pure1,hv x (by simp[opsA])]
 |cv k x=>simp only[pure1,hv x (by simp[opsA])]
 |cp x=>simp only[pure1,hv x (by simp[opsA])]
 |fa off x=>simp only[pure1,hv x (by simp[opsA])]
 |fd off n ag x=>simp only[pure1,hv x (by simp[opsA])]
 |ex x k=>simp only[pure1,hv x (by simp[opsA])]
 |_=>rfl
theorem fillV_local:∀{qs:List (Nat×Nat×A)}{cells:List V},(∀q∈qs,val fr' q.2.2=val fr q.2.2)->fillV fr' cells qs=fillV fr cells qs
 |[],_,_=>rfl
 |(off,size,x)::qs,cells,h=>by
  simp only[fillV,h (off,size,x) (by simp)]
  cases cellsV (val fr x)with
  |none=>rfl
  |some vs=>
   simp only
   rw[fillV_local (λq hq=>h q (by simp[hq]))]
theorem ToC.local {v:V}{c:C}{M:List Nat}(h:ToC σ v c M)(hσ:∀r∈refs v,root σ' r=root σ r):ToC σ' v c M:=by
 cases h with
 |c=>exact .c _
 |own h hl=>exact .own ((hσ _ (by simp[refs])).trans h) hl
 |ro h hl=>exact .ro ((hσ _ (by simp[refs])).trans h) hl
 |nilro=>exact .nilro _ _
theorem ToCs.local {vs:List V}{cs:List C}{M:List Nat}(h:ToCs σ vs cs M):(∀r∈refsL vs,root σ' r=root σ r)->ToCs σ' vs cs M:=by
 induction h with
 |nil=>exact λ_=>.nil
 |cons h hs ih=>
  intro hσ
  simp only[refsL,List.mem_append]at hσ
  exact .cons (h.local (λr hr=>hσ r (.inl hr))) (ih (λr hr=>hσ r (.inr hr)))
theorem Bnd.local {x:Option A}{d n:Nat}(h:Bnd fr x d n)(hv:∀y∈optA x,val fr' y=val fr y):Bnd fr' x d n:=by
 cases h with
 |none d=>exact .none d
 |some h h0 d=>exact .some ((hv _ (by simp[optA])).trans h) h0 d
theorem Onto.local {x:A}{e:Nat}{rows:List (List C)}{M:List Nat}(h:Onto fr σ x e rows M)(hv:val fr' x=val fr x)(hσ:∀r∈refs (val fr x),root σ' r=root σ r):Onto fr' σ' x e rows M:=by
 cases h with
 |nil h=>exact .nil (hv.trans h)
 |own h hr hl ht=>exact .own (hv.trans h) ((hσ _ (by rw[h];simp[refs])).trans hr) hl ht
theorem Adds.local {x:A}{e:Nat}{rows:List (List C)}{M:List Nat}(h:Adds fr σ x e rows M)(hv:val fr' x=val fr x)(hσ:∀r∈refs (val fr x),root σ' r=root σ r):Adds fr' σ' x e rows M:=by
 cases h with
 |ro h=>exact .ro (hv.trans h)
 |shared h hr ht=>exact .shared (hv.trans h) ((hσ _ (by rw[h];simp[refs])).trans hr) ht
 |flat h hr ht hf=>exact .flat (hv.trans h) ((hσ _ (by rw[h];simp[refs])).trans hr) ht hf
 |own h hr hl=>exact .own (hv.trans h) ((hσ _ (by rw[h];simp[refs])).trans hr) hl
 |nil h=>exact .nil (hv.trans h)
theorem Passes.local {ρ β:List Nat}:∀{xs ys:List V},Passes σ ρ β xs ys->(∀r∈refsL xs,root σ' r=root σ r)->Passes σ' ρ β xs ys:=by
 have one:∀(x y:V),Pass σ ρ β x y->(∀r∈refs x,root σ' r=root σ r)->Pass σ' ρ β x y:=by
  intro x
  refine V.rec (motive_1:=λx=>∀(y:V),Pass σ ρ β x y->(∀r∈refs x,root σ' r=root σ r)->Pass σ' ρ β x y)
   (motive_2:=λxs=>∀(ys:List V),Passes σ ρ β xs ys->(∀r∈refsL xs,root σ' r=root σ r)->Passes σ' ρ β xs ys) ?_ ?_ ?_ ?_ ?_ ?_ ?_ ?_ ?_ ?_ ?_ ?_ ?_ x
  ·intro c y hp _
   cases hp with
   |c=>exact .c _
   |nil e e'=>exact .nil e e'
   |undef=>exact .undef _
  ·intro r e off len y hp hσ
   cases hp with
   |sl h=>exact .sl h
   |borrow hr hb ht=>exact .borrow ((hσ r (by simp[refs])).trans hr) hb ht
   |share hr ht=>exact .share ((hσ r (by simp[refs])).trans hr) ht
   |undef=>exact .undef _
  ·intro r q y hp _
   cases hp with
   |ptr h=>exact .ptr h
   |undef=>exact .undef _
  ·intro r e i k y hp _
   cases hp with
   |el h=>exact .el h
   |undef=>exact .undef _
  ·intro cs y hp _
   cases hp with
   |rp=>exact .rp _
   |undef=>exact .undef _
  ·intro vs ih y hp hσ
   cases hp with
   |agg hf=>exact .agg (ih _ hf (by simpa only[refs]using hσ))
   |undef=>exact .undef _
  ·intro vs ih y hp hσ
   cases hp with
   |undef=>exact .undef _
  ·intro f vs ih y hp hσ
   cases hp with
   |fn hf=>exact .fn (ih _ hf (by simpa only[refs]using hσ))
   |undef=>exact .undef _
  ·intro y hp _
   cases hp with
   |undef=>exact .undef _
  ·intro r e len y hp _
   cases hp with
   |undef=>exact .undef _
  ·intro r y hp _
   cases hp with
   |undef=>exact .undef _
  ·intro ys hf _
   cases hf
   exact .nil
  ·intro x xs ih1 ih2 ys hf hσ
   cases hf with
   |cons h1 h2=>
    simp only[refsL,List.mem_append]at hσ
    exact .cons (ih1 _ h1 (λr hr=>hσ r (.inl hr))) (ih2 _ h2 (λr hr=>hσ r (.inr hr)))
 intro xs
 induction xs with
 |nil=>intro ys h _;cases h;exact .nil
 |cons x xs ih=>
  intro ys h hσ
  simp only[refsL,List.mem_append]at hσ
  cases h with
  |cons h1 h2=>exact .cons (one _ _ h1 (λr hr=>hσ r (.inl hr))) (ih h2 (λr hr=>hσ r (.inr hr)))
theorem pickFrom_local {φ:Nat->Option Nat}:∀{ρ:List Nat}{n:Nat},(∀r∈ρ,root σ' r=root σ r)->pickFrom φ σ' n ρ=pickFrom φ σ n ρ
 |[],_,_=>rfl
 |r::ρ,n,h=>by
  have ih:=pickFrom_local (φ:=φ) (ρ:=ρ) (n:=n+1) (λq hq=>h q (List.mem_cons_of_mem _ hq))
  grind [pickFrom]
theorem upto_mem {s n k:Nat}(h:k<n):s+k∈upto s n:=List.mem_of_getElem? (by rw[upto_get,if_pos h])
theorem back_mem {φ:Nat->Option Nat}{σo:St}{ρ:List Nat}{s n k:Nat}(h:k<n):s+k∈(backSt φ σo (ρ++upto s n) 0).map (·.1):=by
 grind [backSt_keys,List.mem_append_right,upto_mem]
theorem Ev.local {s:Nat}{o:O}{v:V}{ws:St}{R:List Nat}(he:Ev P fr σ s o v ws R)(hv:∀x∈opsA o,val fr' x=val fr x)(hσ:∀r,(r∈refsO fr o\/r∈R)\/r∈ws.map (·.1)->root σ' r=root σ r):Ev P fr' σ' s o v ws R:=by
 have h1:∀r∈refsO fr o,root σ' r=root σ r:=λr hr=>hσ r (.inl (.inl hr))
 have hO:blind o=false->∀x∈opsA o,∀r∈refs (val fr x),root σ' r=root σ r:=λhn x hx r hr=>h1 r (refsO_mem hn hx hr)
 cases he with
 |pure h=>exact .pure ((pure1_local hv h1).trans h)
 |pkT h hb hn=>exact .pkT ((hv _ (by simp[opsA])).trans h) hb (by rw[hv _ (by simp[opsA])];exact hn)
 |pkF h hb hn=>exact .pkF ((hv _ (by simp[opsA])).trans h) hb (by rw[hv _ (by simp[opsA])];exact hn)
 |al hz hs=>exact .al hz ((hσ s (by simp)).trans hs)
 |bx h hs=>exact .bx (by rw[hv _ (by simp[opsA])];exact h) ((hσ s (by simp)).trans hs)
 |bd h hu=>exact .bd ((fillV_local (λq hq=>hv _ (by simpa[opsA]using⟨q.1,q.2.1,hq⟩))).trans h) hu
 |bs h hc hM hs hsM=>exact .bs ((fillV_local (λq hq=>hv _ (by simpa[opsA]using⟨q.1,q.2.1,hq⟩))).trans h) (hc.local (λr hr=>hσ r (.inl (.inr hr)))) hM ((hσ s (by simp)).trans hs) hsM
 |sto hp hr hvs hl hf hu=>exact .sto ((hv _ (by simp[opsA])).trans hp) ((h1 _ (refs_ptr (by simp[opsA]) hp)).trans hr) (by rw[hv _ (by simp[opsA])];exact hvs) hl hf hu
 |stoEl hp hr hi hvs hd hM hrM hl hf=>exact .stoEl ((hv _ (by simp[opsA])).trans hp) ((h1 _ (refs_el (by simp[opsA]) hp)).trans hr) hi (by rw[hv _ (by simp[opsA])];exact hvs) (hd.local (λr hr=>hσ r (.inl (.inr hr)))) hM hrM hl hf
 |ldEl hp hr hi hl hvs hm=>exact .ldEl ((hv _ (by simp[opsA])).trans hp) ((h1 _ (refs_el (by simp[opsA]) hp)).trans hr) hi hl hvs hm
 |ldL hp hr hl hvs hm=>exact .ldL ((hv _ (by simp[opsA])).trans hp) ((h1 _ (refs_el (by simp[opsA]) hp)).trans hr) hl ((readsL_local (λs hs=>hσ s (.inl (.inr hs))) _ _).trans hvs) hm
 |ia hx hi h0 hlt=>exact .ia ((hv _ (by simp[opsA])).trans hx) ((hv _ (by simp[opsA])).trans hi) h0 hlt
 |iaRo hx hi h0 hlt=>exact .iaRo ((hv _ (by simp[opsA])).trans hx) ((hv _ (by simp[opsA])).trans hi) h0 hlt
 |iaS hx hr hi h0 hlt=>exact .iaS ((hv _ (by simp[opsA])).trans hx) ((h1 _ (refs_sl (by simp[opsA]) hx)).trans hr) ((hv _ (by simp[opsA])).trans hi) h0 hlt
 |ix hx hi h0 hb=>exact .ix ((hv _ (by simp[opsA])).trans hx) ((hv _ (by simp[opsA])).trans hi) h0 hb
 |sl hx hq hl g1 g2=>exact .sl ((hv _ (by simp[opsA])).trans hx) (hq.local (λy hy=>hv y (by simp[opsA,hy]))) (hl.local (λy hy=>hv y (by simp[opsA,hy]))) g1 g2
 |slRo hx hq hl g1 g2=>exact .slRo ((hv _ (by simp[opsA])).trans hx) (hq.local (λy hy=>hv y (by simp[opsA,hy]))) (hl.local (λy hy=>hv y (by simp[opsA,hy]))) g1 g2
 |ss hx hq hl g1 g2=>exact .ss ((hv _ (by simp[opsA])).trans hx) (hq.local (λy hy=>hv y (by simp[opsA,hy]))) (hl.local (λy hy=>hv y (by simp[opsA,hy]))) g1 g2
 |add hx hy hb=>exact .add ((hv _ (by simp[opsA])).trans hx) ((hv _ (by simp[opsA])).trans hy) hb
 |slX hx hr hq hl g1 g2=>exact .slX ((hv _ (by simp[opsA])).trans hx) ((h1 _ (refs_sl (by simp[opsA]) hx)).trans hr) (hq.local (λy hy=>hv y (by simp[opsA,hy]))) (hl.local (λy hy=>hv y (by simp[opsA,hy]))) g1 g2
 |clr hx hr hle=>exact .clr ((hv _ (by simp[opsA])).trans hx) ((h1 _ (refs_sl (by simp[opsA]) hx)).trans hr) hle
 |bin hx hy hr=>exact .bin ((hv _ (by simp[opsA])).trans hx) ((hv _ (by simp[opsA])).trans hy) hr
 |sh hx hy hr=>exact .sh ((hv _ (by simp[opsA])).trans hx) ((hv _ (by simp[opsA])).trans hy) hr
 |sbC ha=>exact .sbC (ha.local (hv _ (by simp[opsA])) (hO rfl _ (by simp[opsA])))
 |bsR hx=>exact .bsR ((hv _ (by simp[opsA])).trans hx)
 |ms hl hc h0 hlc hb h63 hs=>exact .ms ((hv _ (by simp[opsA])).trans hl) ((hv _ (by simp[opsA])).trans hc) h0 hlc hb h63 ((hσ s (by simp)).trans hs)
 |ap hx hy hM h63 hb hs=>exact .ap (hx.local (hv _ (by simp[opsA])) (hO rfl _ (by simp[opsA]))) (hy.local (hv _ (by simp[opsA])) (hO rfl _ (by simp[opsA]))) hM h63 hb ((hσ s (by simp)).trans hs)
 |s3 hx hh hq h0 hle=>exact .s3 ((hv _ (by simp[opsA])).trans hx) ((hv _ (by simp[opsA])).trans hh) ((hv _ (by simp[opsA])).trans hq) h0 hle
 |s3N hx hh hq=>exact .s3N ((hv _ (by simp[opsA])).trans hx) ((hv _ (by simp[opsA])).trans hh) ((hv _ (by simp[opsA])).trans hq)
 | @ap3 e r len x y rows ry My hx hr hl hft hy hy0 hM h63 hb hs=>exact .ap3 ((hv _ (by simp[opsA])).trans hx) ((h1 r (refsO_mem (x:=x) rfl (by simp[opsA]) (by rw[hx];simp[refs]))).trans hr) hl hft (hy.local (hv _ (by simp[opsA])) (hO rfl _ (by simp[opsA]))) hy0 hM h63 hb ((hσ s (by simp)).trans hs)
 |mk hs=>exact .mk ((hσ s (by simp)).trans hs)
 | @mu m x y r es k v hm hr hk hw hn=>exact .mu ((hv _ (by simp[opsA])).trans hm) ((h1 r (refsO_mem (x:=m) rfl (by simp[opsA]) (by rw[hm];simp[refs]))).trans hr) ((hv _ (by simp[opsA])).trans hk) ((hv _ (by simp[opsA])).trans hw) hn
 | @lk m x r es k hm hr hk=>exact .lk ((hv _ (by simp[opsA])).trans hm) ((h1 r (refsO_mem (x:=m) rfl (by simp[opsA]) (by rw[hm];simp[refs]))).trans hr) ((hv _ (by simp[opsA])).trans hk)
 |slN hx hq hl=>exact .slN ((hv _ (by simp[opsA])).trans hx) (hq.local (λy hy=>hv y (by simp[opsA,hy]))) (hl.local (λy hy=>hv y (by simp[opsA,hy])))
 |apz hx hy h0 h63 hb hs=>exact .apz ((hv _ (by simp[opsA])).trans hx) ((hv _ (by simp[opsA])).trans hy) h0 h63 hb ((hσ s (by simp)).trans hs)
 |aps hx hy hM h63 hb hs=>exact .aps (hx.local (hv _ (by simp[opsA])) (hO rfl _ (by simp[opsA]))) ((hv _ (by simp[opsA])).trans hy) hM h63 hb ((hσ s (by simp)).trans hs)
 |cl hsem hσc hρ hβ hp hs hI hb hcase=>
  rename_i f n xs vs β σc σo vo
  have hxs:xs.map (val fr')=xs.map (val fr):=List.map_congr_left (λx hx=>hv x (by simpa[opsA]using hx))
  refine .cl hsem ?_ hρ hβ ?_ ?_ hI hb hcase
  ·rw[<-hσc]
   exact pickFrom_local (λr hr=>hσ r (.inl (.inr hr)))
  ·rw[hxs]
   exact hp.local h1
  grind [back_mem]
 |cx hf hsem hσc hρ hβ hp hs hI hb hcase=>
  rename_i f n x xs caps vs β σc σo vo
  have hxs:xs.map (val fr')=xs.map (val fr):=List.map_congr_left (λy hy=>hv y (by simp[opsA,hy]))
  refine .cx ((hv x (by simp[opsA])).trans hf) hsem ?_ hρ hβ ?_ ?_ hI hb hcase
  ·rw[<-hσc]
   exact pickFrom_local (λr hr=>hσ r (.inl (.inr hr)))
  ·rw[hxs]
   refine hp.local (λr hr=> ?_)
   have happ:∀(a b:List V)(r:Nat),r∈refsL (a++b)->r∈refsL a\/r∈refsL b:=by
    intro a b r
    induction a with
    |nil=>exact λh=>.inr h
    |cons q a ih=>
     grind [refsL]
   rcases happ _ _ r hr with hr|hr
   ·exact h1 r (by rw[refsO_eq rfl];simp only[opsA,List.map_cons,refsL,List.mem_append];exact .inr hr)
   ·exact h1 r (by rw[refsO_eq rfl];simp only[opsA,List.map_cons,refsL,List.mem_append,hf,refs];exact .inl hr)
  grind [back_mem]
end
end Go.Proofs.YtmcbbifeekhmgaaGreatDoor.Pe
