/- Functions whose meaning is known out of a contract over the model's own memory: told by content. -/
import Derived.Test.YteoobblblpljfaaDoorPeNorm
import Derived.Test.YteoobblblpljfaaDoorPeTy
import Derived.Sort.Grow
import Derived.Deep.Draws
import Derived.Shelf.Strconv.Itoa3
import Derived.Shelf.Small.Strs
namespace Go.Proofs.YteoobblblpljfaaDoor.Pe
open Go Go.RowKit Go.Sort

section
variable {P : Program} {σ : St} {j : Nat → Hd} {L : Nat → List Nat} {S : Nat → Prop} {w w' : World}

/-- Nothing of what was there has turned. -/
structure Kept (w w' : World) : Prop where
  os : w'.os = w.os
  tape : w'.tape = w.tape
  output : w'.output = w.output
  size : w.heap.size ≤ w'.heap.size
  heap : ∀ b, b < w.heap.size → w'.heap[b]? = w.heap[b]?
theorem Kept.refl (w : World) : Kept w w := ⟨rfl, rfl, rfl, Nat.le_refl _, fun _ _ => rfl⟩
theorem Kept.grow (w : World) (k : Nat) (os : Array Obj) : Kept w (grow (w.drewN k) os) :=
  ⟨rfl, rfl, rfl, by show _ ≤ (_ ++ os).size; simp, fun _ hb => heap_grow_old (w.drewN k) os hb⟩
theorem Mem.kept (h : Mem P σ j L S w) (hk : Kept w w') : Mem P σ j L S w' where
  roots r := (h.roots r).same (fun _ _ => rfl) rfl (fun b hb => ⟨hb, hk.heap b (h.stab b hb)⟩) (fun b hb => hk.heap b (h.owned r b hb).1)
  nodup := h.nodup
  disj := h.disj
  owned r b hb := ⟨Nat.lt_of_lt_of_le (h.owned r b hb).1 hk.size, (h.owned r b hb).2⟩
  stab b hb := Nat.lt_of_lt_of_le (h.stab b hb) hk.size

/-- A value that lies in no memory. -/
def flatV : V → Bool
  | .c (.b _) => true
  | .c (.i _ _) => true
  | .c (.s _) => true
  | _ => false
theorem flatV_any {x : V} (hx : flatV x = true) {v : Value} (h : VRel P j w S x v) {j' : Nat → Hd} {S' : Nat → Prop} : VRel P j' w' S' x v := by
  unfold flatV at hx
  split at hx
  · simp only [VRel] at h ⊢; cases h; exact .b _
  · simp only [VRel] at h ⊢; cases h; exact .i _ _
  · simp only [VRel] at h ⊢; cases h; exact .s _
  · cases hx

/-- A function that turns nothing, told by a contract. -/
theorem Says.of_kept {f : Nat} {vs : List V} {vo : V} (hen : ∀ args w, (callFunc f args).run P w = .ok (.enter f args) w)
    (h : ∀ (w : World) (S : Nat → Prop) (j : Nat → Hd) (args : List Value), GlbOk w (fun _ => False) → VsRel P j w S vs args → Calls P f args.toArray w fun e w' => (∃ v, e = .returned v ∧ VRel P j w' S vo v) ∧ Kept w w') : Says P f vs 0 [] vo [] := by
  refine ⟨hen, fun j L S w args hm hj ha hg => ?_⟩
  refine (h w S j args (fun t ht => ⟨id, (hg t ht).2⟩) ha).mono ?_
  rintro e w' ⟨⟨v, rfl, hv⟩, hk⟩
  refine ⟨v, j, L, S, rfl, hv, hm.kept hk, ?_⟩
  exact ⟨fun r b hb => .inl ⟨r, hb⟩, fun b hb => .inl hb, fun b hb => hb, fun r hr => rfl, hk.os, hk.tape, hk.output, hk.size, fun b hb _ => hk.heap b hb⟩
theorem vs1 {x : V} {args : List Value} (h : VsRel P j w S [x] args) : ∃ u, args = [u] ∧ VRel P j w S x u := by
  simp only [VsRel] at h
  obtain ⟨u, us, rfl, h1, rfl⟩ := h
  exact ⟨u, rfl, h1⟩
theorem vs2 {x y : V} {args : List Value} (h : VsRel P j w S [x, y] args) : ∃ u v, args = [u, v] ∧ VRel P j w S x u ∧ VRel P j w S y v := by
  simp only [VsRel] at h
  obtain ⟨u, us, rfl, h1, v, vs, rfl, h2, rfl⟩ := h
  exact ⟨u, v, rfl, h1, h2⟩

/-- The table of the powers of ten is there. -/
theorem glb_tab {g : Nat} {name : String} {k : IntKind} {zs : List Int} (hg : GlbOk w (fun _ => False)) (hn : P.globalNamed name = some g)
    (ht : ∀ (t : Nat × (Obj → Prop)), t ∈ globTabs → t.1 = g → ∀ o, t.2 o → ∃ e z, o = .cells ((zs.map fun z => Value.int k z).toArray) e z) (hm : ∃ t ∈ globTabs, t.1 = g) : Lib.TabIs P w name k zs := by
  obtain ⟨t, h1, rfl⟩ := hm
  obtain ⟨_, o, h2, h3⟩ := hg t h1
  obtain ⟨e, z, rfl⟩ := ht t h1 rfl o h3
  unfold Lib.TabIs World.var?
  rw [hn]
  simp [h2]

/-- strconv.Itoa. -/
def itoa? (n : Int) : Option ByteArray := if -9223372036854775808 ≤ n ∧ n ≤ 9223372036854775807 then some ⟨(Lib.itoa n).toArray⟩ else none
theorem says_itoa {f : Nat} (hen : ∀ args w, (callFunc f args).run P w = .ok (.enter f args) w)
    (hc : ∀ (n : Int), -9223372036854775808 ≤ n → n ≤ 9223372036854775807 → ∀ w, Lib.TabIs P w "internal/strconv.uint64pow10" .u64 Lib.pow10Tab → Calls P f #[.int .i64 n] w fun e w' => e = .returned (.string ⟨(Lib.itoa n).toArray⟩) ∧ ∃ k os, w' = grow (w.drewN k) os)
    {g : Nat} (hn : P.globalNamed "internal/strconv.uint64pow10" = some g) (ht : ∀ (t : Nat × (Obj → Prop)), t ∈ globTabs → t.1 = g → ∀ o, t.2 o → ∃ e z, o = .cells ((Lib.pow10Tab.map fun z => Value.int .u64 z).toArray) e z) (hm : ∃ t ∈ globTabs, t.1 = g)
    {n : Int} {r : ByteArray} (h : itoa? n = some r) : Says P f [VI n] 0 [] (VS r) [] := by
  unfold itoa? at h
  split at h
  · rename_i hb
    obtain rfl := someO h
    refine Says.of_kept hen fun w S j args hg ha => ?_
    obtain ⟨u, rfl, hu⟩ := vs1 ha
    simp only [VRel] at hu
    cases hu
    refine (hc n hb.1 hb.2 w (glb_tab hg hn ht hm)).mono ?_
    rintro e w' ⟨rfl, k, os, rfl⟩
    exact ⟨⟨_, rfl, by simp only [VRel]; exact .s _⟩, Kept.grow w k os⟩
  · cases h

/-- strings.Compare. -/
theorem says_compare {f : Nat} (hen : ∀ args w, (callFunc f args).run P w = .ok (.enter f args) w)
    (hc : ∀ (a b : ByteArray) (w : World), Calls P f #[.string a, .string b] w fun e w' => e = .returned (.int .i64 (Lib.compareBytes a.data.toList b.data.toList)) ∧ w' = w)
    {a b : ByteArray} {r : Int} (h : some (Lib.compareBytes a.data.toList b.data.toList) = some r) : Says P f [VS a, VS b] 0 [] (VI r) [] := by
  obtain rfl := someO h
  refine Says.of_kept hen fun w S j args hg ha => ?_
  obtain ⟨u, v, rfl, hu, hv⟩ := vs2 ha
  simp only [VRel] at hu hv
  cases hu
  cases hv
  refine (hc a b w).mono ?_
  rintro e w' ⟨rfl, rfl⟩
  exact ⟨⟨_, rfl, by simp only [VRel]; exact .i _ _⟩, Kept.refl w'⟩
end
end Go.Proofs.YteoobblblpljfaaDoor.Pe
