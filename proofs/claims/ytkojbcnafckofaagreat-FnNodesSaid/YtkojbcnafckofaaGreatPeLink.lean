import Derived.Test.YtkojbcnafckofaaGreatPeMem9
namespace Go.Proofs.YtkojbcnafckofaaGreat.Pe
open Go Go.RowKit
section
variable {P : Program} {B : Begin} {N : Nat} {fr : Fr} {σ : St} {j : Nat → Hd} {L : Nat → List Nat} {S : Nat → Prop} {a : Act} {w : World} {o : Oper}
theorem Mem.lnkAt (h : Mem P σ j L S w) {r e i : Nat} {rows : List (List C)} {cs : List C} {ls : List (Nat × Nat)} (hr : root σ r = .lnk e rows i cs ls) : RootRel P j w S r (.lnk e rows i cs ls) (L r) := by
 have := h.roots r
 rwa [hr] at this
theorem Rel.two (h : Rel P B N fr σ j L S a w) (r s : Nat) (hrs : r ≠ s) (x y : Rt) (Lx Ly : List Nat) (hd : Hd) (hs0 : j s ≠ .no → hd = j s) (hsm : s < B.m → hd = j s)
  (hx : RootRel P (updj j s hd) w S r x Lx) (hy : RootRel P (updj j s hd) w S s y Ly) (hnx : Lx.Nodup) (hny : Ly.Nodup) (hdd : ∀ b ∈ Lx,b ∉ Ly) (ho : ∀ b,b ∈ Lx ∨ b ∈ Ly → b ∈ L r ∨ b ∈ L s) :
  Rel P B N fr ((s,y) :: (r,x) :: σ) (updj j s hd) (fun k => if k = s then Ly else if k = r then Lx else L k) S a w where
 size := h.size
 defers := h.defers
 slots t := (h.slots t).same (fun b hb => ⟨hb,rfl⟩) (updj_same hs0)
 mem := by
  refine h.mem.turn (fun k => k = r ∨ k = s) ?_ ?_ ?_ (updj_same hs0) (fun k b hk hb => ⟨rfl,(h.mem.owned k b hb).2⟩) (fun b hb => ⟨hb,rfl⟩) ?_ ?_ ?_ h.mem.stab (Nat.le_refl _)
  ·intro k hk
   simp only [not_or] at hk
   simp [root_put,hk.1,hk.2]
  ·intro k hk
   simp only [not_or] at hk
   simp [updj,hk.2]
  ·intro k hk
   simp only [not_or] at hk
   simp [hk.1,hk.2]
  ·rintro k (rfl | rfl)
   ·simpa [root_put,hrs] using hx
   ·simpa [root_put] using hy
  ·rintro k (rfl | rfl)
   ·simpa [hrs] using hnx
   ·simpa using hny
  ·intro k b hk hb
   have hb' : b ∈ Lx ∨ b ∈ Ly := by
    rcases hk with rfl | rfl
    ·left; simpa [hrs] using hb
    ·right; simpa using hb
   have hc := ho b hb'
   refine ⟨?_,?_,?_,?_⟩
   ·rcases hc with h1 | h1
    ·exact (h.mem.owned _ b h1).1
    ·exact (h.mem.owned _ b h1).1
   ·rcases hc with h1 | h1
    ·exact (h.mem.owned _ b h1).2
    ·exact (h.mem.owned _ b h1).2
   ·intro k' hk' h2
    simp only [not_or] at hk'
    rcases hc with h1 | h1
    ·exact hk'.1 (h.mem.disj k' r b h2 h1)
    ·exact hk'.2 (h.mem.disj k' s b h2 h1)
   ·intro k' hk' h2
    have hsr : s ≠ r := fun e => hrs e.symm
    rcases hk with rfl | rfl <;> rcases hk' with rfl | rfl
    ·rfl
    ·simp only [hrs,if_false,if_true] at hb h2
     exact absurd h2 (hdd b hb)
    ·simp only [hrs,if_false,if_true] at hb h2
     exact absurd hb (hdd b h2)
    ·rfl
 since :=
  { h.since with
   mine := fun k b hb => by
    have hb' : (b ∈ L r ∨ b ∈ L s) ∨ b ∈ L k := by
     split at hb
     ·exact .inl (ho b (.inr hb))
     ·split at hb
      ·exact .inl (ho b (.inl hb))
      ·exact .inr hb
    rcases hb' with (h1 | h1) | h1 <;> exact h.since.mine _ b h1
   same := fun k hk => by
    unfold updj
    split
    ·rename_i e; subst e; rw [hsm hk]; exact h.since.same k hk
    ·exact h.since.same k hk }
end
end Go.Proofs.YtkojbcnafckofaaGreat.Pe
