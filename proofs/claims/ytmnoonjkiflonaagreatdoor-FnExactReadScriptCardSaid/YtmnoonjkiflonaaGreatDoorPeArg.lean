import Derived.Deep.Slices
import Derived.Deep.Fields
import Derived.ChangeArms
import Derived.OpenShut
import Derived.DataReads
import Derived.Below
import Derived.Test.YtmnoonjkiflonaaGreatDoorPeTy
namespace Go.Proofs.YtmnoonjkiflonaaGreatDoor.Pe
open Go Go.RowKit Go.Deep Go.ChangeShapes Go.WideShapes
abbrev old (w : World) (b : Nat) : Prop := b < w.heap.size
structure Opn {α : Type} (P : Program) (t : TypeId) (f : α → List C) (wf : α → Prop) : Prop where
 at_ : ∀ {H : Type} (enc : TypeId × Value → H) (w : World) (fuel : Nat) (cs : List Value) (x : DataW H × List MemPlace),
  DataW.trod enc P w 0 (fun _ => true) true fuel t cs = some x → ∃ a,CsRel P w (old w) (f a) cs [] ∧ wf a
theorem cs_one {P : Program} {w : World} {S : Nat → Prop} {c : C} {v : Value} (h : CRel P w S c v []) : CsRel P w S [c] [v] [] := by
 simpa using CsRel.cons c [] v [] [] [] h .nil
theorem opn_string {P : Program} {t : TypeId} (ht : P.underlying t = some .string) : Opn P t (fun n => [.s n]) (fun s => s.size ≤ maxLen) :=
 ⟨fun enc w fuel cs x h => by
  obtain ⟨s,rfl,_,hs⟩ := DataW.trod_string ht h
  exact ⟨s,cs_one (.s s),hs⟩⟩
structure OpnF {α : Type} (P : Program) (fs : List Field) (off z : Nat) (f : α → List C) (wf : α → Prop) : Prop where
 at_ : ∀ {H : Type} (enc : TypeId × Value → H) (w : World) (fuel : Nat) (cs : List Value),
  (∀ f ∈ fs,∃ y,DataW.trod enc P w 0 (fun _ => true) true fuel f.type ((cs.drop f.offset).take (P.cellsOf f.type)) = some y) → off + z ≤ cs.length → ∃ a,CsRel P w (old w) (f a) ((cs.drop off).take z) [] ∧ wf a
theorem law_calls {P : Program} {f : Nat} {vs : List V} {b : Bool} (h : Says P f vs 0 [] (.c (.b b)) []) {w : World} (hg : GlbOk w fun _ => False) {args : Array Value} (ha : VsRel P (fun _ => .no) w (old w) vs args.toList) : Calls P f args w fun e w' => e = .returned (.bool b) ∧ Below w.heap.size w w' := by
 have hm : Mem P [] (fun _ => .no) (fun _ => []) (old w) w := ⟨fun r => ⟨rfl,rfl⟩,fun _ => .nil,fun _ _ _ h => by simp at h,fun _ _ h => by simp at h,fun b hb => hb⟩
 have := h.2 (fun _ => .no) (fun _ => []) (old w) w args.toList hm (fun _ _ => ⟨rfl,rfl⟩) ha (fun t ht => ⟨fun hr => by obtain ⟨r,hr⟩ := hr; simp at hr,(hg t ht).2⟩)
 rw [show args.toList.toArray = args by simp] at this
 refine this.mono ?_
 rintro e w' ⟨v,j',L',S',rfl,hv,_,hs⟩
 simp only [VRel] at hv
 cases hv
 exact ⟨rfl,hs.os,hs.tape,hs.output,hs.heap,fun k hk => hs.frame k hk (by rintro ⟨r,hr⟩; simp at hr)⟩
end Go.Proofs.YtmnoonjkiflonaaGreatDoor.Pe
