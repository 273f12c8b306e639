/- Opening an argument of any type: whatever can be read as data at a type reads as a value of the type's kind (numbers, texts, slices, structs in each other). No condition. -/
import Derived.Deep.Slices
import Derived.Deep.Fields
import Derived.ChangeArms
import Derived.OpenShut
import Derived.DataReads
import Derived.Test.YtebbgdjmplceiaaWWords
namespace Go.Proofs.Ytebbgdjmplceiaa.Open
open Go Go.RowKit Go.Deep Go.ChangeShapes Go.WideShapes Go.Proofs.YtebbgdjmplceiaaW.PrintWords

/-- What reads at the type t reads as the kind d, and is as wf says. -/
structure Opens {α : Type} (P : Program) (t : TypeId) (d : Kd α) (wf : α → Prop) : Prop where
  sz_ : P.cellsOf t = d.sz
  at_ : ∀ {H : Type} (enc : TypeId × Value → H) (w : World) (fuel : Nat) (cs : List Value) (x : DataW H × List MemPlace),
    DataW.trod enc P w 0 (fun _ => true) true fuel t cs = some x → ∃ a, d.K w a cs ∧ wf a

theorem opens_int {P : Program} {t : TypeId} {k : IntKind} (ht : P.underlying t = some (.int k)) (hC : P.cellsOf t = 1) : Opens P t (Kd.int k) (fun n => (Lit.int k n).wf = true) :=
  ⟨hC, fun enc w fuel cs x h => by
    obtain ⟨n, rfl, _, hw⟩ := DataW.trod_int ht h
    exact ⟨n, rfl, hw⟩⟩
theorem opens_bool {P : Program} {t : TypeId} (ht : P.underlying t = some .bool) (hC : P.cellsOf t = 1) : Opens P t Kd.bool (fun _ => True) :=
  ⟨hC, fun enc w fuel cs x h => by
    obtain ⟨n, rfl, _⟩ := DataW.trod_bool ht h
    exact ⟨n, rfl, trivial⟩⟩
theorem opens_string {P : Program} {t : TypeId} (ht : P.underlying t = some .string) (hC : P.cellsOf t = 1) : Opens P t Kd.string (fun s => s.size ≤ maxLen) :=
  ⟨hC, fun enc w fuel cs x h => by
    obtain ⟨s, rfl, _, hs⟩ := DataW.trod_string ht h
    exact ⟨s, rfl, hs⟩⟩

theorem opens_slice {α : Type} {P : Program} {t e : TypeId} {d : Kd α} {wf : α → Prop} (ht : P.underlying t = some (.slice e)) (hC : P.cellsOf t = 1) (he : Opens P e d wf) :
    Opens P t (Kd.slice e d) (fun xs => xs.length ≤ maxLen ∧ ∀ x ∈ xs, wf x) :=
  ⟨hC, fun enc w fuel cs x h => by
    rcases open_slice ht h with ⟨rfl, _⟩ | ⟨a, len, cap, m, n, D, Pl, rfl, _, hl, hm, hmm, _, hi⟩
    · exact ⟨[], ⟨none, 0, rfl, Nat.le_refl _, Kd.C_nil d w⟩, by simp, by simp⟩
    · have hmc : m = cap := by simpa using hmm
      have hex : ∀ i : Fin len, ∃ y : α, ∃ cs', w.cells? 0 (a.add (i.val * P.cellsOf e)) (P.cellsOf e) = some cs' ∧ d.K w y cs' ∧ wf y := by
        intro i
        obtain ⟨cs', h1, h2⟩ := hi i.val (by have := i.isLt; omega)
        obtain ⟨y, hy, hw⟩ := he.at_ enc w _ _ _ h2
        exact ⟨y, cs', h1, hy, hw⟩
      obtain ⟨f, hf⟩ := Classical.axiomOfChoice hex
      have hlen : (List.ofFn f).length = len := List.length_ofFn
      refine ⟨List.ofFn f, ⟨some a, cap, by rw [hlen], by rw [hlen]; exact hl, ?_⟩, by rw [hlen]; omega, ?_⟩
      · rw [hlen]
        refine ⟨hlen, by simp only [maxLen] at hm; omega, fun _ => ⟨a, rfl, fun j p hj => ?_⟩⟩
        have hjl : j < len := by
          have := (List.getElem?_eq_some_iff.1 hj).1
          omega
        obtain ⟨cs', h1, h2, _⟩ := hf ⟨j, hjl⟩
        obtain ⟨_, hcl, hat⟩ := World.cells?_some h1
        have hp : p = f ⟨j, hjl⟩ := by
          rw [List.getElem?_ofFn] at hj
          simp only [hjl, dite_true, Option.some.injEq] at hj
          exact hj.symm
        subst hp
        refine ⟨cs', by rw [hcl]; exact he.sz_, h2, fun i u hu => ?_⟩
        have hil : i < P.cellsOf e := by
          have := (List.getElem?_eq_some_iff.1 hu).1
          omega
        have h3 := hat i hil
        rw [Go.Deep.add_add, he.sz_] at h3
        rw [h3]
        exact hu
      · intro y hy
        obtain ⟨i, rfl⟩ := List.mem_ofFn.1 hy
        exact (hf i).choose_spec.2.2⟩

/-- The fields of a struct from one on, the first of them at the cell off. -/
structure OpensF {α : Type} (P : Program) (fs : List Field) (off : Nat) (d : Kd α) (wf : α → Prop) : Prop where
  at_ : ∀ {H : Type} (enc : TypeId × Value → H) (w : World) (fuel : Nat) (cs : List Value),
    (∀ f ∈ fs, ∃ y, DataW.trod enc P w 0 (fun _ => true) true fuel f.type ((cs.drop f.offset).take (P.cellsOf f.type)) = some y) → off + d.sz ≤ cs.length → ∃ a, d.K w a ((cs.drop off).take d.sz) ∧ wf a

theorem opensF_one {α : Type} {P : Program} {f : Field} {off : Nat} {d : Kd α} {wf : α → Prop} (ho : f.offset = off) (h : Opens P f.type d wf) : OpensF P [f] off d wf := by
  refine ⟨fun {H} enc w fuel cs hf _ => ?_⟩
  obtain ⟨y, hy⟩ := hf f (by simp)
  rw [ho, h.sz_] at hy
  exact h.at_ enc w fuel _ y hy
theorem opensF_cons {α β : Type} {P : Program} {f : Field} {fs : List Field} {off : Nat} {d : Kd α} {d' : Kd β} {wf : α → Prop} {wf' : β → Prop} (ho : f.offset = off) (h : Opens P f.type d wf) (hs : OpensF P fs (off + d.sz) d' wf') :
    OpensF P (f :: fs) off (Kd.pair d d') (fun x => wf x.1 ∧ wf' x.2) := by
  refine ⟨fun {H} enc w fuel cs hf hl => ?_⟩
  obtain ⟨y, hy⟩ := hf f (by simp)
  rw [ho, h.sz_] at hy
  obtain ⟨a, ha, hwa⟩ := h.at_ enc w fuel _ y hy
  have hl' : off + (d.sz + d'.sz) ≤ cs.length := hl
  obtain ⟨b, hb, hwb⟩ := hs.at_ enc w fuel cs (fun g hg => hf g (by simp [hg])) (by omega)
  refine ⟨(a, b), ⟨(cs.drop off).take d.sz, (cs.drop (off + d.sz)).take d'.sz, ?_, ha, hb⟩, hwa, hwb⟩
  show (cs.drop off).take (d.sz + d'.sz) = _
  rw [List.take_add, List.drop_drop]
theorem opens_struct {α β : Type} {P : Program} {t : TypeId} {fs : Array Field} {l : List Field} {d : Kd α} {wf : α → Prop} (ht : P.underlying t = some (.struct fs)) (hl : fs.toList = l) (hC : P.cellsOf t = d.sz) (h : OpensF P l 0 d wf) (g : β → α) (gi : α → β) (hg : ∀ a, g (gi a) = a) :
    Opens P t (Kd.iso d g) (fun b => wf (g b)) :=
  ⟨hC, fun enc w fuel cs x hx => by
    obtain ⟨xs, n, _, _, hcl, hxl, hi⟩ := DataW.trod_struct ht hx
    have hf : ∀ f ∈ l, ∃ y, DataW.trod enc P w 0 (fun _ => true) true n f.type ((cs.drop f.offset).take (P.cellsOf f.type)) = some y := by
      intro f hf
      rw [← hl] at hf
      obtain ⟨i, hi', hif⟩ := List.getElem_of_mem hf
      have h1 : fs[i]? = some f := by
        rw [Array.getElem?_eq_some_iff]
        exact ⟨by simpa using hi', by simpa using hif⟩
      have h2 := hi i f h1
      rw [List.getElem?_eq_getElem (by rw [hxl]; simpa using hi')] at h2
      exact ⟨_, h2⟩
    obtain ⟨a, ha, hw⟩ := h.at_ enc w n cs hf (by omega)
    have hall : (cs.drop 0).take d.sz = cs := by
      rw [List.drop_zero, List.take_of_length_le (by omega)]
    rw [hall] at ha
    refine ⟨gi a, ?_, ?_⟩
    · show d.K w (g (gi a)) cs
      rw [hg]
      exact ha
    · show wf (g (gi a))
      rw [hg]
      exact hw⟩

/-- At an argument. -/
theorem opens_arg {α : Type} {P : Program} {t : TypeId} {d : Kd α} {wf : α → Prop} (h : Opens P t d wf) {H : Type} {enc : TypeId × Value → H} {w : World} {v : Value} {x : DataW H} {p : List MemPlace}
    (hv : DataW.Trod enc P w 0 (fun _ => true) true t v x p) : ∃ a, d.K w a v.cells.toList ∧ wf a := by
  obtain ⟨fuel, hf⟩ := hv
  exact h.at_ enc w fuel _ _ hf
end Go.Proofs.Ytebbgdjmplceiaa.Open
