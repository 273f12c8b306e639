/- Numbers divided, shifted, bit by bit; bytes and texts. -/
import Derived.Test.YtehknbpmpbghhaaPeMem8
import Derived.Laws.BytesString
import Derived.Lib.ConvBytes
namespace Go.Proofs.Ytehknbpmpbghhaa.Pe
open Go Go.RowKit
set_option linter.unusedVariables false
set_option linter.unusedSimpArgs false

/-- What an operation on two numbers of a kind yields. -/
def intD (op : BinOp) (k : IntKind) (m n : Int) : Option Int := match op with
  | .quo => if n = 0 then none else some (k.wrap (m.tdiv n))
  | .rem => if n = 0 then none else some (m.tmod n)
  | .and => some (k.wrap ((BitVec.ofInt k.bits m &&& BitVec.ofInt k.bits n).toNat))
  | .or => some (k.wrap ((BitVec.ofInt k.bits m ||| BitVec.ofInt k.bits n).toNat))
  | .xor => some (k.wrap ((BitVec.ofInt k.bits m ^^^ BitVec.ofInt k.bits n).toNat))
  | _ => none
def intSh (op : BinOp) (k : IntKind) (m n : Int) : Option Int := match op with
  | .shl => if n < 0 then none else some (k.wrap (m * 2 ^ (min n.toNat k.bits)))
  | .shr => if n < 0 then none else some (m.fdiv (2 ^ (min n.toNat k.bits)))
  | _ => none

section
variable {P : Program} {B : Begin} {N : Nat} {fr : Fr} {σ : St} {j : Nat → Hd} {L : Nat → List Nat} {S : Nat → Prop} {a : Act} {w : World} {o : Oper}

theorem do_bin (h : Rel P B N fr σ j L S a w) {op : BinOp} {t u : TypeId} {x y : Operand} (ho : o.op = .binOp op t x y u) {x' y' : A} (hx : aOf P t x = some x') (hy : aOf P u y = some y')
    {k : IntKind} {m n r : Int} (hv : val fr x' = .c (.i k m)) (hv' : val fr y' = .c (.i k n)) (hr : intD op k m n = some r) : Does P B N fr σ a w o (.c (.i k r)) := by
  have hvx := aOf_rel h hx
  have hvy := aOf_rel h hy
  rw [hv] at hvx
  rw [hv'] at hvy
  simp only [VRel] at hvx hvy
  generalize hax : a.eval x = vx at *
  generalize hay : a.eval y = vy at *
  cases hvx
  cases hvy
  refine Does.value (j' := j) (L' := L) (S' := S) (u := .int k r) ?_ h (by simp only [VRel]; exact .i _ _)
  have hb : (binOp op t (.int k m) (.int k n)).run P w = .ok (.int k r) w := by
    cases op <;> simp only [intD, reduceCtorEq, Option.some.injEq] at hr
    case quo =>
      split at hr <;> simp only [reduceCtorEq, Option.some.injEq] at hr
      rename_i hn
      subst hr
      simp [binOp, Op.intDiv, hn]
    case rem =>
      split at hr <;> simp only [reduceCtorEq, Option.some.injEq] at hr
      rename_i hn
      subst hr
      simp [binOp, Op.intDiv, hn]
    all_goals (subst hr; simp [binOp, Op.intBits])
  have hg : (eqGuard op t x y (.int k m) (.int k n)).run P w = .ok () w := by
    unfold eqGuard
    cases op <;> simp [intD] at hr ⊢
  simp only [execOp, ho, hax, hay, Sem.run_bind, hg, Result.andThen_ok, hb, Sem.run_pure]
theorem do_sh (h : Rel P B N fr σ j L S a w) {op : BinOp} {t u : TypeId} {x y : Operand} (ho : o.op = .binOp op t x y u) {x' y' : A} (hx : aOf P t x = some x') (hy : aOf P u y = some y')
    {k k' : IntKind} {m n r : Int} (hv : val fr x' = .c (.i k m)) (hv' : val fr y' = .c (.i k' n)) (hr : intSh op k m n = some r) : Does P B N fr σ a w o (.c (.i k r)) := by
  have hvx := aOf_rel h hx
  have hvy := aOf_rel h hy
  rw [hv] at hvx
  rw [hv'] at hvy
  simp only [VRel] at hvx hvy
  generalize hax : a.eval x = vx at *
  generalize hay : a.eval y = vy at *
  cases hvx
  cases hvy
  refine Does.value (j' := j) (L' := L) (S' := S) (u := .int k r) ?_ h (by simp only [VRel]; exact .i _ _)
  have hb : (binOp op t (.int k m) (.int k' n)).run P w = .ok (.int k r) w := by
    cases op <;> simp only [intSh, reduceCtorEq] at hr
    all_goals
      split at hr <;> simp only [reduceCtorEq, Option.some.injEq] at hr
      rename_i hn
      subst hr
      simp [binOp, Op.shift, hn]
  have hg : (eqGuard op t x y (.int k m) (.int k' n)).run P w = .ok () w := by
    unfold eqGuard
    cases op <;> simp [intSh] at hr ⊢
  simp only [execOp, ho, hax, hay, Sem.run_bind, hg, Result.andThen_ok, hb, Sem.run_pure]

theorem cs_bytes : ∀ {ns : List Int} {vals : List Value} {L0 : List Nat}, CsRel P w S (ns.map fun n => [C.i .u8 n]).flatten vals L0 → vals = ns.map (Value.int .u8)
  | [], vals, L0, h => by simp only [List.map_nil, List.flatten_nil] at h; cases h; rfl
  | n :: ns, vals, L0, h => by
    simp only [List.map_cons, List.flatten_cons, List.cons_append, List.nil_append] at h
    cases h with
    | cons _ _ v vs L1 L2 h1 h2 =>
      cases h1
      rw [cs_bytes h2]
      rfl
theorem do_sb (h : Rel P B N fr σ j L S a w) {t u : TypeId} {x : Operand} (ho : o.op = .convert t u x) {e0 : Nat} (ht : P.underlying t = some (.slice e0)) (he : P.underlying e0 = some (.int .u8)) (hu : P.underlying u = some .string) {x' : A} (hx : aOf P t x = some x')
    {e : Nat} {ns : List Int} (ha : Adds fr σ x' e (ns.map fun n => [C.i .u8 n]) []) : Does P B N fr σ a w o (.c (.s (bytesOfRows ns))) := by
  obtain ⟨Ad, cc, vals, Ly, q1, q2, q3, q4, q5, _⟩ := ha.rel h (aOf_rel h hx)
  obtain rfl := cs_bytes q4
  refine Does.value (j' := j) (L' := L) (S' := S) (u := .string (bytesOfRows ns)) ?_ h (by simp only [VRel]; exact .s _)
  have hcv := run_convert_bytes_string (P := P) w t u e0 Ad (ns.map fun n => [C.i .u8 n]).length cc ht he hu
  have hbs : (Conv.bytesToString (.slice Ad (ns.map fun n => [C.i .u8 n]).length cc)).run P w = .ok (.string (bytesOfRows ns)) w := by
    cases Ad with
    | none =>
      have : ns = [] := by
        have := (q2 rfl).2
        simpa using this
      subst this
      simp [Conv.bytesToString, bytesOfRows]
    | some ad =>
      refine run_bytesToString w ad _ cc ns ?_
      have := run_loadCells_list (P := P) (w := w) ad (ns.map (Value.int .u8)) (fun k v hk => q3 ad rfl k v hk)
      simpa using this
  simp only [execOp, ho, q1, Sem.run_bind, hcv, hbs, Result.andThen_ok, Sem.run_pure]
end
end Go.Proofs.Ytehknbpmpbghhaa.Pe
