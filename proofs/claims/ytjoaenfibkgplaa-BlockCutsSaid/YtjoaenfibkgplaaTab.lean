/- A table that a function writes out: row after row built, laid into one block. -/
import Derived.Test.YtjoaenfibkgplaaKit
import Derived.Deep.WholeRow
namespace Go.Cq
set_option linter.unusedSimpArgs false
open Go Go.RowKit

/-- So many rows built, one behind the other; what the slots hold then. -/
def builds (P : Program) : Nat → List Oper → Array Value → Option (Array Value)
  | 0, _, tmps => some tmps
  | _ + 1, [], _ => none
  | n + 1, o :: rest, tmps =>
    match o.guard, o.op, o.dst with
    | none, .build t parts, some d =>
      match P.built t (parts.map fun (i, x) => (i, (Act.mk tmps []).eval x)).toList with
      | some cs => builds P n rest (tmps.setIfInBounds d (.agg cs))
      | none => none
    | _, _, _ => none

theorem eval_any (tmps : Array Value) (d d' : List Deferred) (x : Operand) : (Act.mk tmps d).eval x = (Act.mk tmps d').eval x := by cases x <;> rfl

theorem wpList_builds {P : Program} {ops : Array Oper} {Q : Exit → Act → World → Prop} {w : World} {df : List Deferred} (n : Nat) : ∀ (l : List Oper) (tmps T : Array Value), builds P n l tmps = some T →
    wpList P ops Q (l.drop n) ⟨T, df⟩ w → wpList P ops Q l ⟨tmps, df⟩ w := by
  induction n with
  | zero =>
    intro l tmps T h hK
    simp only [builds, Option.some.injEq] at h
    subst h
    simpa using hK
  | succ n ih =>
    intro l tmps T h hK
    cases l with
    | nil => simp [builds] at h
    | cons o rest =>
      simp only [builds] at h
      split at h
      · rename_i t parts d hg ho hd
        split at h
        · rename_i cs hcs
          have e : (parts.map fun (i, x) => (i, (Act.mk tmps df).eval x)) = (parts.map fun (i, x) => (i, (Act.mk tmps []).eval x)) := by
            congr 1
          refine wpList_build hg t parts ho (by rw [e, hcs]; rfl) ?_
          rw [e, hcs]
          have := ih rest _ T h (by simpa using hK)
          simpa [Act.put, hd] using this
        · simp at h
      · simp at h

/-- Rows built, then what two slots hold: the table, and where it is to lie. -/
theorem wpList_table {P : Program} {ops : Array Oper} {Q : Exit → Act → World → Prop} {w : World} {df : List Deferred} (n : Nat) (l : List Oper) (tmps : Array Value) (s p : Nat) (c v : Value)
    (h : (builds P n l tmps).map (fun T => (T.getD s undef, T.getD p undef)) = some (c, v))
    (hK : ∀ T : Array Value, T.getD s undef = c → T.getD p undef = v → wpList P ops Q (l.drop n) ⟨T, df⟩ w) : wpList P ops Q l ⟨tmps, df⟩ w := by
  obtain ⟨T, hT, e⟩ := Option.map_eq_some_iff.1 h
  simp only [Prod.mk.injEq] at e
  exact wpList_builds n l tmps T hT (hK T e.1 e.2)
end Go.Cq
