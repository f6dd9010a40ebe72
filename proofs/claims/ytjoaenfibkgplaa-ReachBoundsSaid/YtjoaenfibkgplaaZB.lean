/- A table that a function writes out: row after row built, laid into one block. -/
import Derived.Test.YtjoaenfibkgplaaZA
import Derived.Deep.WholeRow
import Derived.Test.YtjoaenfibkgplaaRows
import Derived.Outline
import Derived.Deep.CutBlock
import Derived.Deep.Cut
namespace Go.Cq
set_option linter.unusedSimpArgs false
open Go Go.RowKit

/-- So many rows built, one behind the other; what the slots hold then. -/
def builds (P : Program) : Nat → List Oper → Array Value → Option (Array Value)
  | 0, _, tmps => some tmps
  | _ + 1, [], _ => none
  | n + 1, o :: rest, tmps =>
    match o.guard, o.op, o.dst with
    | none, .build t parts, some d =>
      match P.built t (parts.map fun (i, x) => (i, (Act.mk tmps []).eval x)).toList with
      | some cs => builds P n rest (tmps.setIfInBounds d (.agg cs))
      | none => none
    | _, _, _ => none

theorem eval_any (tmps : Array Value) (d d' : List Deferred) (x : Operand) : (Act.mk tmps d).eval x = (Act.mk tmps d').eval x := by cases x <;> rfl

theorem wpList_builds {P : Program} {ops : Array Oper} {Q : Exit → Act → World → Prop} {w : World} {df : List Deferred} (n : Nat) : ∀ (l : List Oper) (tmps T : Array Value), builds P n l tmps = some T →
    wpList P ops Q (l.drop n) ⟨T, df⟩ w → wpList P ops Q l ⟨tmps, df⟩ w := by
  induction n with
  | zero =>
    intro l tmps T h hK
    simp only [builds, Option.some.injEq] at h
    subst h
    simpa using hK
  | succ n ih =>
    intro l tmps T h hK
    cases l with
    | nil => simp [builds] at h
    | cons o rest =>
      simp only [builds] at h
      split at h
      · rename_i t parts d hg ho hd
        split at h
        · rename_i cs hcs
          have e : (parts.map fun (i, x) => (i, (Act.mk tmps df).eval x)) = (parts.map fun (i, x) => (i, (Act.mk tmps []).eval x)) := by
            congr 1
          refine wpList_build hg t parts ho (by rw [e, hcs]; rfl) ?_
          rw [e, hcs]
          have := ih rest _ T h (by simpa using hK)
          simpa [Act.put, hd] using this
        · simp at h
      · simp at h

/-- Rows built, then what two slots hold: the table, and where it is to lie. -/
theorem wpList_table {P : Program} {ops : Array Oper} {Q : Exit → Act → World → Prop} {w : World} {df : List Deferred} (n : Nat) (l : List Oper) (tmps : Array Value) (s p : Nat) (c v : Value)
    (h : (builds P n l tmps).map (fun T => (T.getD s undef, T.getD p undef)) = some (c, v))
    (hK : ∀ T : Array Value, T.getD s undef = c → T.getD p undef = v → wpList P ops Q (l.drop n) ⟨T, df⟩ w) : wpList P ops Q l ⟨tmps, df⟩ w := by
  obtain ⟨T, hT, e⟩ := Option.map_eq_some_iff.1 h
  simp only [Prod.mk.injEq] at e
  exact wpList_builds n l tmps T hT (hK T e.1 e.2)
end Go.Cq

namespace Go.Cq
set_option linter.unusedSimpArgs false
open Go

/-- The rows of 'ins': number, form, name, code. -/
def insRows : List (Nat × Nat × List UInt8 × Nat) :=
  [(0, 0, [], 0),
   (1, 0, [97, 100, 100, 117], 33),
   (2, 0, [115, 117, 98, 117], 35),
   (3, 0, [97, 110, 100], 36),
   (4, 0, [111, 114], 37),
   (5, 0, [120, 111, 114], 38),
   (6, 0, [110, 111, 114], 39),
   (7, 0, [115, 108, 116], 42),
   (8, 0, [115, 108, 116, 117], 43),
   (9, 0, [97, 100, 100], 32),
   (10, 0, [115, 117, 98], 34),
   (11, 0, [115, 108, 108, 118], 4),
   (12, 0, [115, 114, 108, 118], 6),
   (13, 0, [115, 114, 97, 118], 7),
   (14, 0, [109, 111, 118, 122], 10),
   (15, 0, [109, 111, 118, 110], 11),
   (16, 1, [115, 108, 108], 0),
   (17, 1, [115, 114, 108], 2),
   (18, 1, [115, 114, 97], 3),
   (19, 2, [109, 117, 108, 116], 24),
   (20, 2, [109, 117, 108, 116, 117], 25),
   (21, 2, [100, 105, 118], 26),
   (22, 2, [100, 105, 118, 117], 27),
   (23, 3, [109, 102, 104, 105], 16),
   (24, 3, [109, 102, 108, 111], 18),
   (25, 4, [109, 116, 104, 105], 17),
   (26, 4, [109, 116, 108, 111], 19),
   (27, 4, [106, 114], 8),
   (28, 5, [106, 97, 108, 114], 9),
   (29, 6, [116, 103, 101], 48),
   (30, 6, [116, 103, 101, 117], 49),
   (31, 6, [116, 108, 116], 50),
   (32, 6, [116, 108, 116, 117], 51),
   (33, 6, [116, 101, 113], 52),
   (34, 6, [116, 110, 101], 54),
   (35, 7, [115, 121, 115, 99, 97, 108, 108], 12),
   (36, 7, [98, 114, 101, 97, 107], 13),
   (37, 8, [109, 117, 108], 2),
   (38, 9, [99, 108, 122], 32),
   (39, 9, [99, 108, 111], 33),
   (40, 10, [97, 100, 100, 105, 117], 9),
   (41, 10, [97, 100, 100, 105], 8),
   (42, 10, [115, 108, 116, 105], 10),
   (43, 10, [115, 108, 116, 105, 117], 11),
   (44, 11, [97, 110, 100, 105], 12),
   (45, 11, [111, 114, 105], 13),
   (46, 11, [120, 111, 114, 105], 14),
   (47, 12, [108, 117, 105], 15),
   (48, 13, [108, 98], 32),
   (49, 13, [108, 104], 33),
   (50, 13, [108, 119, 108], 34),
   (51, 13, [108, 119], 35),
   (52, 13, [108, 98, 117], 36),
   (53, 13, [108, 104, 117], 37),
   (54, 13, [108, 119, 114], 38),
   (55, 13, [115, 98], 40),
   (56, 13, [115, 104], 41),
   (57, 13, [115, 119, 108], 42),
   (58, 13, [115, 119], 43),
   (59, 13, [115, 119, 114], 46),
   (60, 14, [98, 101, 113], 4),
   (61, 14, [98, 110, 101], 5),
   (62, 15, [98, 108, 101, 122], 6),
   (63, 15, [98, 103, 116, 122], 7),
   (64, 16, [98, 108, 116, 122], 0),
   (65, 16, [98, 103, 101, 122], 1),
   (66, 16, [98, 108, 116, 122, 97, 108], 16),
   (67, 16, [98, 103, 101, 122, 97, 108], 17),
   (68, 17, [106], 2),
   (69, 17, [106, 97, 108], 3)]

/-- The rows of the document's table: number, form, o, f, name. -/
def refRows : List (Nat × Nat × Nat × Nat × List UInt8) :=
  [(1, 68, 0, 33, [97, 100, 100, 117]),
   (2, 68, 0, 35, [115, 117, 98, 117]),
   (3, 68, 0, 36, [97, 110, 100]),
   (4, 68, 0, 37, [111, 114]),
   (5, 68, 0, 38, [120, 111, 114]),
   (6, 68, 0, 39, [110, 111, 114]),
   (7, 68, 0, 42, [115, 108, 116]),
   (8, 68, 0, 43, [115, 108, 116, 117]),
   (9, 68, 0, 32, [97, 100, 100]),
   (10, 68, 0, 34, [115, 117, 98]),
   (11, 68, 0, 4, [115, 108, 108, 118]),
   (12, 68, 0, 6, [115, 114, 108, 118]),
   (13, 68, 0, 7, [115, 114, 97, 118]),
   (14, 68, 0, 10, [109, 111, 118, 122]),
   (15, 68, 0, 11, [109, 111, 118, 110]),
   (16, 72, 0, 0, [115, 108, 108]),
   (17, 72, 0, 2, [115, 114, 108]),
   (18, 72, 0, 3, [115, 114, 97]),
   (19, 77, 0, 24, [109, 117, 108, 116]),
   (20, 77, 0, 25, [109, 117, 108, 116, 117]),
   (21, 77, 0, 26, [100, 105, 118]),
   (22, 77, 0, 27, [100, 105, 118, 117]),
   (23, 70, 0, 16, [109, 102, 104, 105]),
   (24, 70, 0, 18, [109, 102, 108, 111]),
   (25, 76, 0, 17, [109, 116, 104, 105]),
   (26, 76, 0, 19, [109, 116, 108, 111]),
   (27, 76, 0, 8, [106, 114]),
   (28, 71, 0, 9, [106, 97, 108, 114]),
   (29, 84, 0, 48, [116, 103, 101]),
   (30, 84, 0, 49, [116, 103, 101, 117]),
   (31, 84, 0, 50, [116, 108, 116]),
   (32, 84, 0, 51, [116, 108, 116, 117]),
   (33, 84, 0, 52, [116, 101, 113]),
   (34, 84, 0, 54, [116, 110, 101]),
   (35, 67, 0, 12, [115, 121, 115, 99, 97, 108, 108]),
   (36, 67, 0, 13, [98, 114, 101, 97, 107]),
   (37, 88, 28, 2, [109, 117, 108]),
   (38, 89, 28, 32, [99, 108, 122]),
   (39, 89, 28, 33, [99, 108, 111]),
   (40, 73, 9, 0, [97, 100, 100, 105, 117]),
   (41, 73, 8, 0, [97, 100, 100, 105]),
   (42, 73, 10, 0, [115, 108, 116, 105]),
   (43, 73, 11, 0, [115, 108, 116, 105, 117]),
   (44, 85, 12, 0, [97, 110, 100, 105]),
   (45, 85, 13, 0, [111, 114, 105]),
   (46, 85, 14, 0, [120, 111, 114, 105]),
   (47, 86, 15, 0, [108, 117, 105]),
   (48, 80, 32, 0, [108, 98]),
   (49, 80, 33, 0, [108, 104]),
   (50, 80, 34, 0, [108, 119, 108]),
   (51, 80, 35, 0, [108, 119]),
   (52, 80, 36, 0, [108, 98, 117]),
   (53, 80, 37, 0, [108, 104, 117]),
   (54, 80, 38, 0, [108, 119, 114]),
   (55, 80, 40, 0, [115, 98]),
   (56, 80, 41, 0, [115, 104]),
   (57, 80, 42, 0, [115, 119, 108]),
   (58, 80, 43, 0, [115, 119]),
   (59, 80, 46, 0, [115, 119, 114]),
   (60, 66, 4, 0, [98, 101, 113]),
   (61, 66, 5, 0, [98, 110, 101]),
   (62, 90, 6, 0, [98, 108, 101, 122]),
   (63, 90, 7, 0, [98, 103, 116, 122]),
   (64, 82, 1, 0, [98, 108, 116, 122]),
   (65, 82, 1, 1, [98, 103, 101, 122]),
   (66, 82, 1, 16, [98, 108, 116, 122, 97, 108]),
   (67, 82, 1, 17, [98, 103, 101, 122, 97, 108]),
   (68, 74, 2, 0, [106]),
   (69, 74, 3, 0, [106, 97, 108])]

def insCells (r : Nat × Nat × List UInt8 × Nat) : List Value := [.int .i64 r.1, .int .i64 r.2.1, .string ⟨r.2.2.1.toArray⟩, .int .u32 r.2.2.2]
def insTable : Array Value := (insRows.flatMap insCells).toArray
def refCells (r : Nat × Nat × Nat × Nat × List UInt8) : List Value := [.int .i64 r.1, .int .u8 r.2.1, .int .i64 r.2.2.1, .int .i64 r.2.2.2.1, .string ⟨r.2.2.2.2.toArray⟩]
def refTable : Array Value := (refRows.flatMap refCells).toArray
end Go.Cq

namespace Go.Proofs.Ytjoaenfibkgplaa
set_option linter.unusedSimpArgs false
open Go.RowKit Go.Cq
set_option linter.unusedVariables false
theorem Try.info170 : (Try.prog.info? 170).map (·.size) = some 280 := by kernel_rfl
theorem insTable_size : insTable.size = 280 := by decide +kernel
theorem insTable_one : insTable.all (·.oneCell') = true := by decide +kernel
set_option maxRecDepth 100000 in
theorem rows_any (w : World) : Calls Try.prog 126 #[] w fun e w' => e = .returned (.agg insTable) ∧ Below w.heap.size w w' := by
  go_enter Try.func126, Try.ntmps126
  go_upto_region 1 with (fail)
  refine wp_region_list ?_
  refine wpList_table 71 _ _ 71 0 (.agg insTable) (.pointer (some ⟨w.heap.size, 0, none⟩)) (by kernel_rfl) ?_
  intro T h1 h2
  simp only [List.append_eq, List.cons_append, List.nil_append, List.drop_succ_cons, List.drop_zero]
  refine wpList_store_row rfl 170 (.tmp 0) (.tmp 71) rfl w.heap.size insTable h2 h1 170 _ (heap_alloc_last w _) (by rw [insTable_size]; exact Try.info170) (by rw [insTable_size]; kernel_rfl) insTable_one ?_
  rw [World.setRow_alloc_new]
  go_wp2_with fail
  have hh := heap_alloc_last w (.cells insTable 170)
  refine bodyPost_ret (results_cell_row rfl _ _ w.heap.size 170 insTable (0, 0) _ h2 hh Try.underlying170 rfl (by rw [insTable_size]; exact Try.info170)) rfl ⟨rfl, ?_⟩
  exact (Below.refl _ _).alloc (Nat.le_refl _) _
theorem Try.info91 : (Try.prog.info? 91).map (·.size) = some 345 := by kernel_rfl
theorem refTable_size : refTable.size = 345 := by decide +kernel
theorem refTable_one : refTable.all (·.oneCell') = true := by decide +kernel
set_option maxRecDepth 100000 in
theorem table_any (w : World) : Calls Try.prog 48 #[] w fun e w' => e = .returned (.agg refTable) ∧ Below w.heap.size w w' := by
  go_enter Try.func48, Try.ntmps48
  go_upto_region 1 with (fail)
  refine wp_region_list ?_
  refine wpList_table 70 _ _ 70 0 (.agg refTable) (.pointer (some ⟨w.heap.size, 0, none⟩)) (by kernel_rfl) ?_
  intro T h1 h2
  simp only [List.append_eq, List.cons_append, List.nil_append, List.drop_succ_cons, List.drop_zero]
  refine wpList_store_row rfl 91 (.tmp 0) (.tmp 70) rfl w.heap.size refTable h2 h1 91 _ (heap_alloc_last w _) (by rw [refTable_size]; exact Try.info91) (by rw [refTable_size]; kernel_rfl) refTable_one ?_
  rw [World.setRow_alloc_new]
  go_wp2_with fail
  have hh := heap_alloc_last w (.cells refTable 91)
  refine bodyPost_ret (results_cell_row rfl _ _ w.heap.size 91 refTable (0, 0) _ h2 hh Try.underlying91 rfl (by rw [refTable_size]; exact Try.info91)) rfl ⟨rfl, ?_⟩
  exact (Below.refl _ _).alloc (Nat.le_refl _) _
end Go.Proofs.Ytjoaenfibkgplaa
