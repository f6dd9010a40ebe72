import Derived.Test.YtjoaenfibkgplaaRows
import Derived.Test.YtjoaenfibkgplaaRowsT
import Derived.Outline
import Derived.Deep.CutBlock
import Derived.Deep.Cut
namespace Go.Proofs.Ytjoaenfibkgplaa
set_option linter.unusedSimpArgs false
open Go.RowKit Go.Cq
set_option linter.unusedVariables false
theorem Try.info170 : (Try.prog.info? 170).map (·.size) = some 280 := by kernel_rfl
theorem insTable_size : insTable.size = 280 := by decide +kernel
theorem insTable_one : insTable.all (·.oneCell') = true := by decide +kernel
set_option maxRecDepth 100000 in
theorem rows_any (w : World) : Calls Try.prog 126 #[] w fun e w' => e = .returned (.agg insTable) ∧ Below w.heap.size w w' := by
  go_enter Try.func126, Try.ntmps126
  go_upto_region 1 with (fail)
  refine wp_region_list ?_
  refine wpList_table 71 _ _ 71 0 (.agg insTable) (.pointer (some ⟨w.heap.size, 0, none⟩)) (by kernel_rfl) ?_
  intro T h1 h2
  simp only [List.append_eq, List.cons_append, List.nil_append, List.drop_succ_cons, List.drop_zero]
  refine wpList_store_row rfl 170 (.tmp 0) (.tmp 71) rfl w.heap.size insTable h2 h1 170 _ (heap_alloc_last w _) (by rw [insTable_size]; exact Try.info170) (by rw [insTable_size]; kernel_rfl) insTable_one ?_
  rw [World.setRow_alloc_new]
  go_wp2_with fail
  have hh := heap_alloc_last w (.cells insTable 170)
  refine bodyPost_ret (results_cell_row rfl _ _ w.heap.size 170 insTable (0, 0) _ h2 hh Try.underlying170 rfl (by rw [insTable_size]; exact Try.info170)) rfl ⟨rfl, ?_⟩
  exact (Below.refl _ _).alloc (Nat.le_refl _) _
theorem Try.info91 : (Try.prog.info? 91).map (·.size) = some 345 := by kernel_rfl
theorem refTable_size : refTable.size = 345 := by decide +kernel
theorem refTable_one : refTable.all (·.oneCell') = true := by decide +kernel
set_option maxRecDepth 100000 in
theorem table_any (w : World) : Calls Try.prog 48 #[] w fun e w' => e = .returned (.agg refTable) ∧ Below w.heap.size w w' := by
  go_enter Try.func48, Try.ntmps48
  go_upto_region 1 with (fail)
  refine wp_region_list ?_
  refine wpList_table 70 _ _ 70 0 (.agg refTable) (.pointer (some ⟨w.heap.size, 0, none⟩)) (by kernel_rfl) ?_
  intro T h1 h2
  simp only [List.append_eq, List.cons_append, List.nil_append, List.drop_succ_cons, List.drop_zero]
  refine wpList_store_row rfl 91 (.tmp 0) (.tmp 70) rfl w.heap.size refTable h2 h1 91 _ (heap_alloc_last w _) (by rw [refTable_size]; exact Try.info91) (by rw [refTable_size]; kernel_rfl) refTable_one ?_
  rw [World.setRow_alloc_new]
  go_wp2_with fail
  have hh := heap_alloc_last w (.cells refTable 91)
  refine bodyPost_ret (results_cell_row rfl _ _ w.heap.size 91 refTable (0, 0) _ h2 hh Try.underlying91 rfl (by rw [refTable_size]; exact Try.info91)) rfl ⟨rfl, ?_⟩
  exact (Below.refl _ _).alloc (Nat.le_refl _) _
end Go.Proofs.Ytjoaenfibkgplaa
