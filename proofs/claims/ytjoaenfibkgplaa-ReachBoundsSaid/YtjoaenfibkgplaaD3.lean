import Derived.Test.YtjoaenfibkgplaaB4
namespace Go.Proofs.Ytjoaenfibkgplaa
set_option linter.unusedSimpArgs false
open Go.RowKit Go.Cq
set_option linter.unusedVariables false

set_option maxRecDepth 100000 in
set_option maxHeartbeats 2000000 in
theorem decode6 (x op : Nat) (nm : List UInt8) (cd : Nat) (w : World) (hx : x < 4294967296) (hr : Hid (rowOf (keyN x) = some (op, 6, nm, cd))) :
    Calls Try.prog 90 #[.int .u32 (x : Int)] w fun e w' => e = .returned (.agg (insVals (decN x))) ∧ Below w.heap.size w w' := by
  go_enter Try.func90, Try.ntmps90
  go_wp2_with fail
  refine (of_any x _ hx).mono ?_; rintro e w1 ⟨rfl, hb1⟩
  rw [hr.out]
  unfold ofRes rowVals
  have HRow := Lib.hid (heap_alloc_last w1 (.cells #[.int .i64 (op : Int), .int .i64 6, .string ⟨nm.toArray⟩, .int .u32 (cd : Int)] 161))
  have HRes := Lib.hid (blk_alloc (blk_kept (heap_alloc_last w _) hb1) (.cells #[.int .i64 (op : Int), .int .i64 6, .string ⟨nm.toArray⟩, .int .u32 (cd : Int)] 161))
  have HBel := Lib.hid ((((Below.refl w.heap.size w).alloc (Nat.le_refl _) _).trans (hb1.mono (by simp))).alloc (by have := hb1.size; simp at this; omega) (.cells #[.int .i64 (op : Int), .int .i64 6, .string ⟨nm.toArray⟩, .int .u32 (cd : Int)] 161))
  clear hb1
  go_wp2_with (first
    | (go_at_call 118; with_reducible refine (fieldI x 6 10 _ hx (by decide) (by decide)).mono ?_; rintro e w6 ⟨rfl, hb6⟩; have HI := Lib.hid (blk_kept (heap_alloc_last w2 _) hb6); have HRes := Lib.hid (blk_kept (blk_alloc HRes.out _) hb6); have HBel := Lib.hid ((HBel.out.alloc HBel.out.size _).trans (hb6.mono (by have := HBel.out.size; simp; omega))); have HRow := Lib.hid (blk_kept (blk_alloc HRow.out _) hb6); have ci5 := blk_cell HI.out 5; have fi5 := blk_free HI.out 5; have nRI := blk_lt HRes0.out; clear hb6)
    | (refine wpList_load_row rfl 43 _ rfl w2.heap.size rfl 43 _ (0, 0) _ (heap_setCell_same _ w2.heap.size 5 _ _ _ HI.out) Try.underlying43 rfl Try.info43 ?_)
    | (refine wpList_store_row rfl 43 _ _ rfl w.heap.size _ rfl rfl 43 _ (blk_set HRes.out _ _ (by exact Nat.ne_of_lt nRI)) Try.info43 rfl (six_one _ _ _ _ _ _) ?_)
    | (go_at_call 118; refine (fieldI x _ _ _ hx (by decide) (by decide)).mono ?_; rintro e w2 ⟨rfl, hb2⟩; have HRow := Lib.hid (blk_kept HRow.out hb2); have HRes := Lib.hid (blk_kept HRes.out hb2); have HRes0 := HRes; have HBel := Lib.hid (HBel.out.trans (hb2.mono HBel.out.size)); have cr0 := blk_cell HRow.out 0; have cr1 := blk_cell HRow.out 1; have lr := blk_lt HRow.out; clear hb2)
    | (go_at_call 119; refine (sext_any (fld x 0 16) _ (fld_lt x 0 16)).mono ?_; rintro e w3 ⟨rfl, rfl⟩)
    | (go_at_call 120; refine (set_any _ _ _ _ _ ((World.cell?_alloc_new _ _ _ _).trans rfl) (World.frozen?_alloc_new _ _ _ _) (fld_lt32 _ _ _ (by decide))).mono ?_; rintro e w4 ⟨rfl, rfl⟩))
  exact dec_end (blk_set HRes.out _ _ (by exact Nat.ne_of_lt nRI)) (HBel.out.setCell (Nat.le_of_lt nRI) _) rfl rfl (by rw [decN_row hr.out]; rfl)

set_option maxRecDepth 100000 in
set_option maxHeartbeats 2000000 in
theorem decode7 (x op : Nat) (nm : List UInt8) (cd : Nat) (w : World) (hx : x < 4294967296) (hr : Hid (rowOf (keyN x) = some (op, 7, nm, cd))) :
    Calls Try.prog 90 #[.int .u32 (x : Int)] w fun e w' => e = .returned (.agg (insVals (decN x))) ∧ Below w.heap.size w w' := by
  go_enter Try.func90, Try.ntmps90
  go_wp2_with fail
  refine (of_any x _ hx).mono ?_; rintro e w1 ⟨rfl, hb1⟩
  rw [hr.out]
  unfold ofRes rowVals
  have HRow := Lib.hid (heap_alloc_last w1 (.cells #[.int .i64 (op : Int), .int .i64 7, .string ⟨nm.toArray⟩, .int .u32 (cd : Int)] 161))
  have HRes := Lib.hid (blk_alloc (blk_kept (heap_alloc_last w _) hb1) (.cells #[.int .i64 (op : Int), .int .i64 7, .string ⟨nm.toArray⟩, .int .u32 (cd : Int)] 161))
  have HBel := Lib.hid ((((Below.refl w.heap.size w).alloc (Nat.le_refl _) _).trans (hb1.mono (by simp))).alloc (by have := hb1.size; simp at this; omega) (.cells #[.int .i64 (op : Int), .int .i64 7, .string ⟨nm.toArray⟩, .int .u32 (cd : Int)] 161))
  clear hb1
  go_wp2_with (first
    | (go_at_call 118; with_reducible refine (fieldI x 6 20 _ hx (by decide) (by decide)).mono ?_; rintro e w6 ⟨rfl, hb6⟩; have HI := Lib.hid (blk_kept (heap_alloc_last w2 _) hb6); have HRes := Lib.hid (blk_kept (blk_alloc HRes.out _) hb6); have HBel := Lib.hid ((HBel.out.alloc HBel.out.size _).trans (hb6.mono (by have := HBel.out.size; simp; omega))); have HRow := Lib.hid (blk_kept (blk_alloc HRow.out _) hb6); have ci5 := blk_cell HI.out 5; have fi5 := blk_free HI.out 5; have nRI := blk_lt HRes0.out; clear hb6)
    | (refine wpList_load_row rfl 43 _ rfl w2.heap.size rfl 43 _ (0, 0) _ (heap_setCell_same _ w2.heap.size 5 _ _ _ HI.out) Try.underlying43 rfl Try.info43 ?_)
    | (refine wpList_store_row rfl 43 _ _ rfl w.heap.size _ rfl rfl 43 _ (blk_set HRes.out _ _ (by exact Nat.ne_of_lt nRI)) Try.info43 rfl (six_one _ _ _ _ _ _) ?_)
    | (go_at_call 118; refine (fieldI x _ _ _ hx (by decide) (by decide)).mono ?_; rintro e w2 ⟨rfl, hb2⟩; have HRow := Lib.hid (blk_kept HRow.out hb2); have HRes := Lib.hid (blk_kept HRes.out hb2); have HRes0 := HRes; have HBel := Lib.hid (HBel.out.trans (hb2.mono HBel.out.size)); have cr0 := blk_cell HRow.out 0; have cr1 := blk_cell HRow.out 1; have lr := blk_lt HRow.out; clear hb2)
    | (go_at_call 119; refine (sext_any (fld x 0 16) _ (fld_lt x 0 16)).mono ?_; rintro e w3 ⟨rfl, rfl⟩)
    | (go_at_call 120; refine (set_any _ _ _ _ _ ((World.cell?_alloc_new _ _ _ _).trans rfl) (World.frozen?_alloc_new _ _ _ _) (fld_lt32 _ _ _ (by decide))).mono ?_; rintro e w4 ⟨rfl, rfl⟩))
  exact dec_end (blk_set HRes.out _ _ (by exact Nat.ne_of_lt nRI)) (HBel.out.setCell (Nat.le_of_lt nRI) _) rfl rfl (by rw [decN_row hr.out]; rfl)

set_option maxRecDepth 100000 in
set_option maxHeartbeats 2000000 in
theorem decode17 (x op : Nat) (nm : List UInt8) (cd : Nat) (w : World) (hx : x < 4294967296) (hr : Hid (rowOf (keyN x) = some (op, 17, nm, cd))) :
    Calls Try.prog 90 #[.int .u32 (x : Int)] w fun e w' => e = .returned (.agg (insVals (decN x))) ∧ Below w.heap.size w w' := by
  have b26 : fld x 0 26 < 67108864 := fld_lt x 0 26
  go_enter Try.func90, Try.ntmps90
  go_wp2_with fail
  refine (of_any x _ hx).mono ?_; rintro e w1 ⟨rfl, hb1⟩
  rw [hr.out]
  unfold ofRes rowVals
  have HRow := Lib.hid (heap_alloc_last w1 (.cells #[.int .i64 (op : Int), .int .i64 17, .string ⟨nm.toArray⟩, .int .u32 (cd : Int)] 161))
  have HRes := Lib.hid (blk_alloc (blk_kept (heap_alloc_last w _) hb1) (.cells #[.int .i64 (op : Int), .int .i64 17, .string ⟨nm.toArray⟩, .int .u32 (cd : Int)] 161))
  have HBel := Lib.hid ((((Below.refl w.heap.size w).alloc (Nat.le_refl _) _).trans (hb1.mono (by simp))).alloc (by have := hb1.size; simp at this; omega) (.cells #[.int .i64 (op : Int), .int .i64 17, .string ⟨nm.toArray⟩, .int .u32 (cd : Int)] 161))
  clear hb1
  go_wp2_with (first
    | (go_at_call 118; with_reducible refine (fieldI x 0 26 _ hx (by decide) (by decide)).mono ?_; rintro e w6 ⟨rfl, hb6⟩; have HI := Lib.hid (blk_kept (heap_alloc_last w2 _) hb6); have HRes := Lib.hid (blk_kept (blk_alloc HRes.out _) hb6); have HBel := Lib.hid ((HBel.out.alloc HBel.out.size _).trans (hb6.mono (by have := HBel.out.size; simp; omega))); have HRow := Lib.hid (blk_kept (blk_alloc HRow.out _) hb6); have ci5 := blk_cell HI.out 5; have fi5 := blk_free HI.out 5; have nRI := blk_lt HRes0.out; clear hb6)
    | (refine wpList_load_row rfl 43 _ rfl w2.heap.size rfl 43 _ (0, 0) _ (heap_setCell_same _ w2.heap.size 5 _ _ _ HI.out) Try.underlying43 rfl Try.info43 ?_)
    | (refine wpList_store_row rfl 43 _ _ rfl w.heap.size _ rfl rfl 43 _ (blk_set HRes.out _ _ (by exact Nat.ne_of_lt nRI)) Try.info43 rfl (six_one _ _ _ _ _ _) ?_)
    | (go_at_call 118; refine (fieldI x _ _ _ hx (by decide) (by decide)).mono ?_; rintro e w2 ⟨rfl, hb2⟩; have HRow := Lib.hid (blk_kept HRow.out hb2); have HRes := Lib.hid (blk_kept HRes.out hb2); have HRes0 := HRes; have HBel := Lib.hid (HBel.out.trans (hb2.mono HBel.out.size)); have cr0 := blk_cell HRow.out 0; have cr1 := blk_cell HRow.out 1; have lr := blk_lt HRow.out; clear hb2)
    | (go_at_call 119; refine (sext_any (fld x 0 16) _ (fld_lt x 0 16)).mono ?_; rintro e w3 ⟨rfl, rfl⟩)
    | (go_at_call 120; refine (set_any _ _ _ _ _ ((World.cell?_alloc_new _ _ _ _).trans rfl) (World.frozen?_alloc_new _ _ _ _) (fld_lt32 _ _ _ (by decide))).mono ?_; rintro e w4 ⟨rfl, rfl⟩))
  exact dec_end (blk_set HRes.out _ _ (by exact Nat.ne_of_lt nRI)) (HBel.out.setCell (Nat.le_of_lt nRI) _) rfl rfl (by rw [decN_row hr.out]; rfl)
end Go.Proofs.Ytjoaenfibkgplaa
