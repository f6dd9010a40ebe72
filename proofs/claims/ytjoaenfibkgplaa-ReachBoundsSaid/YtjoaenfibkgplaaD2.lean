import Derived.Test.YtjoaenfibkgplaaB4
namespace Go.Proofs.Ytjoaenfibkgplaa
set_option linter.unusedSimpArgs false
open Go.RowKit Go.Cq
set_option linter.unusedVariables false

set_option maxRecDepth 100000 in
set_option maxHeartbeats 2000000 in
theorem decode4 (x op : Nat) (nm : List UInt8) (cd : Nat) (w : World) (hx : x < 4294967296) (hr : Hid (rowOf (keyN x) = some (op, 4, nm, cd))) :
    Calls Try.prog 90 #[.int .u32 (x : Int)] w fun e w' => e = .returned (.agg (insVals (decN x))) ∧ Below w.heap.size w w' := by
  have b1 : bits .or .u32 ((fld x 16 5 : Nat) : Int) ((fld x 11 5 : Nat) : Int) = ((fld x 16 5 ||| fld x 11 5 : Nat) : Int) := u32_or_nat _ _ (fld_lt32 _ _ _ (by decide)) (fld_lt32 _ _ _ (by decide))
  have b2 : bits .or .u32 ((fld x 16 5 ||| fld x 11 5 : Nat) : Int) ((fld x 6 5 : Nat) : Int) = ((fld x 16 5 ||| fld x 11 5 ||| fld x 6 5 : Nat) : Int) := u32_or_nat _ _ (Nat.or_lt_two_pow (n := 32) (fld_lt32 _ _ _ (by decide)) (fld_lt32 _ _ _ (by decide))) (fld_lt32 _ _ _ (by decide))
  by_cases hz : fld x 16 5 ||| fld x 11 5 ||| fld x 6 5 = 0
  · have HZ := Lib.hid hz
    have bz : (((fld x 16 5 ||| fld x 11 5 ||| fld x 6 5 : Nat) : Int) != 0) = false := by rw [hz]; rfl
    clear hz
    go_enter Try.func90, Try.ntmps90
    go_wp2_with fail
    refine (of_any x _ hx).mono ?_; rintro e w1 ⟨rfl, hb1⟩
    rw [hr.out]
    unfold ofRes rowVals
    have HRow := Lib.hid (heap_alloc_last w1 (.cells #[.int .i64 (op : Int), .int .i64 4, .string ⟨nm.toArray⟩, .int .u32 (cd : Int)] 161))
    have HRes := Lib.hid (blk_alloc (blk_kept (heap_alloc_last w _) hb1) (.cells #[.int .i64 (op : Int), .int .i64 4, .string ⟨nm.toArray⟩, .int .u32 (cd : Int)] 161))
    have HBel := Lib.hid ((((Below.refl w.heap.size w).alloc (Nat.le_refl _) _).trans (hb1.mono (by simp))).alloc (by have := hb1.size; simp at this; omega) (.cells #[.int .i64 (op : Int), .int .i64 4, .string ⟨nm.toArray⟩, .int .u32 (cd : Int)] 161))
    clear hb1
    go_wp2_with (first
      | (go_at_call 118; refine (fieldI x _ _ _ hx (by decide) (by decide)).mono ?_; rintro e w2 ⟨rfl, hb2⟩; have HRow := Lib.hid (blk_kept HRow.out hb2); have HRes := Lib.hid (blk_kept HRes.out hb2); have HBel := Lib.hid (HBel.out.trans (hb2.mono HBel.out.size)); have cr0 := blk_cell HRow.out 0; have cr1 := blk_cell HRow.out 1; have lr := blk_lt HRow.out; clear hb2)
      | (go_at_call 119; refine (sext_any (fld x 0 16) _ (fld_lt x 0 16)).mono ?_; rintro e w3 ⟨rfl, rfl⟩)
      | (go_at_call 120; refine (set_any _ _ _ _ _ ((World.cell?_alloc_new _ _ _ _).trans rfl) (World.frozen?_alloc_new _ _ _ _) (fld_lt32 _ _ _ (by decide))).mono ?_; rintro e w4 ⟨rfl, rfl⟩)
      | (refine wpList_store_row rfl 43 _ _ rfl w.heap.size _ rfl rfl 43 _ (blk_alloc HRes.out _) Try.info43 rfl (six_one _ _ _ _ _ _) ?_))
    exact dec_end (blk_alloc HRes.out _) (HBel.out.alloc HBel.out.size _) rfl rfl (by rw [decN_row hr.out]; unfold decOf; exact congrArg insVals (if_pos HZ.out))
  · have HZ := Lib.hid hz
    have bz : (((fld x 16 5 ||| fld x 11 5 ||| fld x 6 5 : Nat) : Int) != 0) = true := by rw [bne_iff_ne]; omega
    clear hz
    go_enter Try.func90, Try.ntmps90
    go_wp2_with fail
    refine (of_any x _ hx).mono ?_; rintro e w1 ⟨rfl, hb1⟩
    rw [hr.out]
    unfold ofRes rowVals
    have HRow := Lib.hid (heap_alloc_last w1 (.cells #[.int .i64 (op : Int), .int .i64 4, .string ⟨nm.toArray⟩, .int .u32 (cd : Int)] 161))
    have HRes := Lib.hid (blk_alloc (blk_kept (heap_alloc_last w _) hb1) (.cells #[.int .i64 (op : Int), .int .i64 4, .string ⟨nm.toArray⟩, .int .u32 (cd : Int)] 161))
    have HBel := Lib.hid ((((Below.refl w.heap.size w).alloc (Nat.le_refl _) _).trans (hb1.mono (by simp))).alloc (by have := hb1.size; simp at this; omega) (.cells #[.int .i64 (op : Int), .int .i64 4, .string ⟨nm.toArray⟩, .int .u32 (cd : Int)] 161))
    clear hb1
    go_wp2_with (first
      | (go_at_call 118; refine (fieldI x _ _ _ hx (by decide) (by decide)).mono ?_; rintro e w2 ⟨rfl, hb2⟩; have HRow := Lib.hid (blk_kept HRow.out hb2); have HRes := Lib.hid (blk_kept HRes.out hb2); have HBel := Lib.hid (HBel.out.trans (hb2.mono HBel.out.size)); have cr0 := blk_cell HRow.out 0; have cr1 := blk_cell HRow.out 1; have lr := blk_lt HRow.out; clear hb2)
      | (go_at_call 119; refine (sext_any (fld x 0 16) _ (fld_lt x 0 16)).mono ?_; rintro e w3 ⟨rfl, rfl⟩)
      | (go_at_call 120; refine (set_any _ _ _ _ _ ((World.cell?_alloc_new _ _ _ _).trans rfl) (World.frozen?_alloc_new _ _ _ _) (fld_lt32 _ _ _ (by decide))).mono ?_; rintro e w4 ⟨rfl, rfl⟩)
      | (refine wpList_store_row rfl 43 _ _ rfl w.heap.size _ rfl rfl 43 _ (blk_alloc HRes.out _) Try.info43 rfl (six_one _ _ _ _ _ _) ?_))
    exact dec_end (blk_alloc HRes.out _) (HBel.out.alloc HBel.out.size _) rfl rfl (by rw [decN_row hr.out]; unfold decOf; exact congrArg insVals (if_neg HZ.out))

set_option maxRecDepth 100000 in
set_option maxHeartbeats 2000000 in
theorem decode5 (x op : Nat) (nm : List UInt8) (cd : Nat) (w : World) (hx : x < 4294967296) (hr : Hid (rowOf (keyN x) = some (op, 5, nm, cd))) :
    Calls Try.prog 90 #[.int .u32 (x : Int)] w fun e w' => e = .returned (.agg (insVals (decN x))) ∧ Below w.heap.size w w' := by
  have b1 : bits .or .u32 ((fld x 16 5 : Nat) : Int) ((fld x 6 5 : Nat) : Int) = ((fld x 16 5 ||| fld x 6 5 : Nat) : Int) := u32_or_nat _ _ (fld_lt32 _ _ _ (by decide)) (fld_lt32 _ _ _ (by decide))
  by_cases hz : fld x 16 5 ||| fld x 6 5 = 0
  · have HZ := Lib.hid hz
    have bz : (((fld x 16 5 ||| fld x 6 5 : Nat) : Int) != 0) = false := by rw [hz]; rfl
    clear hz
    go_enter Try.func90, Try.ntmps90
    go_wp2_with fail
    refine (of_any x _ hx).mono ?_; rintro e w1 ⟨rfl, hb1⟩
    rw [hr.out]
    unfold ofRes rowVals
    have HRow := Lib.hid (heap_alloc_last w1 (.cells #[.int .i64 (op : Int), .int .i64 5, .string ⟨nm.toArray⟩, .int .u32 (cd : Int)] 161))
    have HRes := Lib.hid (blk_alloc (blk_kept (heap_alloc_last w _) hb1) (.cells #[.int .i64 (op : Int), .int .i64 5, .string ⟨nm.toArray⟩, .int .u32 (cd : Int)] 161))
    have HBel := Lib.hid ((((Below.refl w.heap.size w).alloc (Nat.le_refl _) _).trans (hb1.mono (by simp))).alloc (by have := hb1.size; simp at this; omega) (.cells #[.int .i64 (op : Int), .int .i64 5, .string ⟨nm.toArray⟩, .int .u32 (cd : Int)] 161))
    clear hb1
    go_wp2_with (first
      | (go_at_call 118; refine (fieldI x _ _ _ hx (by decide) (by decide)).mono ?_; rintro e w2 ⟨rfl, hb2⟩; have HRow := Lib.hid (blk_kept HRow.out hb2); have HRes := Lib.hid (blk_kept HRes.out hb2); have HBel := Lib.hid (HBel.out.trans (hb2.mono HBel.out.size)); have cr0 := blk_cell HRow.out 0; have cr1 := blk_cell HRow.out 1; have lr := blk_lt HRow.out; clear hb2)
      | (go_at_call 119; refine (sext_any (fld x 0 16) _ (fld_lt x 0 16)).mono ?_; rintro e w3 ⟨rfl, rfl⟩)
      | (go_at_call 120; refine (set_any _ _ _ _ _ ((World.cell?_alloc_new _ _ _ _).trans rfl) (World.frozen?_alloc_new _ _ _ _) (fld_lt32 _ _ _ (by decide))).mono ?_; rintro e w4 ⟨rfl, rfl⟩)
      | (refine wpList_store_row rfl 43 _ _ rfl w.heap.size _ rfl rfl 43 _ (blk_alloc HRes.out _) Try.info43 rfl (six_one _ _ _ _ _ _) ?_))
    exact dec_end (blk_alloc HRes.out _) (HBel.out.alloc HBel.out.size _) rfl rfl (by rw [decN_row hr.out]; unfold decOf; exact congrArg insVals (if_pos HZ.out))
  · have HZ := Lib.hid hz
    have bz : (((fld x 16 5 ||| fld x 6 5 : Nat) : Int) != 0) = true := by rw [bne_iff_ne]; omega
    clear hz
    go_enter Try.func90, Try.ntmps90
    go_wp2_with fail
    refine (of_any x _ hx).mono ?_; rintro e w1 ⟨rfl, hb1⟩
    rw [hr.out]
    unfold ofRes rowVals
    have HRow := Lib.hid (heap_alloc_last w1 (.cells #[.int .i64 (op : Int), .int .i64 5, .string ⟨nm.toArray⟩, .int .u32 (cd : Int)] 161))
    have HRes := Lib.hid (blk_alloc (blk_kept (heap_alloc_last w _) hb1) (.cells #[.int .i64 (op : Int), .int .i64 5, .string ⟨nm.toArray⟩, .int .u32 (cd : Int)] 161))
    have HBel := Lib.hid ((((Below.refl w.heap.size w).alloc (Nat.le_refl _) _).trans (hb1.mono (by simp))).alloc (by have := hb1.size; simp at this; omega) (.cells #[.int .i64 (op : Int), .int .i64 5, .string ⟨nm.toArray⟩, .int .u32 (cd : Int)] 161))
    clear hb1
    go_wp2_with (first
      | (go_at_call 118; refine (fieldI x _ _ _ hx (by decide) (by decide)).mono ?_; rintro e w2 ⟨rfl, hb2⟩; have HRow := Lib.hid (blk_kept HRow.out hb2); have HRes := Lib.hid (blk_kept HRes.out hb2); have HBel := Lib.hid (HBel.out.trans (hb2.mono HBel.out.size)); have cr0 := blk_cell HRow.out 0; have cr1 := blk_cell HRow.out 1; have lr := blk_lt HRow.out; clear hb2)
      | (go_at_call 119; refine (sext_any (fld x 0 16) _ (fld_lt x 0 16)).mono ?_; rintro e w3 ⟨rfl, rfl⟩)
      | (go_at_call 120; refine (set_any _ _ _ _ _ ((World.cell?_alloc_new _ _ _ _).trans rfl) (World.frozen?_alloc_new _ _ _ _) (fld_lt32 _ _ _ (by decide))).mono ?_; rintro e w4 ⟨rfl, rfl⟩)
      | (refine wpList_store_row rfl 43 _ _ rfl w.heap.size _ rfl rfl 43 _ (blk_alloc HRes.out _) Try.info43 rfl (six_one _ _ _ _ _ _) ?_))
    exact dec_end (blk_alloc HRes.out _) (HBel.out.alloc HBel.out.size _) rfl rfl (by rw [decN_row hr.out]; unfold decOf; exact congrArg insVals (if_neg HZ.out))

set_option maxRecDepth 100000 in
set_option maxHeartbeats 2000000 in
theorem decode9 (x op : Nat) (nm : List UInt8) (cd : Nat) (w : World) (hx : x < 4294967296) (hr : Hid (rowOf (keyN x) = some (op, 9, nm, cd))) :
    Calls Try.prog 90 #[.int .u32 (x : Int)] w fun e w' => e = .returned (.agg (insVals (decN x))) ∧ Below w.heap.size w w' := by
  have b1 : bits .xor .u32 ((fld x 16 5 : Nat) : Int) ((fld x 11 5 : Nat) : Int) = ((fld x 16 5 ^^^ fld x 11 5 : Nat) : Int) := u32_xor_nat _ _ (fld_lt32 _ _ _ (by decide)) (fld_lt32 _ _ _ (by decide))
  have b2 : bits .or .u32 ((fld x 6 5 : Nat) : Int) ((fld x 16 5 ^^^ fld x 11 5 : Nat) : Int) = ((fld x 6 5 ||| (fld x 16 5 ^^^ fld x 11 5) : Nat) : Int) := u32_or_nat _ _ (fld_lt32 _ _ _ (by decide)) (Nat.xor_lt_two_pow (n := 32) (fld_lt32 _ _ _ (by decide)) (fld_lt32 _ _ _ (by decide)))
  by_cases hz : fld x 6 5 ||| (fld x 16 5 ^^^ fld x 11 5) = 0
  · have HZ := Lib.hid hz
    have bz : (((fld x 6 5 ||| (fld x 16 5 ^^^ fld x 11 5) : Nat) : Int) != 0) = false := by rw [hz]; rfl
    clear hz
    go_enter Try.func90, Try.ntmps90
    go_wp2_with fail
    refine (of_any x _ hx).mono ?_; rintro e w1 ⟨rfl, hb1⟩
    rw [hr.out]
    unfold ofRes rowVals
    have HRow := Lib.hid (heap_alloc_last w1 (.cells #[.int .i64 (op : Int), .int .i64 9, .string ⟨nm.toArray⟩, .int .u32 (cd : Int)] 161))
    have HRes := Lib.hid (blk_alloc (blk_kept (heap_alloc_last w _) hb1) (.cells #[.int .i64 (op : Int), .int .i64 9, .string ⟨nm.toArray⟩, .int .u32 (cd : Int)] 161))
    have HBel := Lib.hid ((((Below.refl w.heap.size w).alloc (Nat.le_refl _) _).trans (hb1.mono (by simp))).alloc (by have := hb1.size; simp at this; omega) (.cells #[.int .i64 (op : Int), .int .i64 9, .string ⟨nm.toArray⟩, .int .u32 (cd : Int)] 161))
    clear hb1
    go_wp2_with (first
      | (go_at_call 118; refine (fieldI x _ _ _ hx (by decide) (by decide)).mono ?_; rintro e w2 ⟨rfl, hb2⟩; have HRow := Lib.hid (blk_kept HRow.out hb2); have HRes := Lib.hid (blk_kept HRes.out hb2); have HBel := Lib.hid (HBel.out.trans (hb2.mono HBel.out.size)); have cr0 := blk_cell HRow.out 0; have cr1 := blk_cell HRow.out 1; have lr := blk_lt HRow.out; clear hb2)
      | (go_at_call 119; refine (sext_any (fld x 0 16) _ (fld_lt x 0 16)).mono ?_; rintro e w3 ⟨rfl, rfl⟩)
      | (go_at_call 120; refine (set_any _ _ _ _ _ ((World.cell?_alloc_new _ _ _ _).trans rfl) (World.frozen?_alloc_new _ _ _ _) (fld_lt32 _ _ _ (by decide))).mono ?_; rintro e w4 ⟨rfl, rfl⟩)
      | (refine wpList_store_row rfl 43 _ _ rfl w.heap.size _ rfl rfl 43 _ (blk_alloc HRes.out _) Try.info43 rfl (six_one _ _ _ _ _ _) ?_))
    exact dec_end (blk_alloc HRes.out _) (HBel.out.alloc HBel.out.size _) rfl rfl (by rw [decN_row hr.out]; unfold decOf; exact congrArg insVals (if_pos HZ.out))
  · have HZ := Lib.hid hz
    have bz : (((fld x 6 5 ||| (fld x 16 5 ^^^ fld x 11 5) : Nat) : Int) != 0) = true := by rw [bne_iff_ne]; omega
    clear hz
    go_enter Try.func90, Try.ntmps90
    go_wp2_with fail
    refine (of_any x _ hx).mono ?_; rintro e w1 ⟨rfl, hb1⟩
    rw [hr.out]
    unfold ofRes rowVals
    have HRow := Lib.hid (heap_alloc_last w1 (.cells #[.int .i64 (op : Int), .int .i64 9, .string ⟨nm.toArray⟩, .int .u32 (cd : Int)] 161))
    have HRes := Lib.hid (blk_alloc (blk_kept (heap_alloc_last w _) hb1) (.cells #[.int .i64 (op : Int), .int .i64 9, .string ⟨nm.toArray⟩, .int .u32 (cd : Int)] 161))
    have HBel := Lib.hid ((((Below.refl w.heap.size w).alloc (Nat.le_refl _) _).trans (hb1.mono (by simp))).alloc (by have := hb1.size; simp at this; omega) (.cells #[.int .i64 (op : Int), .int .i64 9, .string ⟨nm.toArray⟩, .int .u32 (cd : Int)] 161))
    clear hb1
    go_wp2_with (first
      | (go_at_call 118; refine (fieldI x _ _ _ hx (by decide) (by decide)).mono ?_; rintro e w2 ⟨rfl, hb2⟩; have HRow := Lib.hid (blk_kept HRow.out hb2); have HRes := Lib.hid (blk_kept HRes.out hb2); have HBel := Lib.hid (HBel.out.trans (hb2.mono HBel.out.size)); have cr0 := blk_cell HRow.out 0; have cr1 := blk_cell HRow.out 1; have lr := blk_lt HRow.out; clear hb2)
      | (go_at_call 119; refine (sext_any (fld x 0 16) _ (fld_lt x 0 16)).mono ?_; rintro e w3 ⟨rfl, rfl⟩)
      | (go_at_call 120; refine (set_any _ _ _ _ _ ((World.cell?_alloc_new _ _ _ _).trans rfl) (World.frozen?_alloc_new _ _ _ _) (fld_lt32 _ _ _ (by decide))).mono ?_; rintro e w4 ⟨rfl, rfl⟩)
      | (refine wpList_store_row rfl 43 _ _ rfl w.heap.size _ rfl rfl 43 _ (blk_alloc HRes.out _) Try.info43 rfl (six_one _ _ _ _ _ _) ?_))
    exact dec_end (blk_alloc HRes.out _) (HBel.out.alloc HBel.out.size _) rfl rfl (by rw [decN_row hr.out]; unfold decOf; exact congrArg insVals (if_neg HZ.out))

set_option maxRecDepth 100000 in
set_option maxHeartbeats 2000000 in
theorem decode12 (x op : Nat) (nm : List UInt8) (cd : Nat) (w : World) (hx : x < 4294967296) (hr : Hid (rowOf (keyN x) = some (op, 12, nm, cd))) :
    Calls Try.prog 90 #[.int .u32 (x : Int)] w fun e w' => e = .returned (.agg (insVals (decN x))) ∧ Below w.heap.size w w' := by
  by_cases hz : fld x 21 5 = 0
  · have HZ := Lib.hid hz
    have bz : (((fld x 21 5 : Nat) : Int) != 0) = false := by rw [hz]; rfl
    clear hz
    go_enter Try.func90, Try.ntmps90
    go_wp2_with fail
    refine (of_any x _ hx).mono ?_; rintro e w1 ⟨rfl, hb1⟩
    rw [hr.out]
    unfold ofRes rowVals
    have HRow := Lib.hid (heap_alloc_last w1 (.cells #[.int .i64 (op : Int), .int .i64 12, .string ⟨nm.toArray⟩, .int .u32 (cd : Int)] 161))
    have HRes := Lib.hid (blk_alloc (blk_kept (heap_alloc_last w _) hb1) (.cells #[.int .i64 (op : Int), .int .i64 12, .string ⟨nm.toArray⟩, .int .u32 (cd : Int)] 161))
    have HBel := Lib.hid ((((Below.refl w.heap.size w).alloc (Nat.le_refl _) _).trans (hb1.mono (by simp))).alloc (by have := hb1.size; simp at this; omega) (.cells #[.int .i64 (op : Int), .int .i64 12, .string ⟨nm.toArray⟩, .int .u32 (cd : Int)] 161))
    clear hb1
    go_wp2_with (first
      | (go_at_call 118; refine (fieldI x _ _ _ hx (by decide) (by decide)).mono ?_; rintro e w2 ⟨rfl, hb2⟩; have HRow := Lib.hid (blk_kept HRow.out hb2); have HRes := Lib.hid (blk_kept HRes.out hb2); have HBel := Lib.hid (HBel.out.trans (hb2.mono HBel.out.size)); have cr0 := blk_cell HRow.out 0; have cr1 := blk_cell HRow.out 1; have lr := blk_lt HRow.out; clear hb2)
      | (go_at_call 119; refine (sext_any (fld x 0 16) _ (fld_lt x 0 16)).mono ?_; rintro e w3 ⟨rfl, rfl⟩)
      | (go_at_call 120; refine (set_any _ _ _ _ _ ((World.cell?_alloc_new _ _ _ _).trans rfl) (World.frozen?_alloc_new _ _ _ _) (fld_lt32 _ _ _ (by decide))).mono ?_; rintro e w4 ⟨rfl, rfl⟩)
      | (refine wpList_store_row rfl 43 _ _ rfl w.heap.size _ rfl rfl 43 _ (blk_alloc HRes.out _) Try.info43 rfl (six_one _ _ _ _ _ _) ?_))
    exact dec_end (blk_alloc HRes.out _) (HBel.out.alloc HBel.out.size _) rfl rfl (by rw [decN_row hr.out]; unfold decOf; exact congrArg insVals (if_pos HZ.out))
  · have HZ := Lib.hid hz
    have bz : (((fld x 21 5 : Nat) : Int) != 0) = true := by rw [bne_iff_ne]; omega
    clear hz
    go_enter Try.func90, Try.ntmps90
    go_wp2_with fail
    refine (of_any x _ hx).mono ?_; rintro e w1 ⟨rfl, hb1⟩
    rw [hr.out]
    unfold ofRes rowVals
    have HRow := Lib.hid (heap_alloc_last w1 (.cells #[.int .i64 (op : Int), .int .i64 12, .string ⟨nm.toArray⟩, .int .u32 (cd : Int)] 161))
    have HRes := Lib.hid (blk_alloc (blk_kept (heap_alloc_last w _) hb1) (.cells #[.int .i64 (op : Int), .int .i64 12, .string ⟨nm.toArray⟩, .int .u32 (cd : Int)] 161))
    have HBel := Lib.hid ((((Below.refl w.heap.size w).alloc (Nat.le_refl _) _).trans (hb1.mono (by simp))).alloc (by have := hb1.size; simp at this; omega) (.cells #[.int .i64 (op : Int), .int .i64 12, .string ⟨nm.toArray⟩, .int .u32 (cd : Int)] 161))
    clear hb1
    go_wp2_with (first
      | (go_at_call 118; refine (fieldI x _ _ _ hx (by decide) (by decide)).mono ?_; rintro e w2 ⟨rfl, hb2⟩; have HRow := Lib.hid (blk_kept HRow.out hb2); have HRes := Lib.hid (blk_kept HRes.out hb2); have HBel := Lib.hid (HBel.out.trans (hb2.mono HBel.out.size)); have cr0 := blk_cell HRow.out 0; have cr1 := blk_cell HRow.out 1; have lr := blk_lt HRow.out; clear hb2)
      | (go_at_call 119; refine (sext_any (fld x 0 16) _ (fld_lt x 0 16)).mono ?_; rintro e w3 ⟨rfl, rfl⟩)
      | (go_at_call 120; refine (set_any _ _ _ _ _ ((World.cell?_alloc_new _ _ _ _).trans rfl) (World.frozen?_alloc_new _ _ _ _) (fld_lt32 _ _ _ (by decide))).mono ?_; rintro e w4 ⟨rfl, rfl⟩)
      | (refine wpList_store_row rfl 43 _ _ rfl w.heap.size _ rfl rfl 43 _ (blk_alloc HRes.out _) Try.info43 rfl (six_one _ _ _ _ _ _) ?_))
    exact dec_end (blk_alloc HRes.out _) (HBel.out.alloc HBel.out.size _) rfl rfl (by rw [decN_row hr.out]; unfold decOf; exact congrArg insVals (if_neg HZ.out))

set_option maxRecDepth 100000 in
set_option maxHeartbeats 2000000 in
theorem decode15 (x op : Nat) (nm : List UInt8) (cd : Nat) (w : World) (hx : x < 4294967296) (hr : Hid (rowOf (keyN x) = some (op, 15, nm, cd))) :
    Calls Try.prog 90 #[.int .u32 (x : Int)] w fun e w' => e = .returned (.agg (insVals (decN x))) ∧ Below w.heap.size w w' := by
  have b1 : IntKind.u32.wrap (((sx (fld x 0 16) : Nat) : Int) * 4) = ((sx (fld x 0 16) * 4 % 4294967296 : Nat) : Int) := by rw [IntKind.wrap_u32]; omega
  by_cases hz : fld x 16 5 = 0
  · have HZ := Lib.hid hz
    have bz : (((fld x 16 5 : Nat) : Int) != 0) = false := by rw [hz]; rfl
    clear hz
    go_enter Try.func90, Try.ntmps90
    go_wp2_with fail
    refine (of_any x _ hx).mono ?_; rintro e w1 ⟨rfl, hb1⟩
    rw [hr.out]
    unfold ofRes rowVals
    have HRow := Lib.hid (heap_alloc_last w1 (.cells #[.int .i64 (op : Int), .int .i64 15, .string ⟨nm.toArray⟩, .int .u32 (cd : Int)] 161))
    have HRes := Lib.hid (blk_alloc (blk_kept (heap_alloc_last w _) hb1) (.cells #[.int .i64 (op : Int), .int .i64 15, .string ⟨nm.toArray⟩, .int .u32 (cd : Int)] 161))
    have HBel := Lib.hid ((((Below.refl w.heap.size w).alloc (Nat.le_refl _) _).trans (hb1.mono (by simp))).alloc (by have := hb1.size; simp at this; omega) (.cells #[.int .i64 (op : Int), .int .i64 15, .string ⟨nm.toArray⟩, .int .u32 (cd : Int)] 161))
    clear hb1
    go_wp2_with (first
      | (go_at_call 118; refine (fieldI x _ _ _ hx (by decide) (by decide)).mono ?_; rintro e w2 ⟨rfl, hb2⟩; have HRow := Lib.hid (blk_kept HRow.out hb2); have HRes := Lib.hid (blk_kept HRes.out hb2); have HBel := Lib.hid (HBel.out.trans (hb2.mono HBel.out.size)); have cr0 := blk_cell HRow.out 0; have cr1 := blk_cell HRow.out 1; have lr := blk_lt HRow.out; clear hb2)
      | (go_at_call 119; refine (sext_any (fld x 0 16) _ (fld_lt x 0 16)).mono ?_; rintro e w3 ⟨rfl, rfl⟩)
      | (go_at_call 120; refine (set_any _ _ _ _ _ ((World.cell?_alloc_new _ _ _ _).trans rfl) (World.frozen?_alloc_new _ _ _ _) (fld_lt32 _ _ _ (by decide))).mono ?_; rintro e w4 ⟨rfl, rfl⟩)
      | (refine wpList_store_row rfl 43 _ _ rfl w.heap.size _ rfl rfl 43 _ (blk_alloc HRes.out _) Try.info43 rfl (six_one _ _ _ _ _ _) ?_))
    exact dec_end (blk_alloc HRes.out _) (HBel.out.alloc HBel.out.size _) rfl rfl (by rw [decN_row hr.out]; unfold decOf; exact congrArg insVals (if_pos HZ.out))
  · have HZ := Lib.hid hz
    have bz : (((fld x 16 5 : Nat) : Int) != 0) = true := by rw [bne_iff_ne]; omega
    clear hz
    go_enter Try.func90, Try.ntmps90
    go_wp2_with fail
    refine (of_any x _ hx).mono ?_; rintro e w1 ⟨rfl, hb1⟩
    rw [hr.out]
    unfold ofRes rowVals
    have HRow := Lib.hid (heap_alloc_last w1 (.cells #[.int .i64 (op : Int), .int .i64 15, .string ⟨nm.toArray⟩, .int .u32 (cd : Int)] 161))
    have HRes := Lib.hid (blk_alloc (blk_kept (heap_alloc_last w _) hb1) (.cells #[.int .i64 (op : Int), .int .i64 15, .string ⟨nm.toArray⟩, .int .u32 (cd : Int)] 161))
    have HBel := Lib.hid ((((Below.refl w.heap.size w).alloc (Nat.le_refl _) _).trans (hb1.mono (by simp))).alloc (by have := hb1.size; simp at this; omega) (.cells #[.int .i64 (op : Int), .int .i64 15, .string ⟨nm.toArray⟩, .int .u32 (cd : Int)] 161))
    clear hb1
    go_wp2_with (first
      | (go_at_call 118; refine (fieldI x _ _ _ hx (by decide) (by decide)).mono ?_; rintro e w2 ⟨rfl, hb2⟩; have HRow := Lib.hid (blk_kept HRow.out hb2); have HRes := Lib.hid (blk_kept HRes.out hb2); have HBel := Lib.hid (HBel.out.trans (hb2.mono HBel.out.size)); have cr0 := blk_cell HRow.out 0; have cr1 := blk_cell HRow.out 1; have lr := blk_lt HRow.out; clear hb2)
      | (go_at_call 119; refine (sext_any (fld x 0 16) _ (fld_lt x 0 16)).mono ?_; rintro e w3 ⟨rfl, rfl⟩)
      | (go_at_call 120; refine (set_any _ _ _ _ _ ((World.cell?_alloc_new _ _ _ _).trans rfl) (World.frozen?_alloc_new _ _ _ _) (fld_lt32 _ _ _ (by decide))).mono ?_; rintro e w4 ⟨rfl, rfl⟩)
      | (refine wpList_store_row rfl 43 _ _ rfl w.heap.size _ rfl rfl 43 _ (blk_alloc HRes.out _) Try.info43 rfl (six_one _ _ _ _ _ _) ?_))
    exact dec_end (blk_alloc HRes.out _) (HBel.out.alloc HBel.out.size _) rfl rfl (by rw [decN_row hr.out]; unfold decOf; exact congrArg insVals (if_neg HZ.out))
end Go.Proofs.Ytjoaenfibkgplaa
