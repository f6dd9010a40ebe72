import Derived.Test.YtjoaenfibkgplaaT2
import Derived.Deep.MidRow
namespace Go.Proofs.Ytjoaenfibkgplaa
set_option linter.unusedSimpArgs false
open Go.RowKit Go.Cq
set_option linter.unusedVariables false

theorem fieldI (x : Nat) (a n : Int) (w : World) (hx : x < 4294967296) (ha : 0 ≤ a ∧ a ≤ 31) (hn : 1 ≤ n ∧ n + a ≤ 32) :
    Calls Try.prog 118 #[.int .u32 (x : Int), .int .i64 a, .int .i64 n] w fun e w' => e = .returned (.int .u32 (fld x a.toNat n.toNat : Nat)) ∧ Below w.heap.size w w' := by
  obtain ⟨i, rfl⟩ := Int.eq_ofNat_of_zero_le ha.1
  obtain ⟨j, rfl⟩ := Int.eq_ofNat_of_zero_le (show 0 ≤ n by omega)
  rw [Int.toNat_natCast, Int.toNat_natCast]
  exact field_any x i j w hx (by omega) (by omega) (by omega)

theorem Try.info161 : (Try.prog.info? 161).map (·.size) = some 4 := by kernel_rfl
def zeroRow : Array Value := #[.int .i64 0, .int .i64 0, .string ⟨#[]⟩, .int .u32 0]
theorem row4_one (a b d : Int) (s : ByteArray) : (#[Value.int .i64 a, .int .i64 b, .string s, .int .u32 d]).all (·.oneCell') = true := by
  simp [Value.oneCell']
def ofRes : Option IRow → Value
  | some r => .tuple #[.agg (rowVals r), .bool true]
  | none => .tuple #[.agg zeroRow, .bool false]
theorem findFrom_hit {key : Nat × Nat} {k : Nat} (hk : k < 69) (h : rowSlot (rowAt k) = key) : findFrom key (69 - k) k = some (rowAt k) := by
  rw [show 69 - k = (68 - k) + 1 by omega, findFrom, if_pos h]
theorem findFrom_miss {key : Nat × Nat} {k : Nat} (hk : k < 69) (h : ¬ rowSlot (rowAt k) = key) : findFrom key (69 - k) k = findFrom key (69 - (k + 1)) (k + 1) := by
  rw [show 69 - k = (68 - k) + 1 by omega, findFrom, if_neg h]
  rw [show 68 - k = 69 - (k + 1) by omega]
theorem of_end {wr : World} {b : Nat} {cs : Array Value} {v : Bool} {tmps : Array Value} {R : Ending → World → Prop} (hp : tmps.getD 2 undef = .pointer (some ⟨b, 0, none⟩)) (hv : tmps.getD 3 undef = .bool v) (hb : wr.heap[b]? = some (.cells cs 161 (0, 0))) (hs : cs.size = 4)
    (hR : R (.returned (.tuple #[.agg cs, .bool v])) wr) : bodyPost Try.prog Try.f117 R .ret ⟨tmps, []⟩ wr := by
  refine bodyPost_ret (v := .tuple #[.agg cs, .bool v]) ?_ rfl hR
  rw [results_cell_tmp (p := 2) (u := 3) (ty := 161) rfl]
  have h1 := run_loadVar_row (P := Try.prog) wr b 161 161 cs (0, 0) _ hb Try.underlying161 rfl (by rw [hs]; exact Try.info161)
  simp [hp, hv, asAddr, h1]
set_option maxHeartbeats 1000000 in
theorem of_walk0 (x o k1 : Nat) (w : World) (hx : x < 4294967296) (ho : Hid (fld x 26 6 = o)) (h1 : Hid (fld x 0 6 = k1)) (t0 : ((o : Int) == 0) = true) :
    Calls Try.prog 117 #[.int .u32 (x : Int)] w fun e w' => e = .returned (ofRes (rowOf (o, k1))) ∧ Below w.heap.size w w' := by
  go_enter Try.func117, Try.ntmps117
  go_wp2_with (first
    | (go_at_call 126; with_reducible refine (rows_any _).mono ?_; rintro e w1 ⟨rfl, hb1⟩)
    | (refine wpList_store_row rfl 170 _ _ rfl w1.heap.size insTable rfl rfl 170 _ (heap_alloc_last w1 _) (by rw [insTable_size]; exact Try.info170) (by rw [insTable_size]; kernel_rfl) insTable_one ?_; rw [World.setRow_alloc_new]))
  have HT := Lib.hid (heap_alloc_last w1 (.cells insTable 170))
  have HR := Lib.hid (blk_alloc (blk_kept (heap_alloc_last w _) hb1) (.cells insTable 170))
  have HB1 := Lib.hid ((((Below.refl w.heap.size w).alloc (Nat.le_refl _) _).trans (hb1.mono (by simp))).alloc (by have := hb1.size; simp at this; omega) (.cells insTable 170))
  clear hb1
  refine (fieldI x 26 6 _ hx (by decide) (by decide)).mono ?_; rintro e w2 ⟨rfl, hb2⟩
  rw [show (26 : Int).toNat = 26 from rfl, show (6 : Int).toNat = 6 from rfl, ho.out]
  have HT2 := Lib.hid (blk_kept HT.out hb2)
  have HR2 := Lib.hid (blk_kept HR.out hb2)
  have HB2 := Lib.hid (HB1.out.trans (hb2.mono HB1.out.size))
  clear HT HR HB1 hb2
  go_wp2_with fail
  refine (fieldI x 0 6 _ hx (by decide) (by decide)).mono ?_; rintro e w3 ⟨rfl, hb3⟩
  rw [show (0 : Int).toNat = 0 from rfl, show (6 : Int).toNat = 6 from rfl, h1.out]
  have HT3 := Lib.hid (blk_kept (blk_alloc HT2.out _) hb3)
  have HR3 := Lib.hid (blk_kept (blk_alloc HR2.out _) hb3)
  have HK3 := Lib.hid (blk_kept (heap_alloc_last w2 _) hb3)
  have HB3 := Lib.hid ((HB2.out.alloc HB2.out.size _).trans (hb3.mono (by have := HB2.out.size; simp; omega)))
  have nT := blk_lt HT2.out
  have nR := blk_lt HR2.out
  have c1 : w3.cell? ⟨w2.heap.size, 1, none⟩ = some (.int .u32 0) := blk_cell HK3.out 1
  have f1 := blk_free HK3.out 1
  clear hb3 HT2 HR2 HB2
  go_wp2_with fail
  have HT4 := Lib.hid (blk_set HT3.out ⟨w2.heap.size, 1, none⟩ (.int .u32 (k1 : Int)) (by show w1.heap.size ≠ w2.heap.size; omega))
  have HR4 := Lib.hid (blk_set HR3.out ⟨w2.heap.size, 1, none⟩ (.int .u32 (k1 : Int)) (by show w.heap.size ≠ w2.heap.size; omega))
  have HK4 := Lib.hid (heap_setCell_same _ w2.heap.size 1 _ _ (.int .u32 (k1 : Int)) HK3.out)
  have HB4 := Lib.hid (HB3.out.setCell (p := ⟨w2.heap.size, 1, none⟩) (Nat.le_of_lt nR) (.int .u32 (k1 : Int)))
  clear HT3 HR3 HB3 HK3 c1 f1
  go_loopw [27] (fun i wr => ∃ k : Nat, k ≤ 69 ∧ i = .int .i64 k ∧ Hid (rowOf (o, k1) = findFrom (o, k1) (69 - k) k) ∧ Hid (wr.heap[w1.heap.size]? = some (.cells insTable 170 (0, 0))) ∧
      Hid (wr.heap[w2.heap.size]? = some (.cells #[.int .u32 (o : Int), .int .u32 (k1 : Int)] 172 (0, 0))) ∧ Hid (wr.heap[w.heap.size]? = some (.cells zeroRow 161 (0, 0))) ∧ Hid (Below w.heap.size w wr)) (fun i _ => 69 - (intOf i).toNat)
  case atStart => exact ⟨0, by omega, rfl, rfl, HT4, HK4, HR4, HB4⟩
  case round =>
    obtain ⟨k, hk, rfl, HF, HT, HK, HR, HB⟩ := hrel
    clear HT4 HK4 HR4 HB4
    by_cases hlt : k < 69
    · obtain ⟨ro, rf, rs, rc, hr⟩ : ∃ ro rf rs rc, rowAt k = (ro, rf, rs, rc) := ⟨_, _, _, _, rfl⟩
      have Hr := Lib.hid hr
      clear hr
      have hrange : wr.rangeAt w1.heap.size (4 + k * 4) [.int .i64 (ro : Int), .int .i64 (rf : Int), .string ⟨rs.toArray⟩, .int .u32 (rc : Int)] := by
        intro j v hj
        have hj4 : j < 4 := (List.getElem?_eq_some_iff.1 hj).1
        rw [blk_cell HT.out, ins_cell k j hlt hj4, Hr.out]
        exact hj
      have HRG := Lib.hid hrange
      clear hrange
      have hK0 : wr.cell? ⟨w2.heap.size, 0, none⟩ = some (.int .u32 (o : Int)) := blk_cell HK.out 0
      have hK1 : wr.cell? ⟨w2.heap.size, 1, none⟩ = some (.int .u32 (k1 : Int)) := blk_cell HK.out 1
      have hKl := blk_lt HK.out
      go_wp2_with (first
        | (refine wpList_load_mid rfl 161 _ rfl w1.heap.size (4 + k * 4) rfl [.int .i64 (ro : Int), .int .i64 (rf : Int), .string ⟨rs.toArray⟩, .int .u32 (rc : Int)] _ HRG.out Try.underlying161 rfl Try.info161 ?_)
        | (refine wpList_store_row rfl 161 _ _ rfl wr.heap.size #[.int .i64 (ro : Int), .int .i64 (rf : Int), .string ⟨rs.toArray⟩, .int .u32 (rc : Int)] rfl rfl 161 _ (heap_alloc_last wr _) Try.info161 rfl rfl ?_; rw [World.setRow_alloc_new]))
      have HB5 := Lib.hid (HB.out.alloc HB.out.size (.cells #[.int .i64 (ro : Int), .int .i64 (rf : Int), .string ⟨rs.toArray⟩, .int .u32 (rc : Int)] 161))
      obtain ⟨sa, sb, hs⟩ : ∃ sa sb, slotN rf rc = (sa, sb) := ⟨_, _, rfl⟩
      have Hs := Lib.hid hs
      clear hs
      have heq := eq172
      by_cases hm : sa = o ∧ sb = k1
      · have e1 : ((sa : Int) == (o : Int)) = true := by rw [hm.1]; simp
        have e2 : ((sb : Int) == (k1 : Int)) = true := by rw [hm.2]; simp
        have HF' : Hid (rowOf (o, k1) = some (ro, rf, rs, rc)) := by show _ = _; rw [HF.out, findFrom_hit hlt (by rw [rowSlot, Hr.out, Hs.out, hm.1, hm.2]), Hr.out]
        clear hm
        go_region_with (go_at_call 127; refine (slot_any _ _ _ _ _).mono ?_; rintro e w5 ⟨rfl, hb5⟩; rw [Hs.out]; have k50 := blk_cell (blk_kept (blk_drew (blk_alloc HK.out _)) hb5) 0; have k51 := blk_cell (blk_kept (blk_drew (blk_alloc HK.out _)) hb5) 1)
        all_goals
          have HT5 := Lib.hid (blk_kept (blk_drew (blk_alloc HT.out (.cells #[.int .i64 (ro : Int), .int .i64 (rf : Int), .string ⟨rs.toArray⟩, .int .u32 (rc : Int)] 161))) hb5)
          have HK5 := Lib.hid (blk_kept (blk_drew (blk_alloc HK.out (.cells #[.int .i64 (ro : Int), .int .i64 (rf : Int), .string ⟨rs.toArray⟩, .int .u32 (rc : Int)] 161))) hb5)
          have HN5 := Lib.hid (blk_kept (blk_drew (heap_alloc_last wr (.cells #[.int .i64 (ro : Int), .int .i64 (rf : Int), .string ⟨rs.toArray⟩, .int .u32 (rc : Int)] 161))) hb5)
          have HR5 := Lib.hid (blk_kept (blk_drew (blk_alloc HR.out (.cells #[.int .i64 (ro : Int), .int .i64 (rf : Int), .string ⟨rs.toArray⟩, .int .u32 (rc : Int)] 161))) hb5)
          have HB6 := Lib.hid (HB5.out.drew.trans (hb5.mono HB5.out.size))
          clear hb5 k50 k51 hK0 hK1 hKl heq
          go_wp2_with (first
            | (refine wpList_load_row rfl 161 _ rfl wr.heap.size rfl 161 _ (0, 0) _ HN5.out Try.underlying161 rfl Try.info161 ?_)
            | (refine wpList_store_row rfl 161 _ _ rfl w.heap.size #[.int .i64 (ro : Int), .int .i64 (rf : Int), .string ⟨rs.toArray⟩, .int .u32 (rc : Int)] rfl rfl 161 zeroRow HR5.out Try.info161 rfl (row4_one _ _ _ _) ?_))
          exact of_end rfl rfl (blk_row HR5.out _) rfl ⟨by rw [HF'.out]; rfl, below_row HB6.out (Nat.le_refl _) _⟩
      · have HF' : Hid (rowOf (o, k1) = findFrom (o, k1) (69 - (k + 1)) (k + 1)) := by show _ = _; rw [HF.out, findFrom_miss hlt (by rw [rowSlot, Hr.out, Hs.out]; intro e; exact hm (by simpa using e))]
        by_cases hm1 : sa = o
        · have e1 : ((sa : Int) == (o : Int)) = true := by rw [hm1]; simp
          have e2 : ((sb : Int) == (k1 : Int)) = false := by
            have : ¬ sb = k1 := fun h => hm ⟨hm1, h⟩
            simp; omega
          clear hm hm1
          go_region_with (go_at_call 127; refine (slot_any _ _ _ _ _).mono ?_; rintro e w5 ⟨rfl, hb5⟩; rw [Hs.out]; have k50 := blk_cell (blk_kept (blk_drew (blk_alloc HK.out _)) hb5) 0; have k51 := blk_cell (blk_kept (blk_drew (blk_alloc HK.out _)) hb5) 1)
          all_goals
            have HT5 := Lib.hid (blk_kept (blk_drew (blk_alloc HT.out (.cells #[.int .i64 (ro : Int), .int .i64 (rf : Int), .string ⟨rs.toArray⟩, .int .u32 (rc : Int)] 161))) hb5)
            have HK5 := Lib.hid (blk_kept (blk_drew (blk_alloc HK.out (.cells #[.int .i64 (ro : Int), .int .i64 (rf : Int), .string ⟨rs.toArray⟩, .int .u32 (rc : Int)] 161))) hb5)
            have HN5 := Lib.hid (blk_kept (blk_drew (heap_alloc_last wr (.cells #[.int .i64 (ro : Int), .int .i64 (rf : Int), .string ⟨rs.toArray⟩, .int .u32 (rc : Int)] 161))) hb5)
            have HR5 := Lib.hid (blk_kept (blk_drew (blk_alloc HR.out (.cells #[.int .i64 (ro : Int), .int .i64 (rf : Int), .string ⟨rs.toArray⟩, .int .u32 (rc : Int)] 161))) hb5)
            have HB6 := Lib.hid (HB5.out.drew.trans (hb5.mono HB5.out.size))
            clear hb5 k50 k51 hK0 hK1 hKl heq
            go_wp2
            go_roundw
            case rel => exact ⟨k + 1, by omega, by go_num, HF'.out, HT5, HK5, HR5, HB6⟩
            case measure => simp [intOf]; omega
        · have e1 : ((sa : Int) == (o : Int)) = false := by simp; omega
          clear hm hm1
          go_region_with (go_at_call 127; refine (slot_any _ _ _ _ _).mono ?_; rintro e w5 ⟨rfl, hb5⟩; rw [Hs.out]; have k50 := blk_cell (blk_kept (blk_drew (blk_alloc HK.out _)) hb5) 0; have k51 := blk_cell (blk_kept (blk_drew (blk_alloc HK.out _)) hb5) 1)
          all_goals
            have HT5 := Lib.hid (blk_kept (blk_drew (blk_alloc HT.out (.cells #[.int .i64 (ro : Int), .int .i64 (rf : Int), .string ⟨rs.toArray⟩, .int .u32 (rc : Int)] 161))) hb5)
            have HK5 := Lib.hid (blk_kept (blk_drew (blk_alloc HK.out (.cells #[.int .i64 (ro : Int), .int .i64 (rf : Int), .string ⟨rs.toArray⟩, .int .u32 (rc : Int)] 161))) hb5)
            have HN5 := Lib.hid (blk_kept (blk_drew (heap_alloc_last wr (.cells #[.int .i64 (ro : Int), .int .i64 (rf : Int), .string ⟨rs.toArray⟩, .int .u32 (rc : Int)] 161))) hb5)
            have HR5 := Lib.hid (blk_kept (blk_drew (blk_alloc HR.out (.cells #[.int .i64 (ro : Int), .int .i64 (rf : Int), .string ⟨rs.toArray⟩, .int .u32 (rc : Int)] 161))) hb5)
            have HB6 := Lib.hid (HB5.out.drew.trans (hb5.mono HB5.out.size))
            clear hb5 k50 k51 hK0 hK1 hKl heq
            go_wp2
            go_roundw
            case rel => exact ⟨k + 1, by omega, by go_num, HF'.out, HT5, HK5, HR5, HB6⟩
            case measure => simp [intOf]; omega
    · obtain rfl : k = 69 := by omega
      go_wp2_with (refine wpList_store_row rfl 161 _ _ rfl w.heap.size zeroRow rfl rfl 161 zeroRow HR.out Try.info161 rfl (row4_one _ _ _ _) ?_)
      exact of_end rfl rfl (blk_row HR.out _) rfl ⟨by rw [HF.out]; rfl, below_row HB.out (Nat.le_refl _) _⟩
set_option maxHeartbeats 1000000 in
theorem of_walk1 (x o k1 : Nat) (w : World) (hx : x < 4294967296) (ho : Hid (fld x 26 6 = o)) (h1 : Hid (fld x 0 6 = k1)) (t0 : ((o : Int) == 0) = false) (t28 : ((o : Int) == 28) = true) :
    Calls Try.prog 117 #[.int .u32 (x : Int)] w fun e w' => e = .returned (ofRes (rowOf (o, k1))) ∧ Below w.heap.size w w' := by
  go_enter Try.func117, Try.ntmps117
  go_wp2_with (first
    | (go_at_call 126; with_reducible refine (rows_any _).mono ?_; rintro e w1 ⟨rfl, hb1⟩)
    | (refine wpList_store_row rfl 170 _ _ rfl w1.heap.size insTable rfl rfl 170 _ (heap_alloc_last w1 _) (by rw [insTable_size]; exact Try.info170) (by rw [insTable_size]; kernel_rfl) insTable_one ?_; rw [World.setRow_alloc_new]))
  have HT := Lib.hid (heap_alloc_last w1 (.cells insTable 170))
  have HR := Lib.hid (blk_alloc (blk_kept (heap_alloc_last w _) hb1) (.cells insTable 170))
  have HB1 := Lib.hid ((((Below.refl w.heap.size w).alloc (Nat.le_refl _) _).trans (hb1.mono (by simp))).alloc (by have := hb1.size; simp at this; omega) (.cells insTable 170))
  clear hb1
  refine (fieldI x 26 6 _ hx (by decide) (by decide)).mono ?_; rintro e w2 ⟨rfl, hb2⟩
  rw [show (26 : Int).toNat = 26 from rfl, show (6 : Int).toNat = 6 from rfl, ho.out]
  have HT2 := Lib.hid (blk_kept HT.out hb2)
  have HR2 := Lib.hid (blk_kept HR.out hb2)
  have HB2 := Lib.hid (HB1.out.trans (hb2.mono HB1.out.size))
  clear HT HR HB1 hb2
  go_wp2_with fail
  refine (fieldI x 0 6 _ hx (by decide) (by decide)).mono ?_; rintro e w3 ⟨rfl, hb3⟩
  rw [show (0 : Int).toNat = 0 from rfl, show (6 : Int).toNat = 6 from rfl, h1.out]
  have HT3 := Lib.hid (blk_kept (blk_alloc HT2.out _) hb3)
  have HR3 := Lib.hid (blk_kept (blk_alloc HR2.out _) hb3)
  have HK3 := Lib.hid (blk_kept (heap_alloc_last w2 _) hb3)
  have HB3 := Lib.hid ((HB2.out.alloc HB2.out.size _).trans (hb3.mono (by have := HB2.out.size; simp; omega)))
  have nT := blk_lt HT2.out
  have nR := blk_lt HR2.out
  have c1 : w3.cell? ⟨w2.heap.size, 1, none⟩ = some (.int .u32 0) := blk_cell HK3.out 1
  have f1 := blk_free HK3.out 1
  clear hb3 HT2 HR2 HB2
  go_wp2_with fail
  have HT4 := Lib.hid (blk_set HT3.out ⟨w2.heap.size, 1, none⟩ (.int .u32 (k1 : Int)) (by show w1.heap.size ≠ w2.heap.size; omega))
  have HR4 := Lib.hid (blk_set HR3.out ⟨w2.heap.size, 1, none⟩ (.int .u32 (k1 : Int)) (by show w.heap.size ≠ w2.heap.size; omega))
  have HK4 := Lib.hid (heap_setCell_same _ w2.heap.size 1 _ _ (.int .u32 (k1 : Int)) HK3.out)
  have HB4 := Lib.hid (HB3.out.setCell (p := ⟨w2.heap.size, 1, none⟩) (Nat.le_of_lt nR) (.int .u32 (k1 : Int)))
  clear HT3 HR3 HB3 HK3 c1 f1
  go_loopw [27] (fun i wr => ∃ k : Nat, k ≤ 69 ∧ i = .int .i64 k ∧ Hid (rowOf (o, k1) = findFrom (o, k1) (69 - k) k) ∧ Hid (wr.heap[w1.heap.size]? = some (.cells insTable 170 (0, 0))) ∧
      Hid (wr.heap[w2.heap.size]? = some (.cells #[.int .u32 (o : Int), .int .u32 (k1 : Int)] 172 (0, 0))) ∧ Hid (wr.heap[w.heap.size]? = some (.cells zeroRow 161 (0, 0))) ∧ Hid (Below w.heap.size w wr)) (fun i _ => 69 - (intOf i).toNat)
  case atStart => exact ⟨0, by omega, rfl, rfl, HT4, HK4, HR4, HB4⟩
  case round =>
    obtain ⟨k, hk, rfl, HF, HT, HK, HR, HB⟩ := hrel
    clear HT4 HK4 HR4 HB4
    by_cases hlt : k < 69
    · obtain ⟨ro, rf, rs, rc, hr⟩ : ∃ ro rf rs rc, rowAt k = (ro, rf, rs, rc) := ⟨_, _, _, _, rfl⟩
      have Hr := Lib.hid hr
      clear hr
      have hrange : wr.rangeAt w1.heap.size (4 + k * 4) [.int .i64 (ro : Int), .int .i64 (rf : Int), .string ⟨rs.toArray⟩, .int .u32 (rc : Int)] := by
        intro j v hj
        have hj4 : j < 4 := (List.getElem?_eq_some_iff.1 hj).1
        rw [blk_cell HT.out, ins_cell k j hlt hj4, Hr.out]
        exact hj
      have HRG := Lib.hid hrange
      clear hrange
      have hK0 : wr.cell? ⟨w2.heap.size, 0, none⟩ = some (.int .u32 (o : Int)) := blk_cell HK.out 0
      have hK1 : wr.cell? ⟨w2.heap.size, 1, none⟩ = some (.int .u32 (k1 : Int)) := blk_cell HK.out 1
      have hKl := blk_lt HK.out
      go_wp2_with (first
        | (refine wpList_load_mid rfl 161 _ rfl w1.heap.size (4 + k * 4) rfl [.int .i64 (ro : Int), .int .i64 (rf : Int), .string ⟨rs.toArray⟩, .int .u32 (rc : Int)] _ HRG.out Try.underlying161 rfl Try.info161 ?_)
        | (refine wpList_store_row rfl 161 _ _ rfl wr.heap.size #[.int .i64 (ro : Int), .int .i64 (rf : Int), .string ⟨rs.toArray⟩, .int .u32 (rc : Int)] rfl rfl 161 _ (heap_alloc_last wr _) Try.info161 rfl rfl ?_; rw [World.setRow_alloc_new]))
      have HB5 := Lib.hid (HB.out.alloc HB.out.size (.cells #[.int .i64 (ro : Int), .int .i64 (rf : Int), .string ⟨rs.toArray⟩, .int .u32 (rc : Int)] 161))
      obtain ⟨sa, sb, hs⟩ : ∃ sa sb, slotN rf rc = (sa, sb) := ⟨_, _, rfl⟩
      have Hs := Lib.hid hs
      clear hs
      have heq := eq172
      by_cases hm : sa = o ∧ sb = k1
      · have e1 : ((sa : Int) == (o : Int)) = true := by rw [hm.1]; simp
        have e2 : ((sb : Int) == (k1 : Int)) = true := by rw [hm.2]; simp
        have HF' : Hid (rowOf (o, k1) = some (ro, rf, rs, rc)) := by show _ = _; rw [HF.out, findFrom_hit hlt (by rw [rowSlot, Hr.out, Hs.out, hm.1, hm.2]), Hr.out]
        clear hm
        go_region_with (go_at_call 127; refine (slot_any _ _ _ _ _).mono ?_; rintro e w5 ⟨rfl, hb5⟩; rw [Hs.out]; have k50 := blk_cell (blk_kept (blk_drew (blk_alloc HK.out _)) hb5) 0; have k51 := blk_cell (blk_kept (blk_drew (blk_alloc HK.out _)) hb5) 1)
        all_goals
          have HT5 := Lib.hid (blk_kept (blk_drew (blk_alloc HT.out (.cells #[.int .i64 (ro : Int), .int .i64 (rf : Int), .string ⟨rs.toArray⟩, .int .u32 (rc : Int)] 161))) hb5)
          have HK5 := Lib.hid (blk_kept (blk_drew (blk_alloc HK.out (.cells #[.int .i64 (ro : Int), .int .i64 (rf : Int), .string ⟨rs.toArray⟩, .int .u32 (rc : Int)] 161))) hb5)
          have HN5 := Lib.hid (blk_kept (blk_drew (heap_alloc_last wr (.cells #[.int .i64 (ro : Int), .int .i64 (rf : Int), .string ⟨rs.toArray⟩, .int .u32 (rc : Int)] 161))) hb5)
          have HR5 := Lib.hid (blk_kept (blk_drew (blk_alloc HR.out (.cells #[.int .i64 (ro : Int), .int .i64 (rf : Int), .string ⟨rs.toArray⟩, .int .u32 (rc : Int)] 161))) hb5)
          have HB6 := Lib.hid (HB5.out.drew.trans (hb5.mono HB5.out.size))
          clear hb5 k50 k51 hK0 hK1 hKl heq
          go_wp2_with (first
            | (refine wpList_load_row rfl 161 _ rfl wr.heap.size rfl 161 _ (0, 0) _ HN5.out Try.underlying161 rfl Try.info161 ?_)
            | (refine wpList_store_row rfl 161 _ _ rfl w.heap.size #[.int .i64 (ro : Int), .int .i64 (rf : Int), .string ⟨rs.toArray⟩, .int .u32 (rc : Int)] rfl rfl 161 zeroRow HR5.out Try.info161 rfl (row4_one _ _ _ _) ?_))
          exact of_end rfl rfl (blk_row HR5.out _) rfl ⟨by rw [HF'.out]; rfl, below_row HB6.out (Nat.le_refl _) _⟩
      · have HF' : Hid (rowOf (o, k1) = findFrom (o, k1) (69 - (k + 1)) (k + 1)) := by show _ = _; rw [HF.out, findFrom_miss hlt (by rw [rowSlot, Hr.out, Hs.out]; intro e; exact hm (by simpa using e))]
        by_cases hm1 : sa = o
        · have e1 : ((sa : Int) == (o : Int)) = true := by rw [hm1]; simp
          have e2 : ((sb : Int) == (k1 : Int)) = false := by
            have : ¬ sb = k1 := fun h => hm ⟨hm1, h⟩
            simp; omega
          clear hm hm1
          go_region_with (go_at_call 127; refine (slot_any _ _ _ _ _).mono ?_; rintro e w5 ⟨rfl, hb5⟩; rw [Hs.out]; have k50 := blk_cell (blk_kept (blk_drew (blk_alloc HK.out _)) hb5) 0; have k51 := blk_cell (blk_kept (blk_drew (blk_alloc HK.out _)) hb5) 1)
          all_goals
            have HT5 := Lib.hid (blk_kept (blk_drew (blk_alloc HT.out (.cells #[.int .i64 (ro : Int), .int .i64 (rf : Int), .string ⟨rs.toArray⟩, .int .u32 (rc : Int)] 161))) hb5)
            have HK5 := Lib.hid (blk_kept (blk_drew (blk_alloc HK.out (.cells #[.int .i64 (ro : Int), .int .i64 (rf : Int), .string ⟨rs.toArray⟩, .int .u32 (rc : Int)] 161))) hb5)
            have HN5 := Lib.hid (blk_kept (blk_drew (heap_alloc_last wr (.cells #[.int .i64 (ro : Int), .int .i64 (rf : Int), .string ⟨rs.toArray⟩, .int .u32 (rc : Int)] 161))) hb5)
            have HR5 := Lib.hid (blk_kept (blk_drew (blk_alloc HR.out (.cells #[.int .i64 (ro : Int), .int .i64 (rf : Int), .string ⟨rs.toArray⟩, .int .u32 (rc : Int)] 161))) hb5)
            have HB6 := Lib.hid (HB5.out.drew.trans (hb5.mono HB5.out.size))
            clear hb5 k50 k51 hK0 hK1 hKl heq
            go_wp2
            go_roundw
            case rel => exact ⟨k + 1, by omega, by go_num, HF'.out, HT5, HK5, HR5, HB6⟩
            case measure => simp [intOf]; omega
        · have e1 : ((sa : Int) == (o : Int)) = false := by simp; omega
          clear hm hm1
          go_region_with (go_at_call 127; refine (slot_any _ _ _ _ _).mono ?_; rintro e w5 ⟨rfl, hb5⟩; rw [Hs.out]; have k50 := blk_cell (blk_kept (blk_drew (blk_alloc HK.out _)) hb5) 0; have k51 := blk_cell (blk_kept (blk_drew (blk_alloc HK.out _)) hb5) 1)
          all_goals
            have HT5 := Lib.hid (blk_kept (blk_drew (blk_alloc HT.out (.cells #[.int .i64 (ro : Int), .int .i64 (rf : Int), .string ⟨rs.toArray⟩, .int .u32 (rc : Int)] 161))) hb5)
            have HK5 := Lib.hid (blk_kept (blk_drew (blk_alloc HK.out (.cells #[.int .i64 (ro : Int), .int .i64 (rf : Int), .string ⟨rs.toArray⟩, .int .u32 (rc : Int)] 161))) hb5)
            have HN5 := Lib.hid (blk_kept (blk_drew (heap_alloc_last wr (.cells #[.int .i64 (ro : Int), .int .i64 (rf : Int), .string ⟨rs.toArray⟩, .int .u32 (rc : Int)] 161))) hb5)
            have HR5 := Lib.hid (blk_kept (blk_drew (blk_alloc HR.out (.cells #[.int .i64 (ro : Int), .int .i64 (rf : Int), .string ⟨rs.toArray⟩, .int .u32 (rc : Int)] 161))) hb5)
            have HB6 := Lib.hid (HB5.out.drew.trans (hb5.mono HB5.out.size))
            clear hb5 k50 k51 hK0 hK1 hKl heq
            go_wp2
            go_roundw
            case rel => exact ⟨k + 1, by omega, by go_num, HF'.out, HT5, HK5, HR5, HB6⟩
            case measure => simp [intOf]; omega
    · obtain rfl : k = 69 := by omega
      go_wp2_with (refine wpList_store_row rfl 161 _ _ rfl w.heap.size zeroRow rfl rfl 161 zeroRow HR.out Try.info161 rfl (row4_one _ _ _ _) ?_)
      exact of_end rfl rfl (blk_row HR.out _) rfl ⟨by rw [HF.out]; rfl, below_row HB.out (Nat.le_refl _) _⟩
set_option maxHeartbeats 1000000 in
theorem of_walk2 (x o k1 : Nat) (w : World) (hx : x < 4294967296) (ho : Hid (fld x 26 6 = o)) (h1 : Hid (fld x 16 5 = k1)) (t0 : ((o : Int) == 0) = false) (t28 : ((o : Int) == 28) = false) (t1 : ((o : Int) == 1) = true) :
    Calls Try.prog 117 #[.int .u32 (x : Int)] w fun e w' => e = .returned (ofRes (rowOf (o, k1))) ∧ Below w.heap.size w w' := by
  go_enter Try.func117, Try.ntmps117
  go_wp2_with (first
    | (go_at_call 126; with_reducible refine (rows_any _).mono ?_; rintro e w1 ⟨rfl, hb1⟩)
    | (refine wpList_store_row rfl 170 _ _ rfl w1.heap.size insTable rfl rfl 170 _ (heap_alloc_last w1 _) (by rw [insTable_size]; exact Try.info170) (by rw [insTable_size]; kernel_rfl) insTable_one ?_; rw [World.setRow_alloc_new]))
  have HT := Lib.hid (heap_alloc_last w1 (.cells insTable 170))
  have HR := Lib.hid (blk_alloc (blk_kept (heap_alloc_last w _) hb1) (.cells insTable 170))
  have HB1 := Lib.hid ((((Below.refl w.heap.size w).alloc (Nat.le_refl _) _).trans (hb1.mono (by simp))).alloc (by have := hb1.size; simp at this; omega) (.cells insTable 170))
  clear hb1
  refine (fieldI x 26 6 _ hx (by decide) (by decide)).mono ?_; rintro e w2 ⟨rfl, hb2⟩
  rw [show (26 : Int).toNat = 26 from rfl, show (6 : Int).toNat = 6 from rfl, ho.out]
  have HT2 := Lib.hid (blk_kept HT.out hb2)
  have HR2 := Lib.hid (blk_kept HR.out hb2)
  have HB2 := Lib.hid (HB1.out.trans (hb2.mono HB1.out.size))
  clear HT HR HB1 hb2
  go_wp2_with fail
  refine (fieldI x 16 5 _ hx (by decide) (by decide)).mono ?_; rintro e w3 ⟨rfl, hb3⟩
  rw [show (16 : Int).toNat = 16 from rfl, show (5 : Int).toNat = 5 from rfl, h1.out]
  have HT3 := Lib.hid (blk_kept (blk_alloc HT2.out _) hb3)
  have HR3 := Lib.hid (blk_kept (blk_alloc HR2.out _) hb3)
  have HK3 := Lib.hid (blk_kept (heap_alloc_last w2 _) hb3)
  have HB3 := Lib.hid ((HB2.out.alloc HB2.out.size _).trans (hb3.mono (by have := HB2.out.size; simp; omega)))
  have nT := blk_lt HT2.out
  have nR := blk_lt HR2.out
  have c1 : w3.cell? ⟨w2.heap.size, 1, none⟩ = some (.int .u32 0) := blk_cell HK3.out 1
  have f1 := blk_free HK3.out 1
  clear hb3 HT2 HR2 HB2
  go_wp2_with fail
  have HT4 := Lib.hid (blk_set HT3.out ⟨w2.heap.size, 1, none⟩ (.int .u32 (k1 : Int)) (by show w1.heap.size ≠ w2.heap.size; omega))
  have HR4 := Lib.hid (blk_set HR3.out ⟨w2.heap.size, 1, none⟩ (.int .u32 (k1 : Int)) (by show w.heap.size ≠ w2.heap.size; omega))
  have HK4 := Lib.hid (heap_setCell_same _ w2.heap.size 1 _ _ (.int .u32 (k1 : Int)) HK3.out)
  have HB4 := Lib.hid (HB3.out.setCell (p := ⟨w2.heap.size, 1, none⟩) (Nat.le_of_lt nR) (.int .u32 (k1 : Int)))
  clear HT3 HR3 HB3 HK3 c1 f1
  go_loopw [27] (fun i wr => ∃ k : Nat, k ≤ 69 ∧ i = .int .i64 k ∧ Hid (rowOf (o, k1) = findFrom (o, k1) (69 - k) k) ∧ Hid (wr.heap[w1.heap.size]? = some (.cells insTable 170 (0, 0))) ∧
      Hid (wr.heap[w2.heap.size]? = some (.cells #[.int .u32 (o : Int), .int .u32 (k1 : Int)] 172 (0, 0))) ∧ Hid (wr.heap[w.heap.size]? = some (.cells zeroRow 161 (0, 0))) ∧ Hid (Below w.heap.size w wr)) (fun i _ => 69 - (intOf i).toNat)
  case atStart => exact ⟨0, by omega, rfl, rfl, HT4, HK4, HR4, HB4⟩
  case round =>
    obtain ⟨k, hk, rfl, HF, HT, HK, HR, HB⟩ := hrel
    clear HT4 HK4 HR4 HB4
    by_cases hlt : k < 69
    · obtain ⟨ro, rf, rs, rc, hr⟩ : ∃ ro rf rs rc, rowAt k = (ro, rf, rs, rc) := ⟨_, _, _, _, rfl⟩
      have Hr := Lib.hid hr
      clear hr
      have hrange : wr.rangeAt w1.heap.size (4 + k * 4) [.int .i64 (ro : Int), .int .i64 (rf : Int), .string ⟨rs.toArray⟩, .int .u32 (rc : Int)] := by
        intro j v hj
        have hj4 : j < 4 := (List.getElem?_eq_some_iff.1 hj).1
        rw [blk_cell HT.out, ins_cell k j hlt hj4, Hr.out]
        exact hj
      have HRG := Lib.hid hrange
      clear hrange
      have hK0 : wr.cell? ⟨w2.heap.size, 0, none⟩ = some (.int .u32 (o : Int)) := blk_cell HK.out 0
      have hK1 : wr.cell? ⟨w2.heap.size, 1, none⟩ = some (.int .u32 (k1 : Int)) := blk_cell HK.out 1
      have hKl := blk_lt HK.out
      go_wp2_with (first
        | (refine wpList_load_mid rfl 161 _ rfl w1.heap.size (4 + k * 4) rfl [.int .i64 (ro : Int), .int .i64 (rf : Int), .string ⟨rs.toArray⟩, .int .u32 (rc : Int)] _ HRG.out Try.underlying161 rfl Try.info161 ?_)
        | (refine wpList_store_row rfl 161 _ _ rfl wr.heap.size #[.int .i64 (ro : Int), .int .i64 (rf : Int), .string ⟨rs.toArray⟩, .int .u32 (rc : Int)] rfl rfl 161 _ (heap_alloc_last wr _) Try.info161 rfl rfl ?_; rw [World.setRow_alloc_new]))
      have HB5 := Lib.hid (HB.out.alloc HB.out.size (.cells #[.int .i64 (ro : Int), .int .i64 (rf : Int), .string ⟨rs.toArray⟩, .int .u32 (rc : Int)] 161))
      obtain ⟨sa, sb, hs⟩ : ∃ sa sb, slotN rf rc = (sa, sb) := ⟨_, _, rfl⟩
      have Hs := Lib.hid hs
      clear hs
      have heq := eq172
      by_cases hm : sa = o ∧ sb = k1
      · have e1 : ((sa : Int) == (o : Int)) = true := by rw [hm.1]; simp
        have e2 : ((sb : Int) == (k1 : Int)) = true := by rw [hm.2]; simp
        have HF' : Hid (rowOf (o, k1) = some (ro, rf, rs, rc)) := by show _ = _; rw [HF.out, findFrom_hit hlt (by rw [rowSlot, Hr.out, Hs.out, hm.1, hm.2]), Hr.out]
        clear hm
        go_region_with (go_at_call 127; refine (slot_any _ _ _ _ _).mono ?_; rintro e w5 ⟨rfl, hb5⟩; rw [Hs.out]; have k50 := blk_cell (blk_kept (blk_drew (blk_alloc HK.out _)) hb5) 0; have k51 := blk_cell (blk_kept (blk_drew (blk_alloc HK.out _)) hb5) 1)
        all_goals
          have HT5 := Lib.hid (blk_kept (blk_drew (blk_alloc HT.out (.cells #[.int .i64 (ro : Int), .int .i64 (rf : Int), .string ⟨rs.toArray⟩, .int .u32 (rc : Int)] 161))) hb5)
          have HK5 := Lib.hid (blk_kept (blk_drew (blk_alloc HK.out (.cells #[.int .i64 (ro : Int), .int .i64 (rf : Int), .string ⟨rs.toArray⟩, .int .u32 (rc : Int)] 161))) hb5)
          have HN5 := Lib.hid (blk_kept (blk_drew (heap_alloc_last wr (.cells #[.int .i64 (ro : Int), .int .i64 (rf : Int), .string ⟨rs.toArray⟩, .int .u32 (rc : Int)] 161))) hb5)
          have HR5 := Lib.hid (blk_kept (blk_drew (blk_alloc HR.out (.cells #[.int .i64 (ro : Int), .int .i64 (rf : Int), .string ⟨rs.toArray⟩, .int .u32 (rc : Int)] 161))) hb5)
          have HB6 := Lib.hid (HB5.out.drew.trans (hb5.mono HB5.out.size))
          clear hb5 k50 k51 hK0 hK1 hKl heq
          go_wp2_with (first
            | (refine wpList_load_row rfl 161 _ rfl wr.heap.size rfl 161 _ (0, 0) _ HN5.out Try.underlying161 rfl Try.info161 ?_)
            | (refine wpList_store_row rfl 161 _ _ rfl w.heap.size #[.int .i64 (ro : Int), .int .i64 (rf : Int), .string ⟨rs.toArray⟩, .int .u32 (rc : Int)] rfl rfl 161 zeroRow HR5.out Try.info161 rfl (row4_one _ _ _ _) ?_))
          exact of_end rfl rfl (blk_row HR5.out _) rfl ⟨by rw [HF'.out]; rfl, below_row HB6.out (Nat.le_refl _) _⟩
      · have HF' : Hid (rowOf (o, k1) = findFrom (o, k1) (69 - (k + 1)) (k + 1)) := by show _ = _; rw [HF.out, findFrom_miss hlt (by rw [rowSlot, Hr.out, Hs.out]; intro e; exact hm (by simpa using e))]
        by_cases hm1 : sa = o
        · have e1 : ((sa : Int) == (o : Int)) = true := by rw [hm1]; simp
          have e2 : ((sb : Int) == (k1 : Int)) = false := by
            have : ¬ sb = k1 := fun h => hm ⟨hm1, h⟩
            simp; omega
          clear hm hm1
          go_region_with (go_at_call 127; refine (slot_any _ _ _ _ _).mono ?_; rintro e w5 ⟨rfl, hb5⟩; rw [Hs.out]; have k50 := blk_cell (blk_kept (blk_drew (blk_alloc HK.out _)) hb5) 0; have k51 := blk_cell (blk_kept (blk_drew (blk_alloc HK.out _)) hb5) 1)
          all_goals
            have HT5 := Lib.hid (blk_kept (blk_drew (blk_alloc HT.out (.cells #[.int .i64 (ro : Int), .int .i64 (rf : Int), .string ⟨rs.toArray⟩, .int .u32 (rc : Int)] 161))) hb5)
            have HK5 := Lib.hid (blk_kept (blk_drew (blk_alloc HK.out (.cells #[.int .i64 (ro : Int), .int .i64 (rf : Int), .string ⟨rs.toArray⟩, .int .u32 (rc : Int)] 161))) hb5)
            have HN5 := Lib.hid (blk_kept (blk_drew (heap_alloc_last wr (.cells #[.int .i64 (ro : Int), .int .i64 (rf : Int), .string ⟨rs.toArray⟩, .int .u32 (rc : Int)] 161))) hb5)
            have HR5 := Lib.hid (blk_kept (blk_drew (blk_alloc HR.out (.cells #[.int .i64 (ro : Int), .int .i64 (rf : Int), .string ⟨rs.toArray⟩, .int .u32 (rc : Int)] 161))) hb5)
            have HB6 := Lib.hid (HB5.out.drew.trans (hb5.mono HB5.out.size))
            clear hb5 k50 k51 hK0 hK1 hKl heq
            go_wp2
            go_roundw
            case rel => exact ⟨k + 1, by omega, by go_num, HF'.out, HT5, HK5, HR5, HB6⟩
            case measure => simp [intOf]; omega
        · have e1 : ((sa : Int) == (o : Int)) = false := by simp; omega
          clear hm hm1
          go_region_with (go_at_call 127; refine (slot_any _ _ _ _ _).mono ?_; rintro e w5 ⟨rfl, hb5⟩; rw [Hs.out]; have k50 := blk_cell (blk_kept (blk_drew (blk_alloc HK.out _)) hb5) 0; have k51 := blk_cell (blk_kept (blk_drew (blk_alloc HK.out _)) hb5) 1)
          all_goals
            have HT5 := Lib.hid (blk_kept (blk_drew (blk_alloc HT.out (.cells #[.int .i64 (ro : Int), .int .i64 (rf : Int), .string ⟨rs.toArray⟩, .int .u32 (rc : Int)] 161))) hb5)
            have HK5 := Lib.hid (blk_kept (blk_drew (blk_alloc HK.out (.cells #[.int .i64 (ro : Int), .int .i64 (rf : Int), .string ⟨rs.toArray⟩, .int .u32 (rc : Int)] 161))) hb5)
            have HN5 := Lib.hid (blk_kept (blk_drew (heap_alloc_last wr (.cells #[.int .i64 (ro : Int), .int .i64 (rf : Int), .string ⟨rs.toArray⟩, .int .u32 (rc : Int)] 161))) hb5)
            have HR5 := Lib.hid (blk_kept (blk_drew (blk_alloc HR.out (.cells #[.int .i64 (ro : Int), .int .i64 (rf : Int), .string ⟨rs.toArray⟩, .int .u32 (rc : Int)] 161))) hb5)
            have HB6 := Lib.hid (HB5.out.drew.trans (hb5.mono HB5.out.size))
            clear hb5 k50 k51 hK0 hK1 hKl heq
            go_wp2
            go_roundw
            case rel => exact ⟨k + 1, by omega, by go_num, HF'.out, HT5, HK5, HR5, HB6⟩
            case measure => simp [intOf]; omega
    · obtain rfl : k = 69 := by omega
      go_wp2_with (refine wpList_store_row rfl 161 _ _ rfl w.heap.size zeroRow rfl rfl 161 zeroRow HR.out Try.info161 rfl (row4_one _ _ _ _) ?_)
      exact of_end rfl rfl (blk_row HR.out _) rfl ⟨by rw [HF.out]; rfl, below_row HB.out (Nat.le_refl _) _⟩
set_option maxHeartbeats 1000000 in
theorem of_walk3 (x o : Nat) (w : World) (hx : x < 4294967296) (ho : Hid (fld x 26 6 = o)) (t0 : ((o : Int) == 0) = false) (t28 : ((o : Int) == 28) = false) (t1 : ((o : Int) == 1) = false) :
    Calls Try.prog 117 #[.int .u32 (x : Int)] w fun e w' => e = .returned (ofRes (rowOf (o, 0))) ∧ Below w.heap.size w w' := by
  go_enter Try.func117, Try.ntmps117
  go_wp2_with (first
    | (go_at_call 126; with_reducible refine (rows_any _).mono ?_; rintro e w1 ⟨rfl, hb1⟩)
    | (refine wpList_store_row rfl 170 _ _ rfl w1.heap.size insTable rfl rfl 170 _ (heap_alloc_last w1 _) (by rw [insTable_size]; exact Try.info170) (by rw [insTable_size]; kernel_rfl) insTable_one ?_; rw [World.setRow_alloc_new]))
  have HT := Lib.hid (heap_alloc_last w1 (.cells insTable 170))
  have HR := Lib.hid (blk_alloc (blk_kept (heap_alloc_last w _) hb1) (.cells insTable 170))
  have HB1 := Lib.hid ((((Below.refl w.heap.size w).alloc (Nat.le_refl _) _).trans (hb1.mono (by simp))).alloc (by have := hb1.size; simp at this; omega) (.cells insTable 170))
  clear hb1
  refine (fieldI x 26 6 _ hx (by decide) (by decide)).mono ?_; rintro e w2 ⟨rfl, hb2⟩
  rw [show (26 : Int).toNat = 26 from rfl, show (6 : Int).toNat = 6 from rfl, ho.out]
  have HT2 := Lib.hid (blk_kept HT.out hb2)
  have HR2 := Lib.hid (blk_kept HR.out hb2)
  have HB2 := Lib.hid (HB1.out.trans (hb2.mono HB1.out.size))
  clear HT HR HB1 hb2
  go_wp2_with fail
  have HT4 := Lib.hid (blk_alloc HT2.out (.cells #[.int .u32 (o : Int), .int .u32 0] 172))
  have HR4 := Lib.hid (blk_alloc HR2.out (.cells #[.int .u32 (o : Int), .int .u32 0] 172))
  have HK4 := Lib.hid (heap_alloc_last w2 (.cells #[.int .u32 (o : Int), .int .u32 0] 172))
  have HB4 := Lib.hid (HB2.out.alloc HB2.out.size (.cells #[.int .u32 (o : Int), .int .u32 0] 172))
  have nT := blk_lt HT2.out
  have nR := blk_lt HR2.out
  clear HT2 HR2 HB2
  go_loopw [27] (fun i wr => ∃ k : Nat, k ≤ 69 ∧ i = .int .i64 k ∧ Hid (rowOf (o, 0) = findFrom (o, 0) (69 - k) k) ∧ Hid (wr.heap[w1.heap.size]? = some (.cells insTable 170 (0, 0))) ∧
      Hid (wr.heap[w2.heap.size]? = some (.cells #[.int .u32 (o : Int), .int .u32 0] 172 (0, 0))) ∧ Hid (wr.heap[w.heap.size]? = some (.cells zeroRow 161 (0, 0))) ∧ Hid (Below w.heap.size w wr)) (fun i _ => 69 - (intOf i).toNat)
  case atStart => exact ⟨0, by omega, rfl, rfl, HT4, HK4, HR4, HB4⟩
  case round =>
    obtain ⟨k, hk, rfl, HF, HT, HK, HR, HB⟩ := hrel
    clear HT4 HK4 HR4 HB4
    by_cases hlt : k < 69
    · obtain ⟨ro, rf, rs, rc, hr⟩ : ∃ ro rf rs rc, rowAt k = (ro, rf, rs, rc) := ⟨_, _, _, _, rfl⟩
      have Hr := Lib.hid hr
      clear hr
      have hrange : wr.rangeAt w1.heap.size (4 + k * 4) [.int .i64 (ro : Int), .int .i64 (rf : Int), .string ⟨rs.toArray⟩, .int .u32 (rc : Int)] := by
        intro j v hj
        have hj4 : j < 4 := (List.getElem?_eq_some_iff.1 hj).1
        rw [blk_cell HT.out, ins_cell k j hlt hj4, Hr.out]
        exact hj
      have HRG := Lib.hid hrange
      clear hrange
      have hK0 : wr.cell? ⟨w2.heap.size, 0, none⟩ = some (.int .u32 (o : Int)) := blk_cell HK.out 0
      have hK1 : wr.cell? ⟨w2.heap.size, 1, none⟩ = some (.int .u32 0) := blk_cell HK.out 1
      have hKl := blk_lt HK.out
      go_wp2_with (first
        | (refine wpList_load_mid rfl 161 _ rfl w1.heap.size (4 + k * 4) rfl [.int .i64 (ro : Int), .int .i64 (rf : Int), .string ⟨rs.toArray⟩, .int .u32 (rc : Int)] _ HRG.out Try.underlying161 rfl Try.info161 ?_)
        | (refine wpList_store_row rfl 161 _ _ rfl wr.heap.size #[.int .i64 (ro : Int), .int .i64 (rf : Int), .string ⟨rs.toArray⟩, .int .u32 (rc : Int)] rfl rfl 161 _ (heap_alloc_last wr _) Try.info161 rfl rfl ?_; rw [World.setRow_alloc_new]))
      have HB5 := Lib.hid (HB.out.alloc HB.out.size (.cells #[.int .i64 (ro : Int), .int .i64 (rf : Int), .string ⟨rs.toArray⟩, .int .u32 (rc : Int)] 161))
      obtain ⟨sa, sb, hs⟩ : ∃ sa sb, slotN rf rc = (sa, sb) := ⟨_, _, rfl⟩
      have Hs := Lib.hid hs
      clear hs
      have heq := eq172
      by_cases hm : sa = o ∧ sb = 0
      · have e1 : ((sa : Int) == (o : Int)) = true := by rw [hm.1]; simp
        have e2 : ((sb : Int) == 0) = true := by rw [hm.2]; simp
        have HF' : Hid (rowOf (o, 0) = some (ro, rf, rs, rc)) := by show _ = _; rw [HF.out, findFrom_hit hlt (by rw [rowSlot, Hr.out, Hs.out, hm.1, hm.2]), Hr.out]
        clear hm
        go_region_with (go_at_call 127; refine (slot_any _ _ _ _ _).mono ?_; rintro e w5 ⟨rfl, hb5⟩; rw [Hs.out]; have k50 := blk_cell (blk_kept (blk_drew (blk_alloc HK.out _)) hb5) 0; have k51 := blk_cell (blk_kept (blk_drew (blk_alloc HK.out _)) hb5) 1)
        all_goals
          have HT5 := Lib.hid (blk_kept (blk_drew (blk_alloc HT.out (.cells #[.int .i64 (ro : Int), .int .i64 (rf : Int), .string ⟨rs.toArray⟩, .int .u32 (rc : Int)] 161))) hb5)
          have HK5 := Lib.hid (blk_kept (blk_drew (blk_alloc HK.out (.cells #[.int .i64 (ro : Int), .int .i64 (rf : Int), .string ⟨rs.toArray⟩, .int .u32 (rc : Int)] 161))) hb5)
          have HN5 := Lib.hid (blk_kept (blk_drew (heap_alloc_last wr (.cells #[.int .i64 (ro : Int), .int .i64 (rf : Int), .string ⟨rs.toArray⟩, .int .u32 (rc : Int)] 161))) hb5)
          have HR5 := Lib.hid (blk_kept (blk_drew (blk_alloc HR.out (.cells #[.int .i64 (ro : Int), .int .i64 (rf : Int), .string ⟨rs.toArray⟩, .int .u32 (rc : Int)] 161))) hb5)
          have HB6 := Lib.hid (HB5.out.drew.trans (hb5.mono HB5.out.size))
          clear hb5 k50 k51 hK0 hK1 hKl heq
          go_wp2_with (first
            | (refine wpList_load_row rfl 161 _ rfl wr.heap.size rfl 161 _ (0, 0) _ HN5.out Try.underlying161 rfl Try.info161 ?_)
            | (refine wpList_store_row rfl 161 _ _ rfl w.heap.size #[.int .i64 (ro : Int), .int .i64 (rf : Int), .string ⟨rs.toArray⟩, .int .u32 (rc : Int)] rfl rfl 161 zeroRow HR5.out Try.info161 rfl (row4_one _ _ _ _) ?_))
          exact of_end rfl rfl (blk_row HR5.out _) rfl ⟨by rw [HF'.out]; rfl, below_row HB6.out (Nat.le_refl _) _⟩
      · have HF' : Hid (rowOf (o, 0) = findFrom (o, 0) (69 - (k + 1)) (k + 1)) := by show _ = _; rw [HF.out, findFrom_miss hlt (by rw [rowSlot, Hr.out, Hs.out]; intro e; exact hm (by simpa using e))]
        by_cases hm1 : sa = o
        · have e1 : ((sa : Int) == (o : Int)) = true := by rw [hm1]; simp
          have e2 : ((sb : Int) == 0) = false := by
            have : ¬ sb = 0 := fun h => hm ⟨hm1, h⟩
            simp; omega
          clear hm hm1
          go_region_with (go_at_call 127; refine (slot_any _ _ _ _ _).mono ?_; rintro e w5 ⟨rfl, hb5⟩; rw [Hs.out]; have k50 := blk_cell (blk_kept (blk_drew (blk_alloc HK.out _)) hb5) 0; have k51 := blk_cell (blk_kept (blk_drew (blk_alloc HK.out _)) hb5) 1)
          all_goals
            have HT5 := Lib.hid (blk_kept (blk_drew (blk_alloc HT.out (.cells #[.int .i64 (ro : Int), .int .i64 (rf : Int), .string ⟨rs.toArray⟩, .int .u32 (rc : Int)] 161))) hb5)
            have HK5 := Lib.hid (blk_kept (blk_drew (blk_alloc HK.out (.cells #[.int .i64 (ro : Int), .int .i64 (rf : Int), .string ⟨rs.toArray⟩, .int .u32 (rc : Int)] 161))) hb5)
            have HN5 := Lib.hid (blk_kept (blk_drew (heap_alloc_last wr (.cells #[.int .i64 (ro : Int), .int .i64 (rf : Int), .string ⟨rs.toArray⟩, .int .u32 (rc : Int)] 161))) hb5)
            have HR5 := Lib.hid (blk_kept (blk_drew (blk_alloc HR.out (.cells #[.int .i64 (ro : Int), .int .i64 (rf : Int), .string ⟨rs.toArray⟩, .int .u32 (rc : Int)] 161))) hb5)
            have HB6 := Lib.hid (HB5.out.drew.trans (hb5.mono HB5.out.size))
            clear hb5 k50 k51 hK0 hK1 hKl heq
            go_wp2
            go_roundw
            case rel => exact ⟨k + 1, by omega, by go_num, HF'.out, HT5, HK5, HR5, HB6⟩
            case measure => simp [intOf]; omega
        · have e1 : ((sa : Int) == (o : Int)) = false := by simp; omega
          clear hm hm1
          go_region_with (go_at_call 127; refine (slot_any _ _ _ _ _).mono ?_; rintro e w5 ⟨rfl, hb5⟩; rw [Hs.out]; have k50 := blk_cell (blk_kept (blk_drew (blk_alloc HK.out _)) hb5) 0; have k51 := blk_cell (blk_kept (blk_drew (blk_alloc HK.out _)) hb5) 1)
          all_goals
            have HT5 := Lib.hid (blk_kept (blk_drew (blk_alloc HT.out (.cells #[.int .i64 (ro : Int), .int .i64 (rf : Int), .string ⟨rs.toArray⟩, .int .u32 (rc : Int)] 161))) hb5)
            have HK5 := Lib.hid (blk_kept (blk_drew (blk_alloc HK.out (.cells #[.int .i64 (ro : Int), .int .i64 (rf : Int), .string ⟨rs.toArray⟩, .int .u32 (rc : Int)] 161))) hb5)
            have HN5 := Lib.hid (blk_kept (blk_drew (heap_alloc_last wr (.cells #[.int .i64 (ro : Int), .int .i64 (rf : Int), .string ⟨rs.toArray⟩, .int .u32 (rc : Int)] 161))) hb5)
            have HR5 := Lib.hid (blk_kept (blk_drew (blk_alloc HR.out (.cells #[.int .i64 (ro : Int), .int .i64 (rf : Int), .string ⟨rs.toArray⟩, .int .u32 (rc : Int)] 161))) hb5)
            have HB6 := Lib.hid (HB5.out.drew.trans (hb5.mono HB5.out.size))
            clear hb5 k50 k51 hK0 hK1 hKl heq
            go_wp2
            go_roundw
            case rel => exact ⟨k + 1, by omega, by go_num, HF'.out, HT5, HK5, HR5, HB6⟩
            case measure => simp [intOf]; omega
    · obtain rfl : k = 69 := by omega
      go_wp2_with (refine wpList_store_row rfl 161 _ _ rfl w.heap.size zeroRow rfl rfl 161 zeroRow HR.out Try.info161 rfl (row4_one _ _ _ _) ?_)
      exact of_end rfl rfl (blk_row HR.out _) rfl ⟨by rw [HF.out]; rfl, below_row HB.out (Nat.le_refl _) _⟩

/-- 'ins.of': the row of a word. -/
theorem of_any (x : Nat) (w : World) (hx : x < 4294967296) : Calls Try.prog 117 #[.int .u32 (x : Int)] w fun e w' => e = .returned (ofRes (rowOf (keyN x))) ∧ Below w.heap.size w w' := by
  by_cases h0 : fld x 26 6 = 0
  · have e : keyN x = (0, fld x 0 6) := by unfold keyN; rw [h0]; rfl
    rw [e]
    exact of_walk0 x 0 _ w hx h0 rfl rfl
  · have n0 : (((fld x 26 6 : Nat) : Int) == 0) = false := by simp; omega
    by_cases h28 : fld x 26 6 = 28
    · have e : keyN x = (28, fld x 0 6) := by unfold keyN; rw [h28]; rfl
      rw [e]
      exact of_walk1 x 28 _ w hx h28 rfl rfl rfl
    · have n28 : (((fld x 26 6 : Nat) : Int) == 28) = false := by simp; omega
      by_cases h1 : fld x 26 6 = 1
      · have e : keyN x = (1, fld x 16 5) := by unfold keyN; rw [h1]; rfl
        rw [e]
        exact of_walk2 x 1 _ w hx h1 rfl rfl rfl rfl
      · have n1 : (((fld x 26 6 : Nat) : Int) == 1) = false := by simp; omega
        have e : keyN x = (fld x 26 6, 0) := by unfold keyN; rw [if_neg (by omega), if_neg h1]
        rw [e]
        exact of_walk3 x _ w hx rfl n0 n28 n1
end Go.Proofs.Ytjoaenfibkgplaa
