import Derived.Test.YtjoaenfibkgplaaE9
namespace Go.Proofs.Ytjoaenfibkgplaa
set_option linter.unusedSimpArgs false
open Go.RowKit Go.Cq
set_option linter.unusedVariables false

/-- The document's own decoding, from a row on. -/
def refFrom (x : Nat) : Nat → Nat → Insn
  | 0, _ => zeroIns
  | n + 1, k => if fitsN (rrow k).2.1 (rrow k).2.2.1 (rrow k).2.2.2.1 x then refCut (rrow k).2.1 (rrow k).1 x else refFrom x n (k + 1)
def refDec (x : Nat) : Insn := refFrom x 69 0
theorem refFrom_hit {x k : Nat} (hk : k < 69) (h : fitsN (rrow k).2.1 (rrow k).2.2.1 (rrow k).2.2.2.1 x = true) : refFrom x (69 - k) k = refCut (rrow k).2.1 (rrow k).1 x := by
  rw [show 69 - k = (68 - k) + 1 by omega, refFrom, if_pos h]
theorem refFrom_miss {x k : Nat} (hk : k < 69) (h : fitsN (rrow k).2.1 (rrow k).2.2.1 (rrow k).2.2.2.1 x = false) : refFrom x (69 - k) k = refFrom x (69 - (k + 1)) (k + 1) := by
  rw [show 69 - k = (68 - k) + 1 by omega, refFrom, h, show 68 - k = 69 - (k + 1) by omega]
  rfl
theorem dec19_end {W : World} {b : Nat} {cs : Array Value} {tmps : Array Value} {R : Ending → World → Prop} (hp : tmps.getD 2 undef = .pointer (some ⟨b, 0, none⟩)) (hb : W.heap[b]? = some (.cells cs 43 (0, 0))) (hs : cs.size = 6)
    (hR : R (.returned (.agg cs)) W) : bodyPost Try.prog Try.f19 R .ret ⟨tmps, []⟩ W :=
  bodyPost_ret (results_cell_row rfl _ _ b 43 cs (0, 0) _ hp hb Try.underlying43 rfl (by rw [hs]; exact Try.info43)) rfl hR
theorem rr_range {w : World} {b k : Nat} (hk : k < 69) (h : w.heap[b]? = some (.cells refTable 91 (0, 0))) : w.rangeAt b (k * 5) (rrVals (rrow k)).toList := by
  intro j v hj
  have hj5 : j < 5 := (List.getElem?_eq_some_iff.1 hj).1
  rw [blk_cell h, ref_cell k j hk hj5]
  exact hj
theorem range_kept {w w' : World} {b o : Nat} {cs : List Value} (h : w.rangeAt b o cs) (hb : Below w.heap.size w w') : w'.rangeAt b o cs := by
  intro j v hj
  have hc := h j v hj
  exact (hb.cell (p := ⟨b, o + j, none⟩) (World.block_lt_of_cell? w _ hc)).trans hc
theorem insVals_one (i : Insn) : (insVals i).all (·.oneCell') = true := six_one _ _ _ _ _ _

set_option maxRecDepth 100000 in
set_option maxHeartbeats 1000000 in
/-- 'calqueref08.Decode'. -/
theorem rdecode_any (x : Nat) (w : World) (hx : x < 4294967296) :
    Calls Try.prog 19 #[.int .u32 (x : Int)] w fun e w' => e = .returned (.agg (insVals (refDec x))) ∧ Below w.heap.size w w' := by
  go_enter Try.func19, Try.ntmps19
  go_wp2_with (first
    | (go_at_call 48; with_reducible refine (table_any _).mono ?_; rintro e w1 ⟨rfl, hb1⟩)
    | (refine wpList_store_row rfl 91 _ _ rfl w1.heap.size refTable rfl rfl 91 _ (heap_alloc_last w1 _) (by rw [refTable_size]; exact Try.info91) (by rw [refTable_size]; kernel_rfl) refTable_one ?_; rw [World.setRow_alloc_new]))
  have HT := Lib.hid (heap_alloc_last w1 (.cells refTable 91))
  have HR := Lib.hid (blk_alloc (blk_kept (heap_alloc_last w _) hb1) (.cells refTable 91))
  have HB := Lib.hid ((((Below.refl w.heap.size w).alloc (Nat.le_refl _) _).trans (hb1.mono (by simp))).alloc (by have := hb1.size; simp at this; omega) (.cells refTable 91))
  clear hb1
  go_loopw [4] (fun i wr => ∃ k : Nat, k ≤ 69 ∧ i = .int .i64 k ∧ Hid (refDec x = refFrom x (69 - k) k) ∧ Hid (wr.heap[w1.heap.size]? = some (.cells refTable 91 (0, 0))) ∧
      Hid (wr.heap[w.heap.size]? = some (.cells (insVals zeroIns) 43 (0, 0))) ∧ Hid (Below w.heap.size w wr)) (fun i _ => 69 - (intOf i).toNat)
  case atStart => exact ⟨0, by omega, rfl, rfl, HT, HR, HB⟩
  case round =>
    obtain ⟨k, hk, rfl, HF, HT, HR, HB⟩ := hrel
    by_cases hlt : k < 69
    · have hok := refRows_ok _ (rrow_mem k hlt)
      have HRG := Lib.hid (rr_range hlt HT.out)
      obtain ⟨op, form, o, f, nm, hr⟩ : ∃ op form o f nm, rrow k = (op, form, o, f, nm) := ⟨_, _, _, _, _, rfl⟩
      rw [hr] at hok HRG
      have HFO : Hid (FormOk form) := hok.1
      clear hok
      cases hfit : fitsN form o f x with
      | true =>
        have HN : Hid (refDec x = refCut form op x) := by refine Lib.hid ?_; rw [HF.out, refFrom_hit hlt (by rw [hr]; exact hfit), hr]
        have HFI := Lib.hid hfit
        clear hfit hr
        go_wp2_with (first
          | (refine wpList_load_mid rfl 90 _ rfl w1.heap.size (k * 5) rfl [.int .i64 (op : Int), .int .u8 (form : Int), .int .i64 (o : Int), .int .i64 (f : Int), .string ⟨nm.toArray⟩] _ HRG.out Try.underlying90 rfl Try.info90 ?_)
          | (go_at_call 49; refine (fits_any x op form o f ⟨nm.toArray⟩ _ hx HFO.out).mono ?_; rintro e w2 ⟨rfl, hb2⟩; rw [HFI.out]; have HRG := Lib.hid (range_kept HRG.out hb2); have HR := Lib.hid (blk_kept HR.out hb2); have HB := Lib.hid (HB.out.trans (hb2.mono HB.out.size)); clear hb2)
          | (go_at_call 50; refine (rcut_any x op form o f ⟨nm.toArray⟩ _ hx HFO.out).mono ?_; rintro e w3 ⟨rfl, hb3⟩; have HR := Lib.hid (blk_kept HR.out hb3); have HB := Lib.hid (HB.out.trans (hb3.mono HB.out.size)); clear hb3)
          | (refine wpList_store_row rfl 43 _ _ rfl w.heap.size _ rfl rfl 43 _ HR.out Try.info43 rfl (insVals_one _) ?_))
        exact dec19_end rfl (blk_row HR.out _) (by rfl) ⟨by rw [HN.out], below_row HB.out (Nat.le_refl _) _⟩
      | false =>
        have HN : Hid (refDec x = refFrom x (69 - (k + 1)) (k + 1)) := by refine Lib.hid ?_; rw [HF.out, refFrom_miss hlt (by rw [hr]; exact hfit)]
        have HFI := Lib.hid hfit
        have HT := HT
        clear hfit hr
        go_wp2_with (first
          | (refine wpList_load_mid rfl 90 _ rfl w1.heap.size (k * 5) rfl [.int .i64 (op : Int), .int .u8 (form : Int), .int .i64 (o : Int), .int .i64 (f : Int), .string ⟨nm.toArray⟩] _ HRG.out Try.underlying90 rfl Try.info90 ?_)
          | (go_at_call 49; refine (fits_any x op form o f ⟨nm.toArray⟩ _ hx HFO.out).mono ?_; rintro e w2 ⟨rfl, hb2⟩; rw [HFI.out]; have HT := Lib.hid (blk_kept HT.out hb2); have HR := Lib.hid (blk_kept HR.out hb2); have HB := Lib.hid (HB.out.trans (hb2.mono HB.out.size)); clear hb2))
        go_roundw
        case rel => exact ⟨k + 1, by omega, by go_num, HN, HT, HR, HB⟩
        case measure => simp [intOf]; omega
    · obtain rfl : k = 69 := by omega
      have HN : Hid (refDec x = zeroIns) := HF
      go_wp2_with (refine wpList_store_row rfl 43 _ _ rfl w.heap.size _ rfl rfl 43 _ HR.out Try.info43 rfl (six_one _ _ _ _ _ _) ?_)
      exact dec19_end rfl (blk_row HR.out _) (by rfl) ⟨by rw [HN.out]; rfl, below_row HB.out (Nat.le_refl _) _⟩
end Go.Proofs.Ytjoaenfibkgplaa
