import Derived.Test.YtjoaenfibkgplaaE9
namespace Go.Proofs.Ytjoaenfibkgplaa
set_option linter.unusedSimpArgs false
open Go.RowKit Go.Cq
set_option linter.unusedVariables false

/-- The document's own decoding, from a row on. -/
def refFrom (x : Nat) : Nat → Nat → Insn
  | 0, _ => zeroIns
  | n + 1, k => if fitsN (rrow k).2.1 (rrow k).2.2.1 (rrow k).2.2.2.1 x then refCut (rrow k).2.1 (rrow k).1 x else refFrom x n (k + 1)
def refDec (x : Nat) : Insn := refFrom x 69 0
theorem refFrom_hit {x k : Nat} (hk : k < 69) (h : fitsN (rrow k).2.1 (rrow k).2.2.1 (rrow k).2.2.2.1 x = true) : refFrom x (69 - k) k = refCut (rrow k).2.1 (rrow k).1 x := by
  rw [show 69 - k = (68 - k) + 1 by omega, refFrom, if_pos h]
theorem refFrom_miss {x k : Nat} (hk : k < 69) (h : fitsN (rrow k).2.1 (rrow k).2.2.1 (rrow k).2.2.2.1 x = false) : refFrom x (69 - k) k = refFrom x (69 - (k + 1)) (k + 1) := by
  rw [show 69 - k = (68 - k) + 1 by omega, refFrom, h, show 68 - k = 69 - (k + 1) by omega]
  rfl
theorem dec19_end {W : World} {b : Nat} {cs : Array Value} {tmps : Array Value} {R : Ending → World → Prop} (hp : tmps.getD 2 undef = .pointer (some ⟨b, 0, none⟩)) (hb : W.heap[b]? = some (.cells cs 43 (0, 0))) (hs : cs.size = 6)
    (hR : R (.returned (.agg cs)) W) : bodyPost Try.prog Try.f19 R .ret ⟨tmps, []⟩ W :=
  bodyPost_ret (results_cell_row rfl _ _ b 43 cs (0, 0) _ hp hb Try.underlying43 rfl (by rw [hs]; exact Try.info43)) rfl hR
theorem rr_range {w : World} {b k : Nat} (hk : k < 69) (h : w.heap[b]? = some (.cells refTable 91 (0, 0))) : w.rangeAt b (k * 5) (rrVals (rrow k)).toList := by
  intro j v hj
  have hj5 : j < 5 := (List.getElem?_eq_some_iff.1 hj).1
  rw [blk_cell h, ref_cell k j hk hj5]
  exact hj
theorem range_kept {w w' : World} {b o : Nat} {cs : List Value} (h : w.rangeAt b o cs) (hb : Below w.heap.size w w') : w'.rangeAt b o cs := by
  intro j v hj
  have hc := h j v hj
  exact (hb.cell (p := ⟨b, o + j, none⟩) (World.block_lt_of_cell? w _ hc)).trans hc
theorem insVals_one (i : Insn) : (insVals i).all (·.oneCell') = true := six_one _ _ _ _ _ _

set_option maxRecDepth 100000 in
set_option maxHeartbeats 1000000 in
/-- 'calqueref08.Decode'. -/
theorem rdecode_any (x : Nat) (w : World) (hx : x < 4294967296) :
    Calls Try.prog 19 #[.int .u32 (x : Int)] w fun e w' => e = .returned (.agg (insVals (refDec x))) ∧ Below w.heap.size w w' := by
  go_enter Try.func19, Try.ntmps19
  go_wp2_with (first
    | (go_at_call 48; with_reducible refine (table_any _).mono ?_; rintro e w1 ⟨rfl, hb1⟩)
    | (refine wpList_store_row rfl 91 _ _ rfl w1.heap.size refTable rfl rfl 91 _ (heap_alloc_last w1 _) (by rw [refTable_size]; exact Try.info91) (by rw [refTable_size]; kernel_rfl) refTable_one ?_; rw [World.setRow_alloc_new]))
  have HT := Lib.hid (heap_alloc_last w1 (.cells refTable 91))
  have HR := Lib.hid (blk_alloc (blk_kept (heap_alloc_last w _) hb1) (.cells refTable 91))
  have HB := Lib.hid ((((Below.refl w.heap.size w).alloc (Nat.le_refl _) _).trans (hb1.mono (by simp))).alloc (by have := hb1.size; simp at this; omega) (.cells refTable 91))
  clear hb1
  go_loopw [4] (fun i wr => ∃ k : Nat, k ≤ 69 ∧ i = .int .i64 k ∧ Hid (refDec x = refFrom x (69 - k) k) ∧ Hid (wr.heap[w1.heap.size]? = some (.cells refTable 91 (0, 0))) ∧
      Hid (wr.heap[w.heap.size]? = some (.cells (insVals zeroIns) 43 (0, 0))) ∧ Hid (Below w.heap.size w wr)) (fun i _ => 69 - (intOf i).toNat)
  case atStart => exact ⟨0, by omega, rfl, rfl, HT, HR, HB⟩
  case round =>
    obtain ⟨k, hk, rfl, HF, HT, HR, HB⟩ := hrel
    by_cases hlt : k < 69
    · have hok := refRows_ok _ (rrow_mem k hlt)
      have HRG := Lib.hid (rr_range hlt HT.out)
      obtain ⟨op, form, o, f, nm, hr⟩ : ∃ op form o f nm, rrow k = (op, form, o, f, nm) := ⟨_, _, _, _, _, rfl⟩
      rw [hr] at hok HRG
      have HFO : Hid (FormOk form) := hok.1
      clear hok
      cases hfit : fitsN form o f x with
      | true =>
        have HN : Hid (refDec x = refCut form op x) := by refine Lib.hid ?_; rw [HF.out, refFrom_hit hlt (by rw [hr]; exact hfit), hr]
        have HFI := Lib.hid hfit
        clear hfit hr
        go_wp2_with (first
          | (refine wpList_load_mid rfl 90 _ rfl w1.heap.size (k * 5) rfl [.int .i64 (op : Int), .int .u8 (form : Int), .int .i64 (o : Int), .int .i64 (f : Int), .string ⟨nm.toArray⟩] _ HRG.out Try.underlying90 rfl Try.info90 ?_)
          | (go_at_call 49; refine (fits_any x op form o f ⟨nm.toArray⟩ _ hx HFO.out).mono ?_; rintro e w2 ⟨rfl, hb2⟩; rw [HFI.out]; have HRG := Lib.hid (range_kept HRG.out hb2); have HR := Lib.hid (blk_kept HR.out hb2); have HB := Lib.hid (HB.out.trans (hb2.mono HB.out.size)); clear hb2)
          | (go_at_call 50; refine (rcut_any x op form o f ⟨nm.toArray⟩ _ hx HFO.out).mono ?_; rintro e w3 ⟨rfl, hb3⟩; have HR := Lib.hid (blk_kept HR.out hb3); have HB := Lib.hid (HB.out.trans (hb3.mono HB.out.size)); clear hb3)
          | (refine wpList_store_row rfl 43 _ _ rfl w.heap.size _ rfl rfl 43 _ HR.out Try.info43 rfl (insVals_one _) ?_))
        exact dec19_end rfl (blk_row HR.out _) (by rfl) ⟨by rw [HN.out], below_row HB.out (Nat.le_refl _) _⟩
      | false =>
        have HN : Hid (refDec x = refFrom x (69 - (k + 1)) (k + 1)) := by refine Lib.hid ?_; rw [HF.out, refFrom_miss hlt (by rw [hr]; exact hfit)]
        have HFI := Lib.hid hfit
        have HT := HT
        clear hfit hr
        go_wp2_with (first
          | (refine wpList_load_mid rfl 90 _ rfl w1.heap.size (k * 5) rfl [.int .i64 (op : Int), .int .u8 (form : Int), .int .i64 (o : Int), .int .i64 (f : Int), .string ⟨nm.toArray⟩] _ HRG.out Try.underlying90 rfl Try.info90 ?_)
          | (go_at_call 49; refine (fits_any x op form o f ⟨nm.toArray⟩ _ hx HFO.out).mono ?_; rintro e w2 ⟨rfl, hb2⟩; rw [HFI.out]; have HT := Lib.hid (blk_kept HT.out hb2); have HR := Lib.hid (blk_kept HR.out hb2); have HB := Lib.hid (HB.out.trans (hb2.mono HB.out.size)); clear hb2))
        go_roundw
        case rel => exact ⟨k + 1, by omega, by go_num, HN, HT, HR, HB⟩
        case measure => simp [intOf]; omega
    · obtain rfl : k = 69 := by omega
      have HN : Hid (refDec x = zeroIns) := HF
      go_wp2_with (refine wpList_store_row rfl 43 _ _ rfl w.heap.size _ rfl rfl 43 _ HR.out Try.info43 rfl (six_one _ _ _ _ _ _) ?_)
      exact dec19_end rfl (blk_row HR.out _) (by rfl) ⟨by rw [HN.out]; rfl, below_row HB.out (Nat.le_refl _) _⟩
end Go.Proofs.Ytjoaenfibkgplaa

namespace Go.Proofs.Ytjoaenfibkgplaa
set_option linter.unusedSimpArgs false
open Go.RowKit Go.Cq
set_option linter.unusedVariables false
theorem Try.agg3 (w : World) : (isAgg 3).run Try.prog w = .ok false w := by kernel_rfl
theorem part3 (cs : Array Value) (j : Nat) (v : Value) (h : cs[j]? = some v) (w : World) : (part 3 cs j).run Try.prog w = .ok v w := by
  unfold part
  rw [Sem.run_bind, Try.agg3]
  simp [Result.andThen, h]
theorem Try.stood43 : Try.prog.stoodInHeld 43 = false := by kernel_rfl
theorem eq43 (w : World) (i j : Insn) : (Op.equalIn 10000 43 (.agg (insVals i)) (.agg (insVals j))).run Try.prog w = .ok (i.op == j.op && i.s == j.s && i.t == j.t && i.d == j.d && i.a == j.a && i.imm == j.imm) w := by
  show (Op.equalIn (9999 + 1) 43 _ _).run Try.prog w = _
  have h1 := run_underlying (P := Try.prog) Try.underlying43
  have hd : ∀ (w : World) (x y : Int), (Op.equalIn 9999 27 (.int .u32 x) (.int .u32 y)).run Try.prog w = .ok (x == y) w := fun w x y => run_equalIn_int w 9998 27 .u32 .u32 x y Try.underlying27
  have h3 : ∀ (w : World) (x y : Int), (Op.equalIn 9999 3 (.int .i64 x) (.int .i64 y)).run Try.prog w = .ok (x == y) w := fun w x y => run_equalIn_int w 9998 3 .i64 .i64 x y Try.underlying3
  have pa : ∀ (i : Insn) w, (part 3 (insVals i) 0).run Try.prog w = .ok (.int .i64 (i.op : Int)) w := fun i w => part3 _ 0 _ rfl w
  have pb : ∀ (i : Insn) w, (part 3 (insVals i) 1).run Try.prog w = .ok (.int .i64 (i.s : Int)) w := fun i w => part3 _ 1 _ rfl w
  have pc : ∀ (i : Insn) w, (part 3 (insVals i) 2).run Try.prog w = .ok (.int .i64 (i.t : Int)) w := fun i w => part3 _ 2 _ rfl w
  have pd : ∀ (i : Insn) w, (part 3 (insVals i) 3).run Try.prog w = .ok (.int .i64 (i.d : Int)) w := fun i w => part3 _ 3 _ rfl w
  have pe : ∀ (i : Insn) w, (part 3 (insVals i) 4).run Try.prog w = .ok (.int .i64 (i.a : Int)) w := fun i w => part3 _ 4 _ rfl w
  have pf : ∀ (i : Insn) w, (part 27 (insVals i) 5).run Try.prog w = .ok (.int .u32 (i.imm : Int)) w := fun i w => part27 _ 5 _ rfl w
  unfold Op.equalIn
  rw [Sem.run_bind, h1]
  simp [Try.stood43, pa, pb, pc, pd, pe, pf, hd, h3, Sem.run_bind]
  repeat' split
  all_goals (simp; omega)
/-- 'calqueref08.Encode', of a number that is there. -/
def encN (i : Insn) : Nat := refWord (rrow (i.op - 1)).2.1 (rrow (i.op - 1)).2.2.1 (rrow (i.op - 1)).2.2.2.1 i.s i.t i.d i.a i.imm
theorem blk_drewN {w : World} {b : Nat} {o : Obj} (h : w.heap[b]? = some o) (n : Nat) : (w.drewN n).heap[b]? = some o := h
theorem refWord_lt {form o f s t d a imm : Nat} (ho : o < 64) (hf : f < 64) (hf2 : form = 82 → f < 32) (hs : s < 32) (ht : t < 32) (hd : d < 32) (ha : a < 32) : refWord form o f s t d a imm < 4294967296 := by
  unfold refWord
  repeat' split
  all_goals first | omega | (have := hf2 ‹_›; omega)
set_option maxRecDepth 100000 in
set_option maxHeartbeats 1000000 in
theorem encode_any (op s t d a imm : Nat) (w : World) (h1 : 1 ≤ op ∧ op ≤ 69) (hs : s < 32) (ht : t < 32) (hd : d < 32) (ha : a < 32) (hi : imm < 4294967296) :
    Calls Try.prog 47 #[.agg #[.int .i64 (op : Int), .int .i64 (s : Int), .int .i64 (t : Int), .int .i64 (d : Int), .int .i64 (a : Int), .int .u32 (imm : Int)]] w fun e w' => (∃ b, e = .returned (.tuple #[.int .u32 (encN ⟨op, s, t, d, a, imm⟩ : Nat), .bool b])) ∧ Below w.heap.size w w' := by
  have HOP := Lib.hid h1
  go_enter Try.func47, Try.ntmps47
  go_wp2_with (first
    | (go_at_call 48; with_reducible refine (table_any _).mono ?_; rintro e w1 ⟨rfl, hb1⟩)
    | (refine wpList_store_row rfl 91 _ _ rfl w1.heap.size refTable rfl rfl 91 _ (heap_alloc_last w1 _) (by rw [refTable_size]; exact Try.info91) (by rw [refTable_size]; kernel_rfl) refTable_one ?_; rw [World.setRow_alloc_new]))
  have HT := Lib.hid (heap_alloc_last w1 (.cells refTable 91))
  have HI := Lib.hid (blk_alloc (blk_kept (heap_alloc_last w _) hb1) (.cells refTable 91))
  have HB := Lib.hid ((((Below.refl w.heap.size w).alloc (Nat.le_refl _) _).trans (hb1.mono (by simp))).alloc (by have := hb1.size; simp at this; omega) (.cells refTable 91))
  clear hb1
  go_loopw [5] (fun i wr => ∃ k : Nat, k < op ∧ i = .int .i64 k ∧ Hid (wr.heap[w1.heap.size]? = some (.cells refTable 91 (0, 0))) ∧
      Hid (wr.heap[w.heap.size]? = some (.cells #[.int .i64 (op : Int), .int .i64 (s : Int), .int .i64 (t : Int), .int .i64 (d : Int), .int .i64 (a : Int), .int .u32 (imm : Int)] 43 (0, 0))) ∧ Hid (Below w.heap.size w wr)) (fun i _ => 69 - (intOf i).toNat)
  case atStart => exact ⟨0, by omega, rfl, HT, HI, HB⟩
  case round =>
    obtain ⟨k, hk, rfl, HT, HI, HB⟩ := hrel
    have hlt : k < 69 := by omega
    have cI : wr.cell? ⟨w.heap.size, 0, none⟩ = some (.int .i64 (op : Int)) := blk_cell HI.out 0
    have cT : wr.cell? ⟨w1.heap.size, k * 5, none⟩ = some (.int .i64 ((k : Int) + 1)) := by
      have := rr_range hlt HT.out 0 (.int .i64 ((rrow k).1 : Int)) rfl
      rw [rrow_op k hlt] at this
      exact this
    by_cases hm : k + 1 = op
    · have HE : Hid (encN ⟨op, s, t, d, a, imm⟩ = refWord (rrow k).2.1 (rrow k).2.2.1 (rrow k).2.2.2.1 s t d a imm) := by
        refine Lib.hid ?_
        show refWord (rrow (op - 1)).2.1 (rrow (op - 1)).2.2.1 (rrow (op - 1)).2.2.2.1 s t d a imm = _
        rw [show op - 1 = k by omega]
      rw [show (k : Int) + 1 = (op : Int) by omega] at cT
      have hok := refRows_ok _ (rrow_mem k hlt)
      have HRG := Lib.hid (rr_range hlt HT.out)
      obtain ⟨ro, form, o, f, nm, hr⟩ : ∃ ro form o f nm, rrow k = (ro, form, o, f, nm) := ⟨_, _, _, _, _, rfl⟩
      rw [hr] at hok HRG HE
      have HOK := Lib.hid hok
      clear hok hr hm
      have HW : Hid (refWord form o f s t d a imm < 4294967296) := Lib.hid (refWord_lt HOK.out.2.1 HOK.out.2.2.1 HOK.out.2.2.2 hs ht hd ha)
      obtain ⟨W, hW⟩ : ∃ W, refWord form o f s t d a imm = W := ⟨_, rfl⟩
      rw [hW] at HW HE
      have HWE := Lib.hid hW
      clear hW
      have cT1 : wr.cell? ⟨w1.heap.size, k * 5 + 1, none⟩ = some (.int .u8 (form : Int)) := HRG.out 1 _ rfl
      have cT2 : wr.cell? ⟨w1.heap.size, k * 5 + 2, none⟩ = some (.int .i64 (o : Int)) := HRG.out 2 _ rfl
      have cT3 : wr.cell? ⟨w1.heap.size, k * 5 + 3, none⟩ = some (.int .i64 (f : Int)) := HRG.out 3 _ rfl
      have cT4 : wr.cell? ⟨w1.heap.size, k * 5 + 4, none⟩ = some (.string ⟨nm.toArray⟩) := HRG.out 4 _ rfl
      have cI1 : wr.cell? ⟨w.heap.size, 1, none⟩ = some (.int .i64 (s : Int)) := blk_cell HI.out 1
      have cI2 : wr.cell? ⟨w.heap.size, 2, none⟩ = some (.int .i64 (t : Int)) := blk_cell HI.out 2
      have cI3 : wr.cell? ⟨w.heap.size, 3, none⟩ = some (.int .i64 (d : Int)) := blk_cell HI.out 3
      have cI4 : wr.cell? ⟨w.heap.size, 4, none⟩ = some (.int .i64 (a : Int)) := blk_cell HI.out 4
      have cI5 : wr.cell? ⟨w.heap.size, 5, none⟩ = some (.int .u32 (imm : Int)) := blk_cell HI.out 5
      go_wp2_with fail
      go_quiet (fail)
      go_wp2_with fail
      go_region_with (go_at_call 93; refine (rword_any op form o f s t d a imm op ⟨nm.toArray⟩ _ HOK.out.1 HOK.out.2.1 HOK.out.2.2.1 HOK.out.2.2.2 hs ht hd ha hi).mono ?_; rintro e w2 ⟨rfl, hb2⟩; rw [HWE.out])
      all_goals
        have HI2 := Lib.hid (blk_kept (blk_drewN HI.out _) hb2)
        have HB2 := Lib.hid ((below_drewN HB.out _).trans (hb2.mono (below_drewN HB.out _).size))
        clear hb2 cT cT1 cT2 cT3 cT4 cI cI1 cI2 cI3 cI4 cI5
        have cI : w2.cell? ⟨w.heap.size, 0, none⟩ = some (.int .i64 (op : Int)) := blk_cell HI2.out 0
        have cI1 : w2.cell? ⟨w.heap.size, 1, none⟩ = some (.int .i64 (s : Int)) := blk_cell HI2.out 1
        have cI2 : w2.cell? ⟨w.heap.size, 2, none⟩ = some (.int .i64 (t : Int)) := blk_cell HI2.out 2
        have cI3 : w2.cell? ⟨w.heap.size, 3, none⟩ = some (.int .i64 (d : Int)) := blk_cell HI2.out 3
        have cI4 : w2.cell? ⟨w.heap.size, 4, none⟩ = some (.int .i64 (a : Int)) := blk_cell HI2.out 4
        have cI5 : w2.cell? ⟨w.heap.size, 5, none⟩ = some (.int .u32 (imm : Int)) := blk_cell HI2.out 5
        obtain ⟨bb, heq⟩ : ∃ bb, ∀ w, (Op.equalIn 10000 43 (.agg (insVals (refDec W))) (.agg #[.int .i64 (op : Int), .int .i64 (s : Int), .int .i64 (t : Int), .int .i64 (d : Int), .int .i64 (a : Int), .int .u32 (imm : Int)])).run Try.prog w = .ok bb w := ⟨_, fun w => eq43 w (refDec W) ⟨op, s, t, d, a, imm⟩⟩
        obtain ⟨V, hV⟩ : ∃ V, insVals (refDec W) = V := ⟨_, rfl⟩
        rw [hV] at heq
        have HV := Lib.hid hV
        clear hV
        have hWi := HW.out
        go_wp2_with fail
        go_region_with (go_at_call 19; refine (rdecode_any W _ hWi).mono ?_; rintro e w3 ⟨rfl, hb3⟩; rw [HV.out]; have k0 := blk_cell (blk_kept (blk_drew HI2.out) hb3) 0; have k1 := blk_cell (blk_kept (blk_drew HI2.out) hb3) 1; have k2 := blk_cell (blk_kept (blk_drew HI2.out) hb3) 2; have k3 := blk_cell (blk_kept (blk_drew HI2.out) hb3) 3; have k4 := blk_cell (blk_kept (blk_drew HI2.out) hb3) 4; have k5 := blk_cell (blk_kept (blk_drew HI2.out) hb3) 5)
        all_goals
          have HB3 := Lib.hid (HB2.out.drew.trans (hb3.mono HB2.out.size))
          go_wp2_with fail
          refine bodyPost_ret (results_tmp2 rfl _ _ _) rfl ?_
          exact ⟨⟨_, by rw [HE.out]; rfl⟩, HB3.out⟩
    · have hm2 : ¬ (k : Int) + 1 = (op : Int) := by omega
      go_wp2_with fail
      go_quiet (fail)
      go_wp2
      go_roundw
      case rel => exact ⟨k + 1, by omega, by go_num, HT, HI, below_drewN HB.out _⟩
      case measure => simp [intOf]; omega
end Go.Proofs.Ytjoaenfibkgplaa

namespace Go.Proofs.Ytjoaenfibkgplaa
set_option linter.unusedSimpArgs false
open Go.RowKit Go.Cq
set_option linter.unusedVariables false
/-- 'calquelaw00.Word'. -/
theorem word18_any (op s t d a imm : Nat) (w : World) (h1 : 1 ≤ op ∧ op ≤ 69) (hs : s < 32) (ht : t < 32) (hd : d < 32) (ha : a < 32) (hi : imm < 4294967296) :
    Calls Try.prog 18 #[.int .i64 (op : Int), .int .i64 (s : Int), .int .i64 (t : Int), .int .i64 (d : Int), .int .i64 (a : Int), .int .u32 (imm : Int)] w fun e w' => e = .returned (.int .u32 (encN ⟨op, s, t, d, a, imm⟩ : Nat)) ∧ Below w.heap.size w w' := by
  go_enter Try.func18, Try.ntmps18
  go_wp2_with (go_at_call 47; refine (encode_any op s t d a imm _ h1 hs ht hd ha hi).mono ?_; rintro e w1 ⟨⟨b, rfl⟩, hb1⟩)
  go_ret
  exact ⟨rfl, hb1⟩
end Go.Proofs.Ytjoaenfibkgplaa
