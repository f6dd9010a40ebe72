import Derived.Test.YtjoaenfibkgplaaB3
namespace Go.Proofs.Ytjoaenfibkgplaa
set_option linter.unusedSimpArgs false
open Go.RowKit Go.Cq
set_option linter.unusedVariables false

/-- 'set' in 'ins.Decode'. -/
theorem set_any (b j v : Nat) (w : World) (u : Value) (hc : w.cell? ⟨b, j, none⟩ = some u) (hf : w.frozen? ⟨b, j, none⟩ = false) (hv : v < 4294967296) :
    Calls Try.prog 120 #[.pointer (some ⟨b, j, none⟩), .int .u32 (v : Int)] w fun e w' => e = .returned (.tuple #[]) ∧ w' = w.setCell ⟨b, j, none⟩ (.int .i64 (v : Int)) := by
  go_enter Try.func120, Try.ntmps120
  go_wp2
  go_end0
  exact ⟨rfl, rfl⟩

structure Insn where
  op : Nat
  s : Nat
  t : Nat
  d : Nat
  a : Nat
  imm : Nat
deriving DecidableEq
def insVals (i : Insn) : Array Value := #[.int .i64 (i.op : Int), .int .i64 (i.s : Int), .int .i64 (i.t : Int), .int .i64 (i.d : Int), .int .i64 (i.a : Int), .int .u32 (i.imm : Int)]
def zeroIns : Insn := ⟨0, 0, 0, 0, 0, 0⟩
/-- What a form makes of a word's fields: the instruction, and what must be nothing. -/
def formOf (f op s t d a low n16 c10 c20 c26 : Nat) : Insn × Nat :=
  match f with
  | 0 | 8 => (⟨op, s, t, d, 0, 0⟩, a)
  | 1 => (⟨op, 0, t, d, a, 0⟩, s)
  | 2 => (⟨op, s, t, 0, 0, 0⟩, d ||| a)
  | 3 => (⟨op, 0, 0, d, 0, 0⟩, s ||| t ||| a)
  | 4 => (⟨op, s, 0, 0, 0, 0⟩, t ||| d ||| a)
  | 5 => (⟨op, s, 0, d, 0, 0⟩, t ||| a)
  | 6 => (⟨op, s, t, 0, 0, c10⟩, 0)
  | 7 => (⟨op, 0, 0, 0, 0, c20⟩, 0)
  | 9 => (⟨op, s, t, d, 0, 0⟩, a ||| (t ^^^ d))
  | 10 | 13 => (⟨op, s, t, 0, 0, n16⟩, 0)
  | 11 => (⟨op, s, t, 0, 0, low⟩, 0)
  | 12 => (⟨op, 0, t, 0, 0, low⟩, s)
  | 14 => (⟨op, s, t, 0, 0, n16 * 4 % 4294967296⟩, 0)
  | 15 => (⟨op, s, 0, 0, 0, n16 * 4 % 4294967296⟩, t)
  | 16 => (⟨op, s, 0, 0, 0, n16 * 4 % 4294967296⟩, 0)
  | 17 => (⟨op, 0, 0, 0, 0, c26 * 4⟩, 0)
  | _ => (⟨op, 0, 0, 0, 0, 0⟩, 0)
def decOf (r : IRow) (x : Nat) : Insn :=
  let p := formOf r.2.1 r.1 (fld x 21 5) (fld x 16 5) (fld x 11 5) (fld x 6 5) (fld x 0 16) (sx (fld x 0 16)) (fld x 6 10) (fld x 6 20) (fld x 0 26)
  if p.2 = 0 then p.1 else zeroIns
/-- 'ins.Decode'. -/
def decN (x : Nat) : Insn := match rowOf (keyN x) with
  | some r => decOf r x
  | none => zeroIns

theorem fld_lt32 (x a n : Nat) (h : n ≤ 32) : fld x a n < 4294967296 :=
  Nat.lt_of_lt_of_le (fld_lt x a n) (Nat.pow_le_pow_right (by decide) h : 2 ^ n ≤ 2 ^ 32)

theorem Try.info43 : (Try.prog.info? 43).map (·.size) = some 6 := by kernel_rfl
theorem six_one (a b c d e f : Int) : (#[Value.int .i64 a, .int .i64 b, .int .i64 c, .int .i64 d, .int .i64 e, .int .u32 f]).all (·.oneCell') = true := by
  simp [Value.oneCell']
theorem decN_row {x : Nat} {r : IRow} (h : rowOf (keyN x) = some r) : decN x = decOf r x := by unfold decN; rw [h]
theorem decN_none {x : Nat} (h : rowOf (keyN x) = none) : decN x = zeroIns := by unfold decN; rw [h]
theorem dec_end {w W : World} {x : Nat} {cells old : Array Value} {tmps : Array Value} (HRes : W.heap[w.heap.size]? = some (.cells old 43 (0, 0))) (HBel : Below w.heap.size w W) (hp : tmps.getD 2 undef = .pointer (some ⟨w.heap.size, 0, none⟩)) (hs : cells.size = 6)
    (hd : insVals (decN x) = cells) : bodyPost Try.prog Try.f90 (fun e w' => e = .returned (.agg (insVals (decN x))) ∧ Below w.heap.size w w') .ret ⟨tmps, []⟩ (W.setRow w.heap.size cells) := by
  refine bodyPost_ret (results_cell_row rfl _ _ w.heap.size 43 cells (0, 0) _ hp (blk_row HRes _) Try.underlying43 rfl (by rw [hs]; exact Try.info43)) rfl ⟨?_, below_row HBel (Nat.le_refl _) _⟩
  rw [hd]

set_option maxRecDepth 100000 in
set_option maxHeartbeats 1000000 in
theorem decode_none (x : Nat) (w : World) (hx : x < 4294967296) (hr : Hid (rowOf (keyN x) = none)) :
    Calls Try.prog 90 #[.int .u32 (x : Int)] w fun e w' => e = .returned (.agg (insVals (decN x))) ∧ Below w.heap.size w w' := by
  go_enter Try.func90, Try.ntmps90
  go_wp2_with fail
  refine (of_any x _ hx).mono ?_; rintro e w1 ⟨rfl, hb1⟩
  rw [hr.out]
  unfold ofRes zeroRow
  have HRes := Lib.hid (blk_alloc (blk_kept (heap_alloc_last w _) hb1) (.cells #[.int .i64 0, .int .i64 0, .string ⟨#[]⟩, .int .u32 0] 161))
  have HBel := Lib.hid ((((Below.refl w.heap.size w).alloc (Nat.le_refl _) _).trans (hb1.mono (by simp))).alloc (by have := hb1.size; simp at this; omega) (.cells #[.int .i64 0, .int .i64 0, .string ⟨#[]⟩, .int .u32 0] 161))
  clear hb1
  go_wp2_with (refine wpList_store_row rfl 43 _ _ rfl w.heap.size _ rfl rfl 43 _ HRes.out Try.info43 rfl (six_one _ _ _ _ _ _) ?_)
  exact dec_end HRes.out HBel.out rfl rfl (by rw [decN_none hr.out]; rfl)
end Go.Proofs.Ytjoaenfibkgplaa
