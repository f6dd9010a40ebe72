import Derived.Test.YtjoaenfibkgplaaZB
import Derived.Test.YtjoaenfibkgplaaZA
import Derived.BigQuiet
import Derived.WalkSmall
import Derived.Deep.QuietTactic
import Derived.Deep.RegionWith
namespace Go.Proofs.Ytjoaenfibkgplaa
set_option linter.unusedSimpArgs false
open Go.RowKit Go.Cq
set_option linter.unusedVariables false

def fld (w a n : Nat) : Nat := w / 2 ^ a % 2 ^ n
theorem fld_lt (w a n : Nat) : fld w a n < 2 ^ n := Nat.mod_lt _ (Nat.two_pow_pos n)
theorem fld_eq (x a n : Nat) (hx : x < 4294967296) (hn : n ≤ 32) :
    bits .and .u64 ((x : Int) / 2 ^ a) (IntKind.u64.wrap (IntKind.u64.wrap (2 ^ n) - 1)) % 4294967296 = ((fld x a n : Nat) : Int) := by
  have h2 : 2 ^ n ≤ 2 ^ 32 := Nat.pow_le_pow_right (by decide) hn
  have h1 := Nat.two_pow_pos n
  have e1 : IntKind.u64.wrap (IntKind.u64.wrap (2 ^ n) - 1) = ((2 ^ n - 1 : Nat) : Int) := by
    have e0 : (2 : Int) ^ n = ((2 ^ n : Nat) : Int) := by simp
    rw [IntKind.wrap_u64, IntKind.wrap_u64, e0]
    generalize 2 ^ n = m at *
    omega
  have e2 : (x : Int) / 2 ^ a = ((x / 2 ^ a : Nat) : Int) := by simp
  have hd : x / 2 ^ a ≤ x := Nat.div_le_self _ _
  rw [e1, e2, u64_and_nat _ _ (by omega) (by omega), Nat.and_two_pow_sub_one_eq_mod]
  have := fld_lt x a n
  unfold fld at *
  omega
theorem ret_u32 {a b : Int} (h : a = b) : Ending.returned (.int .u32 a) = .returned (.int .u32 b) := by rw [h]

/-- 'bits.Field'. -/
theorem field_any (x a n : Nat) (w : World) (hx : x < 4294967296) (ha : a ≤ 31) (hn : n + a ≤ 32) (hn1 : 1 ≤ n) :
    Calls Try.prog 118 #[.int .u32 (x : Int), .int .i64 (a : Int), .int .i64 (n : Int)] w fun e w' => e = .returned (.int .u32 (fld x a n : Nat)) ∧ Below w.heap.size w w' := by
  have hp : (0 : Int) < n := by omega
  by_cases h0 : a = 0
  · subst h0
    have h := fld_eq x 0 n hx (by omega)
    have H := Lib.hid h
    clear h
    go_enter Try.func118, Try.ntmps118
    go_wp2
    go_quiet (fail)
    go_wp2
    go_ret
    refine ⟨ret_u32 ?_, below_drewN (Below.refl _ _) _⟩
    rw [← H.out]; simp
  · have hp2 : (0 : Int) < a := by omega
    have H := Lib.hid (fld_eq x a n hx (by omega))
    go_enter Try.func118, Try.ntmps118
    go_wp2
    go_quiet (fail)
    go_wp2
    go_ret
    exact ⟨ret_u32 H.out, below_drewN (Below.refl _ _) _⟩
end Go.Proofs.Ytjoaenfibkgplaa

namespace Go.Proofs.Ytjoaenfibkgplaa
set_option linter.unusedSimpArgs false
open Go.RowKit Go.Cq
set_option linter.unusedVariables false

def sx (v : Nat) : Nat := if v < 32768 then v else v + 4294901760
theorem sx_lt (v : Nat) (h : v < 65536) : sx v < 4294967296 := by unfold sx; split <;> omega
theorem sext_any (v : Nat) (w : World) (hv : v < 65536) :
    Calls Try.prog 119 #[.int .u32 (v : Int), .int .i64 16] w fun e w' => e = .returned (.int .u32 (sx v : Nat)) ∧ w = w' := by
  go_enter Try.func119, Try.ntmps119
  go_wp2
  go_ret
  refine ⟨ret_u32 ?_, rfl⟩
  unfold wrap32 sx
  split <;> omega

theorem Try.info172 : (Try.prog.info? 172).map (·.size) = some 2 := by kernel_rfl
def slotN (f c : Nat) : Nat × Nat := if f < 8 then (0, c) else if f ≤ 9 then (28, c) else if f = 16 then (1, c) else (c, 0)
theorem slot_end {w : World} {A : Obj} {a b : Int} {p : Nat × Nat} {tmps : Array Value} (hp : tmps.getD 2 undef = .pointer (some ⟨w.heap.size + 1, 0, none⟩)) (ha : a = (p.1 : Int)) (hb : b = (p.2 : Int)) :
    bodyPost Try.prog Try.f127 (fun e w' => e = .returned (.agg #[.int .u32 (p.1 : Nat), .int .u32 (p.2 : Nat)]) ∧ Below w.heap.size w w') .ret ⟨tmps, []⟩ ((w.alloc A).alloc (.cells #[.int .u32 a, .int .u32 b] 172)) := by
  subst ha hb
  refine bodyPost_ret (results_cell_row rfl _ _ (w.heap.size + 1) 172 _ (0, 0) _ hp (heap_alloc2_new _ _ _) Try.underlying172 rfl Try.info172) rfl ⟨rfl, ?_⟩
  exact ((Below.refl _ _).alloc (Nat.le_refl _) _).alloc (by simp) _
theorem slot_any (o f c : Nat) (s : ByteArray) (w : World) :
    Calls Try.prog 127 #[.agg #[.int .i64 (o : Int), .int .i64 (f : Int), .string s, .int .u32 (c : Int)]] w fun e w' => e = .returned (.agg #[.int .u32 ((slotN f c).1 : Nat), .int .u32 ((slotN f c).2 : Nat)]) ∧ Below w.heap.size w w' := by
  by_cases h1 : f < 8
  · have E : Hid (slotN f c = (0, c)) := by show _ = _; unfold slotN; rw [if_pos h1]
    go_enter Try.func127, Try.ntmps127
    go_wp2
    exact slot_end rfl (by rw [E.out]; rfl) (by rw [E.out])
  · by_cases h2 : f ≤ 9
    · have E : Hid (slotN f c = (28, c)) := by show _ = _; unfold slotN; rw [if_neg h1, if_pos h2]
      go_enter Try.func127, Try.ntmps127
      go_wp2
      exact slot_end rfl (by rw [E.out]; rfl) (by rw [E.out])
    · by_cases h3 : f = 16
      · have E : Hid (slotN f c = (1, c)) := by show _ = _; unfold slotN; rw [if_neg h1, if_neg h2, if_pos h3]
        have h4 : ((f : Int) == 16) = true := by rw [h3]; rfl
        clear h3
        go_enter Try.func127, Try.ntmps127
        go_wp2
        exact slot_end rfl (by rw [E.out]; rfl) (by rw [E.out])
      · have E : Hid (slotN f c = (c, 0)) := by show _ = _; unfold slotN; rw [if_neg h1, if_neg h2, if_neg h3]
        have h4 : ((f : Int) == 16) = false := by simp; omega
        go_enter Try.func127, Try.ntmps127
        go_wp2
        exact slot_end rfl (by rw [E.out]) (by rw [E.out]; rfl)

/-! The row of a word. -/
abbrev IRow := Nat × Nat × List UInt8 × Nat
def rowAt (k : Nat) : IRow := insRows.getD (k + 1) (0, 0, [], 0)
def rowVals (r : IRow) : Array Value := #[.int .i64 (r.1 : Nat), .int .i64 (r.2.1 : Nat), .string ⟨r.2.2.1.toArray⟩, .int .u32 (r.2.2.2 : Nat)]
def rowSlot (r : IRow) : Nat × Nat := slotN r.2.1 r.2.2.2
def keyN (w : Nat) : Nat × Nat := (fld w 26 6, if fld w 26 6 = 0 ∨ fld w 26 6 = 28 then fld w 0 6 else if fld w 26 6 = 1 then fld w 16 5 else 0)
/-- The first row from the k-th on whose slot is a key. -/
def findFrom (key : Nat × Nat) : Nat → Nat → Option IRow
  | 0, _ => none
  | n + 1, k => if rowSlot (rowAt k) = key then some (rowAt k) else findFrom key n (k + 1)
def rowOf (key : Nat × Nat) : Option IRow := findFrom key 69 0

theorem flat_get {α : Type} (f : α → List Value) (n : Nat) (hf : ∀ a, (f a).length = n) (l : List α) (i j : Nat) (hj : j < n) : (l.flatMap f)[i * n + j]? = (l[i]?).bind fun a => (f a)[j]? := by
  induction l generalizing i with
  | nil => simp
  | cons a l ih =>
    rw [List.flatMap_cons]
    cases i with
    | zero => rw [Nat.zero_mul, Nat.zero_add, List.getElem?_append_left (by rw [hf]; exact hj)]; rfl
    | succ i =>
      have e : (i + 1) * n + j = n + (i * n + j) := by rw [Nat.succ_mul]; omega
      rw [e, List.getElem?_append_right (by rw [hf]; omega), hf, Nat.add_sub_cancel_left, ih i]
      rfl
theorem insRows_length : insRows.length = 70 := by decide +kernel
theorem ins_cell (k j : Nat) (hk : k < 69) (hj : j < 4) : insTable[4 + k * 4 + j]? = (rowVals (rowAt k)).toList[j]? := by
  have h := flat_get insCells 4 (fun _ => rfl) insRows (k + 1) j hj
  have e : (k + 1) * 4 + j = 4 + k * 4 + j := by omega
  rw [e] at h
  have h2 : insRows[k + 1]? = some (rowAt k) := by
    have hl : k + 1 < insRows.length := by rw [insRows_length]; omega
    rw [rowAt, List.getD, List.getElem?_eq_getElem hl]; rfl
  rw [h2] at h
  simpa [insTable, rowVals, insCells] using h
end Go.Proofs.Ytjoaenfibkgplaa
