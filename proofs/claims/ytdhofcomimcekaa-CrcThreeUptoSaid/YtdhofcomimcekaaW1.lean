import Derived.Test.YtdhofcomimcekaaRows
import Derived.Test.YtdhofcomimcekaaPlain
import Derived.WalkKit
import Derived.Outline
import Derived.Deep.WholeRow
namespace Go.Proofs.Ytdhofcomimcekaa
open Go.RowKit
set_option linter.unusedVariables false

/-! The words of the machine and the plain numbers. -/
theorem steps_next (j k : Nat) : CrcM.steps (j + 1) k = CrcM.step (CrcM.steps j k) := CrcM.steps_add j 1 k
theorem and_one (n : Nat) (h : n < 4294967296) : bits .and .u32 (n : Int) 1 = ((n % 2 : Nat) : Int) := by
  have := u32_and_nat n 1 h (by decide)
  rw [Nat.and_one_is_mod] at this
  exact this
theorem step_odd (n : Nat) (h : n < 4294967296) (ho : (bits .and .u32 (n : Int) 1 != 0) = true) : bits .xor .u32 ((n : Int) / 2) 3988292384 = ((CrcM.step n : Nat) : Int) := by
  rw [and_one n h, bne_iff_ne] at ho
  have h2 : n % 2 = 1 := by omega
  have := u32_xor_nat (n / 2) 3988292384 (by omega) (by decide)
  unfold CrcM.step CrcM.poly
  rw [if_pos h2]
  exact this
theorem step_even (n : Nat) (h : n < 4294967296) (ho : (bits .and .u32 (n : Int) 1 != 0) = false) : (n : Int) / 2 = ((CrcM.step n : Nat) : Int) := by
  rw [and_one n h, bne_eq_false_iff_eq] at ho
  have h2 : ¬ n % 2 = 1 := by omega
  unfold CrcM.step
  rw [if_neg h2, Nat.xor_zero]
  rfl
theorem val_u32 {a b : Int} (h : a = b) : Value.int .u32 a = Value.int .u32 b := by rw [h]

def tabN (k j : Nat) : Nat := if j < k then CrcM.steps 4 j else 0
def tabs (k : Nat) : Array Value := ((List.range 16).map (fun j => Value.int .u32 (tabN k j))).toArray
theorem tabs_get (k j : Nat) (h : j < 16) : (tabs k)[j]? = some (.int .u32 (tabN k j)) := by
  simp [tabs, h]
theorem tabs_size (k : Nat) : (tabs k).size = 16 := by simp [tabs]
theorem tabs_set (k : Nat) (h : k < 16) : (tabs k).setIfInBounds k (.int .u32 (CrcM.steps 4 k : Nat)) = tabs (k + 1) := by
  apply Array.ext_getElem?
  intro i
  rw [Array.getElem?_setIfInBounds]
  by_cases hi : i < 16
  · rw [tabs_get (k + 1) i hi]
    by_cases e : k = i
    · subst e; simp [tabs_size, h, tabN]
    · rw [if_neg e, tabs_get k i hi]
      have : tabN k i = tabN (k + 1) i := by unfold tabN; by_cases h2 : i < k <;> simp [h2] <;> omega
      rw [this]
  · have e : ¬ k = i := by omega
    rw [if_neg e, Array.getElem?_eq_none (by rw [tabs_size]; omega), Array.getElem?_eq_none (by rw [tabs_size]; omega)]
theorem tabs_one (k : Nat) : (tabs k).all (·.oneCell') = true := by
  simp [tabs]
  intro x _; rfl

theorem Try.info39 : (Try.prog.info? 39).map (·.size) = some 16 := by kernel_rfl

/-- 'crc.sums': the sums of the half bytes. -/
theorem sums_any (w : World) : Calls Try.prog 17 #[] w fun e w' => e = .returned (.agg (tabs 16)) ∧ Below w.heap.size w w' := by
  have h0 : #[Value.int IntKind.u32 0, Value.int IntKind.u32 0, Value.int IntKind.u32 0, Value.int IntKind.u32 0,
      Value.int IntKind.u32 0, Value.int IntKind.u32 0, Value.int IntKind.u32 0, Value.int IntKind.u32 0,
      Value.int IntKind.u32 0, Value.int IntKind.u32 0, Value.int IntKind.u32 0, Value.int IntKind.u32 0,
      Value.int IntKind.u32 0, Value.int IntKind.u32 0, Value.int IntKind.u32 0, Value.int IntKind.u32 0] = tabs 0 := by rfl
  go_enter Try.func17, Try.ntmps17
  go_wp2
  clear h0
  go_loopw [4] (fun i wr => ∃ k : Nat, k ≤ 16 ∧ i = .int .i64 k ∧ wr = w.alloc (.cells (tabs k) 39)) (fun i _ => 16 - (intOf i).toNat)
  case atStart => exact ⟨0, by omega, rfl, rfl⟩
  case round =>
    obtain ⟨k, hk, rfl, rfl⟩ := hrel
    by_cases hlt : k < 16
    · have hg := tabs_get k k hlt
      go_wp2
      go_loop [2, 9] (fun v i => ∃ j : Nat, j ≤ 4 ∧ i = .int .i64 j ∧ v = .int .u32 (CrcM.steps j k : Nat)) (fun _ i => 4 - (intOf i).toNat)
      case atStart => exact ⟨0, by omega, rfl, rfl⟩
      case round =>
        obtain ⟨j, hj, rfl, rfl⟩ := hrel
        by_cases hj4 : j < 4
        · have hb := CrcM.steps_lt j k (by omega)
          go_wp2
          · go_round
            case rel => exact ⟨j + 1, by omega, by go_num, val_u32 (by rw [steps_next]; exact step_odd _ hb ‹_›)⟩
            case measure => simp [intOf]; omega
          · go_round
            case rel => exact ⟨j + 1, by omega, by go_num, val_u32 (by rw [steps_next]; exact step_even _ hb ‹_›)⟩
            case measure => simp [intOf]; omega
        · obtain rfl : j = 4 := by omega
          go_wp2
          rw [tabs_set k hlt]
          go_roundw
          case rel => exact ⟨k + 1, by omega, by go_num, rfl⟩
          case measure => simp [intOf]; omega
    · obtain rfl : k = 16 := by omega
      have hh := heap_alloc_last w (.cells (tabs 16) 39)
      go_wp2_with (first | (refine wpList_load_row rfl 39 _ rfl w.heap.size rfl 39 (tabs 16) (0, 0) _ hh Try.underlying39 rfl (by rw [tabs_size]; exact Try.info39) ?_) | (refine wpList_store_row rfl 39 _ _ rfl w.heap.size (tabs 16) rfl rfl 39 (tabs 16) hh (by rw [tabs_size]; exact Try.info39) rfl (tabs_one _) ?_; rw [World.setRow_alloc_new]))
      refine bodyPost_ret (results_cell_row rfl _ _ w.heap.size 39 (tabs 16) (0, 0) _ rfl hh Try.underlying39 rfl (by rw [tabs_size]; exact Try.info39)) rfl ⟨rfl, ?_⟩
      exact (Below.refl _ _).alloc (Nat.le_refl _) _
end Go.Proofs.Ytdhofcomimcekaa
