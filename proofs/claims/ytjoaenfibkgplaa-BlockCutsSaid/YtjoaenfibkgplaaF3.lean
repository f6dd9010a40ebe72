import Derived.Test.YtjoaenfibkgplaaF2
namespace Go.Proofs.Ytjoaenfibkgplaa
set_option linter.unusedSimpArgs false
open Go.RowKit Go.Cq
set_option linter.unusedVariables false

def wJ4 : Nat := encN ⟨68, 0, 0, 0, 0, 4⟩
def wFF : Nat := 4294967295
theorem wJ4_lt : wJ4 < 4294967296 := by decide +kernel
theorem wJ4_plain : plainW wJ4 = false := by decide +kernel
theorem wJ4_jumps : jumpsW wJ4 = true := by decide +kernel
theorem wFF_plain : plainW wFF = false := by decide +kernel
theorem wFF_jumps : jumpsW wFF = false := by decide +kernel
theorem word_J4 (w : World) : Calls Try.prog 18 #[.int .i64 68, .int .i64 0, .int .i64 0, .int .i64 0, .int .i64 0, .int .u32 4] w fun e w' => e = .returned (.int .u32 (wJ4 : Int)) ∧ Below w.heap.size w w' :=
  word18_any 68 0 0 0 0 4 w (by omega) (by omega) (by omega) (by omega) (by omega) (by omega)

/-- So many plain words, one that jumps among them. -/
def sizesW (j k : Nat) : List Nat := (List.range k).map fun i => if i = j then wJ4 else wP
theorem sizesW_length (j k : Nat) : (sizesW j k).length = k := by simp [sizesW]
theorem sizesW_succ (j k : Nat) : sizesW j (k + 1) = cat (sizesW j k) [if k = j then wJ4 else wP] := by
  unfold sizesW cat
  rw [List.range_succ, List.map_append]; rfl
theorem sizesW_lt (j k : Nat) : ∀ y ∈ sizesW j k, y < 4294967296 := by
  intro y hy
  unfold sizesW at hy
  rw [List.mem_map] at hy
  obtain ⟨i, _, rfl⟩ := hy
  split
  · exact wJ4_lt
  · exact wP_lt
theorem sizes_ge {j k : Nat} (h : k ≤ j) : sizesW j k = List.replicate k wP := by
  refine List.eq_replicate_iff.2 ⟨sizesW_length j k, fun b hb => ?_⟩
  unfold sizesW at hb
  rw [List.mem_map] at hb
  obtain ⟨i, hi, rfl⟩ := hb
  rw [if_neg (by have := List.mem_range.1 hi; omega)]
theorem sizes_lt {j k : Nat} (h : j < k) : sizesW j k = List.replicate j wP ++ wJ4 :: List.replicate (k - j - 1) wP := by
  obtain ⟨m, rfl⟩ : ∃ m, k = j + 1 + m := ⟨k - j - 1, by omega⟩
  rw [show j + 1 + m - j - 1 = m by omega, ← sizes_ge (Nat.le_refl j)]
  show (List.range (j + 1 + m)).map _ = _
  rw [List.range_add, List.range_succ, List.map_append, List.map_append, List.append_assoc]
  congr 1
  rw [List.map_singleton, if_pos rfl, List.singleton_append]
  congr 1
  refine List.eq_replicate_iff.2 ⟨by simp, fun b hb => ?_⟩
  simp only [List.mem_map, List.mem_range] at hb
  obtain ⟨i, ⟨x, hx, rfl⟩, rfl⟩ := hb
  rw [if_neg (by omega)]
def wantN (k j : Nat) : Nat := if j < k then (if k ≤ j + 1 then min j 16 else if j + 2 ≤ 16 then j + 2 else min j 16) else min k 16
theorem rep_plain (n : Nat) : ∀ x ∈ List.replicate n wP, plainW x = true := fun x hx => by rw [List.eq_of_mem_replicate hx]; exact wP_plain
theorem cut_many (n : Nat) (hn : 17 ≤ n) (rest : List Nat) : (cutGo (List.replicate n wP ++ rest) [] false).length = 16 := by
  obtain ⟨m, rfl⟩ : ∃ m, n = 16 + (m + 1) := ⟨n - 17, by omega⟩
  rw [← List.replicate_append_replicate, List.append_assoc, cutGo_plain (rep_plain 16) _ _ (by simp), List.replicate_succ (n := m), List.cons_append, cutGo_full wP_plain _ _ (by simp)]
  simp
theorem sizes_cut (k j : Nat) (rest : List Nat) : (cutGo ((cat (sizesW j k) [wFF]).drop 0 ++ rest) [] false).length = wantN k j := by
  unfold wantN cat
  rw [List.drop_zero]
  by_cases h : j < k
  · rw [if_pos h, sizes_lt h]
    by_cases h16 : 17 ≤ j
    · rw [List.append_assoc, List.append_assoc, cut_many j h16]
      split
      · omega
      · rw [if_neg (by omega)]; omega
    · rw [List.append_assoc, List.append_assoc, cutGo_plain (rep_plain j) _ _ (by simp; omega), List.nil_append, List.cons_append]
      by_cases h1 : k ≤ j + 1
      · rw [if_pos h1, show k - j - 1 = 0 by omega]
        by_cases h2 : j + 2 ≤ 16
        · rw [List.replicate_zero, List.nil_append, List.cons_append, cutGo_jump wJ4_plain wJ4_jumps _ _ _ (by simp; omega), wFF_plain, if_neg Bool.false_ne_true, List.length_replicate]; omega
        · rw [cutGo_long wJ4_plain _ _ (by simp; omega), List.length_replicate]; omega
      · rw [if_neg h1]
        by_cases h2 : j + 2 ≤ 16
        · rw [if_pos h2]
          obtain ⟨m, hm⟩ : ∃ m, k - j - 1 = m + 1 := ⟨k - j - 2, by omega⟩
          rw [hm, List.replicate_succ, List.cons_append, cutGo_jump wJ4_plain wJ4_jumps _ _ _ (by simp; omega), wP_plain, if_pos rfl]
          simp
        · rw [if_neg h2, cutGo_long wJ4_plain _ _ (by simp; omega), List.length_replicate]; omega
  · rw [if_neg h, sizes_ge (by omega)]
    by_cases h16 : 17 ≤ k
    · rw [List.append_assoc, cut_many k h16]; omega
    · rw [List.append_assoc, cutGo_plain (rep_plain k) _ _ (by simp; omega), List.nil_append, List.cons_append, cutGo_stop wFF_plain wFF_jumps, List.length_replicate]; omega
theorem want_le (k j : Nat) : wantN k j ≤ 16 := by
  unfold wantN
  repeat' split
  all_goals omega
end Go.Proofs.Ytjoaenfibkgplaa
