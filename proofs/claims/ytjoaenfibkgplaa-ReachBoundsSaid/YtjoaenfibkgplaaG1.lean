import Derived.Test.YtjoaenfibkgplaaZR
import Derived.Test.YtjoaenfibkgplaaZG
namespace Go.Proofs.Ytjoaenfibkgplaa
set_option linter.unusedSimpArgs false
open Go.RowKit Go.Cq
set_option linter.unusedVariables false
/-- 'calquelaw00.Word', the numbers as they come. -/
theorem word18_int (op s t d a imm : Int) (w : World) (h1 : 1 ≤ op ∧ op ≤ 69) (hs : 0 ≤ s ∧ s < 32) (ht : 0 ≤ t ∧ t < 32) (hd : 0 ≤ d ∧ d < 32) (ha : 0 ≤ a ∧ a < 32) (hi : 0 ≤ imm ∧ imm < 4294967296) :
    Calls Try.prog 18 #[.int .i64 op, .int .i64 s, .int .i64 t, .int .i64 d, .int .i64 a, .int .u32 imm] w fun e w' => e = .returned (.int .u32 (encN ⟨op.toNat, s.toNat, t.toNat, d.toNat, a.toNat, imm.toNat⟩ : Nat)) ∧ Below w.heap.size w w' := by
  obtain ⟨op, rfl⟩ := Int.eq_ofNat_of_zero_le (show 0 ≤ op by omega)
  obtain ⟨s, rfl⟩ := Int.eq_ofNat_of_zero_le hs.1
  obtain ⟨t, rfl⟩ := Int.eq_ofNat_of_zero_le ht.1
  obtain ⟨d, rfl⟩ := Int.eq_ofNat_of_zero_le hd.1
  obtain ⟨a, rfl⟩ := Int.eq_ofNat_of_zero_le ha.1
  obtain ⟨imm, rfl⟩ := Int.eq_ofNat_of_zero_le hi.1
  simp only [Int.toNat_natCast]
  exact word18_any op s t d a imm w (by omega) (by omega) (by omega) (by omega) (by omega) (by omega)
def PlainPost (w : World) (e : Ending) (w' : World) : Prop := (∃ x : Nat, e = .returned (.int .u32 (x : Int)) ∧ Goes x) ∧ Below w.heap.size w w'
theorem i64_and63 (n : Int) : bits .and .i64 n 63 = ((n % 64).toNat : Int) := by
  have h7 : (BitVec.ofInt 64 63).toNat = 2 ^ 6 - 1 := by decide
  have key : (BitVec.ofInt 64 n &&& BitVec.ofInt 64 63).toNat = (n % ((2 ^ 64 : Nat) : Int)).toNat % 2 ^ 6 := by
    rw [BitVec.toNat_and, BitVec.toNat_ofInt, h7, Nat.and_two_pow_sub_one_eq_mod]
  show IntKind.i64.wrap ((BitVec.ofInt 64 n &&& BitVec.ofInt 64 63).toNat : Nat) = _
  rw [key, IntKind.wrap_i64]
  omega
theorem u32_and31 : ∀ m, m < 64 → bits .and .u32 ((m : Nat) : Int) 31 = ((m % 32 : Nat) : Int) := by decide
theorem and63_31 (n : Nat) : wrap64 (bits .and .u32 (bits .and .i64 ((n : Int) / 32768) 63 % 4294967296) 31) = (n : Int) / 32768 % 32 := by
  rw [i64_and63]
  have h : (((n : Int) / 32768 % 64).toNat : Int) % 4294967296 = ((n / 32768 % 64 : Nat) : Int) := by omega
  rw [h, u32_and31 _ (Nat.mod_lt _ (by decide)), IntWalk.wrap64_in _ ⟨by omega, by omega⟩]
  omega
theorem m8 (x : Int) : 0 ≤ x % 8 ∧ x % 8 < 32 := by omega
theorem m8n (x : Int) : (x % 8).toNat < 32 := by omega
theorem m32 (x : Int) : 0 ≤ x % 32 ∧ x % 32 < 32 := by omega
theorem m32n (x : Int) : (x % 32).toNat < 32 := by omega
theorem z32 : (0 : Int) ≤ 0 ∧ (0 : Int) < 32 := by decide
theorem n28 : (0 : Int) ≤ 28 ∧ (28 : Int) < 32 := by decide
theorem z64 : (0 : Int) ≤ 0 ∧ (0 : Int) < 4294967296 := by decide
theorem i63 (x : Int) : 0 ≤ bits .and .i64 x 63 % 4294967296 ∧ bits .and .i64 x 63 % 4294967296 < 4294967296 := by omega
theorem i63s (x : Int) : 0 ≤ (bits .and .i64 x 63 - 20) % 4294967296 ∧ (bits .and .i64 x 63 - 20) % 4294967296 < 4294967296 := by omega
theorem opb (a k : Int) (x : Int) (ha : 1 ≤ a) (hk : 1 ≤ k) (h : a + k ≤ 70) : 1 ≤ a + x % k ∧ a + x % k ≤ 69 := by
  have h1 := Int.emod_nonneg x (show k ≠ 0 by omega)
  have h2 := Int.emod_lt_of_pos x (show 0 < k by omega)
  omega
theorem opn (a k : Int) (x : Int) (ha : 1 ≤ a) (hk : 1 ≤ k) : a.toNat ≤ (a + x % k).toNat ∧ (a + x % k).toNat ≤ (a + k - 1).toNat := by
  have h1 := Int.emod_nonneg x (show k ≠ 0 by omega)
  have h2 := Int.emod_lt_of_pos x (show 0 < k by omega)
  omega
theorem mem_D {op : Nat} (h : 1 ≤ op ∧ op ≤ 10 ∨ 14 ≤ op ∧ op ≤ 15 ∨ op = 37) : op ∈ [1, 2, 3, 4, 5, 6, 7, 8, 9, 10, 14, 15, 37] := by simp only [List.mem_cons, List.not_mem_nil, or_false]; omega
theorem mem_I {op : Nat} (h : 40 ≤ op ∧ op ≤ 46 ∨ 48 ≤ op ∧ op ≤ 59) : op ∈ [40, 41, 42, 43, 44, 45, 46, 48, 49, 50, 51, 52, 53, 54, 55, 56, 57, 58, 59] := by simp only [List.mem_cons, List.not_mem_nil, or_false]; omega
theorem mem_M {op : Nat} (h : 19 ≤ op ∧ op ≤ 22) : op ∈ [19, 20, 21, 22] := by simp only [List.mem_cons, List.not_mem_nil, or_false]; omega
theorem mem_F {op : Nat} (h : 23 ≤ op ∧ op ≤ 24) : op ∈ [23, 24] := by simp only [List.mem_cons, List.not_mem_nil, or_false]; omega
theorem mem_T {op : Nat} (h : 29 ≤ op ∧ op ≤ 32) : op ∈ [29, 30, 31, 32] := by simp only [List.mem_cons, List.not_mem_nil, or_false]; omega
theorem mem_Y {op : Nat} (h : 38 ≤ op ∧ op ≤ 39) : op ∈ [38, 39] := by simp only [List.mem_cons, List.not_mem_nil, or_false]; omega
theorem mem_H {op : Nat} (h : 16 ≤ op ∧ op ≤ 18) : op ∈ [16, 17, 18] := by simp only [List.mem_cons, List.not_mem_nil, or_false]; omega
set_option maxRecDepth 100000 in
set_option maxHeartbeats 1000000 in
theorem plain35_0 (v : Int) (n : Nat) (w : World) (hv : -9223372036854775808 ≤ v ∧ v ≤ 9223372036854775807) (hn : Hid (v % 1073741824 = (n : Int))) (hn2 : n < 1073741824) (hr : (n : Int) % 23 = 0) :
    Calls Try.prog 35 #[.int .i64 v] w (PlainPost w) := by
  go_enter Try.func35, Try.ntmps35
  go_wp2_with fail
  refine (place_any v 1073741824 w hv (by decide)).mono ?_; rintro e w1 ⟨rfl, rfl⟩; rw [hn.out]
  go_wp2_with fail
  refine (word18_int _ _ _ _ _ _ _ (by decide) (m8 _) (m8 _) (m8 _) z32 z64).mono ?_; rintro e w2 ⟨rfl, hb2⟩
  go_wp2_with fail
  go_ret
  exact ⟨⟨_, rfl, goes_D _ (mem_D (.inl (by decide))) (m8n _) (m8n _) (m8n _)⟩, hb2⟩
set_option maxRecDepth 100000 in
set_option maxHeartbeats 1000000 in
theorem plain35_1 (v : Int) (n : Nat) (w : World) (hv : -9223372036854775808 ≤ v ∧ v ≤ 9223372036854775807) (hn : Hid (v % 1073741824 = (n : Int))) (hn2 : n < 1073741824) (hr : (n : Int) % 23 = 1) :
    Calls Try.prog 35 #[.int .i64 v] w (PlainPost w) := by
  go_enter Try.func35, Try.ntmps35
  go_wp2_with fail
  refine (place_any v 1073741824 w hv (by decide)).mono ?_; rintro e w1 ⟨rfl, rfl⟩; rw [hn.out]
  go_wp2_with fail
  refine (word18_int _ _ _ _ _ _ _ (by decide) (m8 _) (m8 _) (m8 _) z32 z64).mono ?_; rintro e w2 ⟨rfl, hb2⟩
  go_wp2_with fail
  go_ret
  exact ⟨⟨_, rfl, goes_D _ (mem_D (.inl (by decide))) (m8n _) (m8n _) (m8n _)⟩, hb2⟩
set_option maxRecDepth 100000 in
set_option maxHeartbeats 1000000 in
theorem plain35_2 (v : Int) (n : Nat) (w : World) (hv : -9223372036854775808 ≤ v ∧ v ≤ 9223372036854775807) (hn : Hid (v % 1073741824 = (n : Int))) (hn2 : n < 1073741824) (hr : (n : Int) % 23 = 2) :
    Calls Try.prog 35 #[.int .i64 v] w (PlainPost w) := by
  go_enter Try.func35, Try.ntmps35
  go_wp2_with fail
  refine (place_any v 1073741824 w hv (by decide)).mono ?_; rintro e w1 ⟨rfl, rfl⟩; rw [hn.out]
  go_wp2_with fail
  refine (word18_int _ _ _ _ _ _ _ (by decide) (m8 _) (m8 _) (m8 _) z32 z64).mono ?_; rintro e w2 ⟨rfl, hb2⟩
  go_wp2_with fail
  go_ret
  exact ⟨⟨_, rfl, goes_D _ (mem_D (.inl (by decide))) (m8n _) (m8n _) (m8n _)⟩, hb2⟩
set_option maxRecDepth 100000 in
set_option maxHeartbeats 1000000 in
theorem plain35_3 (v : Int) (n : Nat) (w : World) (hv : -9223372036854775808 ≤ v ∧ v ≤ 9223372036854775807) (hn : Hid (v % 1073741824 = (n : Int))) (hn2 : n < 1073741824) (hr : (n : Int) % 23 = 3) :
    Calls Try.prog 35 #[.int .i64 v] w (PlainPost w) := by
  go_enter Try.func35, Try.ntmps35
  go_wp2_with fail
  refine (place_any v 1073741824 w hv (by decide)).mono ?_; rintro e w1 ⟨rfl, rfl⟩; rw [hn.out]
  go_wp2_with fail
  refine (word18_int _ _ _ _ _ _ _ (by decide) (m8 _) (m8 _) (m8 _) z32 z64).mono ?_; rintro e w2 ⟨rfl, hb2⟩
  go_wp2_with fail
  go_ret
  exact ⟨⟨_, rfl, goes_D _ (mem_D (.inl (by decide))) (m8n _) (m8n _) (m8n _)⟩, hb2⟩
set_option maxRecDepth 100000 in
set_option maxHeartbeats 1000000 in
theorem plain35_4 (v : Int) (n : Nat) (w : World) (hv : -9223372036854775808 ≤ v ∧ v ≤ 9223372036854775807) (hn : Hid (v % 1073741824 = (n : Int))) (hn2 : n < 1073741824) (hr : (n : Int) % 23 = 4) :
    Calls Try.prog 35 #[.int .i64 v] w (PlainPost w) := by
  go_enter Try.func35, Try.ntmps35
  go_wp2_with fail
  refine (place_any v 1073741824 w hv (by decide)).mono ?_; rintro e w1 ⟨rfl, rfl⟩; rw [hn.out]
  go_wp2_with fail
  refine (word18_int _ _ _ _ _ _ _ (by decide) (m8 _) (m8 _) (m8 _) z32 z64).mono ?_; rintro e w2 ⟨rfl, hb2⟩
  go_wp2_with fail
  go_ret
  exact ⟨⟨_, rfl, goes_D _ (mem_D (.inl (by decide))) (m8n _) (m8n _) (m8n _)⟩, hb2⟩
set_option maxRecDepth 100000 in
set_option maxHeartbeats 1000000 in
theorem plain35_5 (v : Int) (n : Nat) (w : World) (hv : -9223372036854775808 ≤ v ∧ v ≤ 9223372036854775807) (hn : Hid (v % 1073741824 = (n : Int))) (hn2 : n < 1073741824) (hr : (n : Int) % 23 = 5) :
    Calls Try.prog 35 #[.int .i64 v] w (PlainPost w) := by
  go_enter Try.func35, Try.ntmps35
  go_wp2_with fail
  refine (place_any v 1073741824 w hv (by decide)).mono ?_; rintro e w1 ⟨rfl, rfl⟩; rw [hn.out]
  go_wp2_with fail
  refine (word18_int _ _ _ _ _ _ _ (by decide) (m8 _) (m8 _) (m8 _) z32 z64).mono ?_; rintro e w2 ⟨rfl, hb2⟩
  go_wp2_with fail
  go_ret
  exact ⟨⟨_, rfl, goes_D _ (mem_D (.inl (by decide))) (m8n _) (m8n _) (m8n _)⟩, hb2⟩
set_option maxRecDepth 100000 in
set_option maxHeartbeats 1000000 in
theorem plain35_6 (v : Int) (n : Nat) (w : World) (hv : -9223372036854775808 ≤ v ∧ v ≤ 9223372036854775807) (hn : Hid (v % 1073741824 = (n : Int))) (hn2 : n < 1073741824) (hr : (n : Int) % 23 = 6) :
    Calls Try.prog 35 #[.int .i64 v] w (PlainPost w) := by
  go_enter Try.func35, Try.ntmps35
  go_wp2_with fail
  refine (place_any v 1073741824 w hv (by decide)).mono ?_; rintro e w1 ⟨rfl, rfl⟩; rw [hn.out]
  go_wp2_with fail
  refine (word18_int _ _ _ _ _ _ _ (by decide) (m8 _) (m8 _) (m8 _) z32 z64).mono ?_; rintro e w2 ⟨rfl, hb2⟩
  go_wp2_with fail
  go_ret
  exact ⟨⟨_, rfl, goes_D _ (mem_D (.inl (by decide))) (m8n _) (m8n _) (m8n _)⟩, hb2⟩
set_option maxRecDepth 100000 in
set_option maxHeartbeats 1000000 in
theorem plain35_7 (v : Int) (n : Nat) (w : World) (hv : -9223372036854775808 ≤ v ∧ v ≤ 9223372036854775807) (hn : Hid (v % 1073741824 = (n : Int))) (hn2 : n < 1073741824) (hr : (n : Int) % 23 = 7) :
    Calls Try.prog 35 #[.int .i64 v] w (PlainPost w) := by
  go_enter Try.func35, Try.ntmps35
  go_wp2_with fail
  refine (place_any v 1073741824 w hv (by decide)).mono ?_; rintro e w1 ⟨rfl, rfl⟩; rw [hn.out]
  go_wp2_with fail
  refine (word18_int _ _ _ _ _ _ _ (by decide) (m8 _) (m8 _) (m8 _) z32 z64).mono ?_; rintro e w2 ⟨rfl, hb2⟩
  go_wp2_with fail
  go_ret
  exact ⟨⟨_, rfl, goes_D _ (mem_D (.inl (by decide))) (m8n _) (m8n _) (m8n _)⟩, hb2⟩
set_option maxRecDepth 100000 in
set_option maxHeartbeats 1000000 in
theorem plain35_8 (v : Int) (n : Nat) (w : World) (hv : -9223372036854775808 ≤ v ∧ v ≤ 9223372036854775807) (hn : Hid (v % 1073741824 = (n : Int))) (hn2 : n < 1073741824) (hr : (n : Int) % 23 = 8) :
    Calls Try.prog 35 #[.int .i64 v] w (PlainPost w) := by
  go_enter Try.func35, Try.ntmps35
  go_wp2_with fail
  refine (place_any v 1073741824 w hv (by decide)).mono ?_; rintro e w1 ⟨rfl, rfl⟩; rw [hn.out]
  go_wp2_with fail
  refine (word18_int _ _ _ _ _ _ _ (by decide) (m8 _) (m8 _) (m8 _) z32 z64).mono ?_; rintro e w2 ⟨rfl, hb2⟩
  go_wp2_with fail
  go_ret
  exact ⟨⟨_, rfl, goes_D _ (mem_D (.inl (by decide))) (m8n _) (m8n _) (m8n _)⟩, hb2⟩
set_option maxRecDepth 100000 in
set_option maxHeartbeats 1000000 in
theorem plain35_9 (v : Int) (n : Nat) (w : World) (hv : -9223372036854775808 ≤ v ∧ v ≤ 9223372036854775807) (hn : Hid (v % 1073741824 = (n : Int))) (hn2 : n < 1073741824) (hr : (n : Int) % 23 = 9) :
    Calls Try.prog 35 #[.int .i64 v] w (PlainPost w) := by
  go_enter Try.func35, Try.ntmps35
  go_wp2_with fail
  refine (place_any v 1073741824 w hv (by decide)).mono ?_; rintro e w1 ⟨rfl, rfl⟩; rw [hn.out]
  go_wp2_with fail
  refine (word18_int _ _ _ _ _ _ _ (by decide) (m8 _) (m8 _) (m8 _) z32 z64).mono ?_; rintro e w2 ⟨rfl, hb2⟩
  go_wp2_with fail
  go_ret
  exact ⟨⟨_, rfl, goes_D _ (mem_D (.inl (by decide))) (m8n _) (m8n _) (m8n _)⟩, hb2⟩
set_option maxRecDepth 100000 in
set_option maxHeartbeats 1000000 in
theorem plain35_10 (v : Int) (n : Nat) (w : World) (hv : -9223372036854775808 ≤ v ∧ v ≤ 9223372036854775807) (hn : Hid (v % 1073741824 = (n : Int))) (hn2 : n < 1073741824) (hr : (n : Int) % 23 = 10) :
    Calls Try.prog 35 #[.int .i64 v] w (PlainPost w) := by
  go_enter Try.func35, Try.ntmps35
  go_wp2_with fail
  refine (place_any v 1073741824 w hv (by decide)).mono ?_; rintro e w1 ⟨rfl, rfl⟩; rw [hn.out]
  go_wp2_with fail
  rw [and63_31]
  refine (word18_int _ _ _ _ _ _ _ (by decide) z32 (m8 _) (m8 _) (m32 _) z64).mono ?_; rintro e w2 ⟨rfl, hb2⟩
  go_wp2_with fail
  go_ret
  exact ⟨⟨_, rfl, goes_H _ (mem_H (by decide)) (m8n _) (m8n _) (m32n _)⟩, hb2⟩
set_option maxRecDepth 100000 in
set_option maxHeartbeats 1000000 in
theorem plain35_11 (v : Int) (n : Nat) (w : World) (hv : -9223372036854775808 ≤ v ∧ v ≤ 9223372036854775807) (hn : Hid (v % 1073741824 = (n : Int))) (hn2 : n < 1073741824) (hr : (n : Int) % 23 = 11) :
    Calls Try.prog 35 #[.int .i64 v] w (PlainPost w) := by
  go_enter Try.func35, Try.ntmps35
  go_wp2_with fail
  refine (place_any v 1073741824 w hv (by decide)).mono ?_; rintro e w1 ⟨rfl, rfl⟩; rw [hn.out]
  go_wp2_with fail
  rw [and63_31]
  refine (word18_int _ _ _ _ _ _ _ (by decide) z32 (m8 _) (m8 _) (m32 _) z64).mono ?_; rintro e w2 ⟨rfl, hb2⟩
  go_wp2_with fail
  go_ret
  exact ⟨⟨_, rfl, goes_H _ (mem_H (by decide)) (m8n _) (m8n _) (m32n _)⟩, hb2⟩
set_option maxRecDepth 100000 in
set_option maxHeartbeats 1000000 in
theorem plain35_12 (v : Int) (n : Nat) (w : World) (hv : -9223372036854775808 ≤ v ∧ v ≤ 9223372036854775807) (hn : Hid (v % 1073741824 = (n : Int))) (hn2 : n < 1073741824) (hr : (n : Int) % 23 = 12) :
    Calls Try.prog 35 #[.int .i64 v] w (PlainPost w) := by
  go_enter Try.func35, Try.ntmps35
  go_wp2_with fail
  refine (place_any v 1073741824 w hv (by decide)).mono ?_; rintro e w1 ⟨rfl, rfl⟩; rw [hn.out]
  go_wp2_with fail
  rw [and63_31]
  refine (word18_int _ _ _ _ _ _ _ (by decide) z32 (m8 _) (m8 _) (m32 _) z64).mono ?_; rintro e w2 ⟨rfl, hb2⟩
  go_wp2_with fail
  go_ret
  exact ⟨⟨_, rfl, goes_H _ (mem_H (by decide)) (m8n _) (m8n _) (m32n _)⟩, hb2⟩
set_option maxRecDepth 100000 in
set_option maxHeartbeats 1000000 in
theorem plain35_13 (v : Int) (n : Nat) (w : World) (hv : -9223372036854775808 ≤ v ∧ v ≤ 9223372036854775807) (hn : Hid (v % 1073741824 = (n : Int))) (hn2 : n < 1073741824) (hr : (n : Int) % 23 = 13) :
    Calls Try.prog 35 #[.int .i64 v] w (PlainPost w) := by
  go_enter Try.func35, Try.ntmps35
  go_wp2_with fail
  refine (place_any v 1073741824 w hv (by decide)).mono ?_; rintro e w1 ⟨rfl, rfl⟩; rw [hn.out]
  go_wp2_with fail
  refine (word18_int _ _ _ _ _ _ _ (opb 19 4 _ (by decide) (by decide) (by decide)) (m8 _) (m8 _) z32 z32 z64).mono ?_; rintro e w2 ⟨rfl, hb2⟩
  go_wp2_with fail
  go_ret
  exact ⟨⟨_, rfl, goes_M _ (mem_M ⟨(opn 19 4 _ (by decide) (by decide)).1, (opn 19 4 _ (by decide) (by decide)).2⟩) (m8n _) (m8n _)⟩, hb2⟩
set_option maxRecDepth 100000 in
set_option maxHeartbeats 1000000 in
theorem plain35_14 (v : Int) (n : Nat) (w : World) (hv : -9223372036854775808 ≤ v ∧ v ≤ 9223372036854775807) (hn : Hid (v % 1073741824 = (n : Int))) (hn2 : n < 1073741824) (hr : (n : Int) % 23 = 14) :
    Calls Try.prog 35 #[.int .i64 v] w (PlainPost w) := by
  go_enter Try.func35, Try.ntmps35
  go_wp2_with fail
  refine (place_any v 1073741824 w hv (by decide)).mono ?_; rintro e w1 ⟨rfl, rfl⟩; rw [hn.out]
  go_wp2_with fail
  refine (word18_int _ _ _ _ _ _ _ (opb 23 2 _ (by decide) (by decide) (by decide)) z32 z32 (m8 _) z32 z64).mono ?_; rintro e w2 ⟨rfl, hb2⟩
  go_wp2_with fail
  go_ret
  exact ⟨⟨_, rfl, goes_F _ (mem_F ⟨(opn 23 2 _ (by decide) (by decide)).1, (opn 23 2 _ (by decide) (by decide)).2⟩) (m8n _)⟩, hb2⟩
set_option maxRecDepth 100000 in
set_option maxHeartbeats 1000000 in
theorem plain35_15 (v : Int) (n : Nat) (w : World) (hv : -9223372036854775808 ≤ v ∧ v ≤ 9223372036854775807) (hn : Hid (v % 1073741824 = (n : Int))) (hn2 : n < 1073741824) (hr : (n : Int) % 23 = 15) :
    Calls Try.prog 35 #[.int .i64 v] w (PlainPost w) := by
  go_enter Try.func35, Try.ntmps35
  go_wp2_with fail
  refine (place_any v 1073741824 w hv (by decide)).mono ?_; rintro e w1 ⟨rfl, rfl⟩; rw [hn.out]
  go_wp2_with fail
  refine (word18_int _ _ _ _ _ _ _ (opb 40 4 _ (by decide) (by decide) (by decide)) (m8 _) (m8 _) z32 z32 (i63s _)).mono ?_; rintro e w2 ⟨rfl, hb2⟩
  go_wp2_with fail
  go_ret
  exact ⟨⟨_, rfl, goes_I _ (mem_I (.inl ⟨Nat.le_trans (by decide) (opn 40 4 (↑n / 2097152) (by decide) (by decide)).1, Nat.le_trans (opn 40 4 (↑n / 2097152) (by decide) (by decide)).2 (by decide)⟩)) (m8n _) (m8n _)⟩, hb2⟩
set_option maxRecDepth 100000 in
set_option maxHeartbeats 1000000 in
theorem plain35_16 (v : Int) (n : Nat) (w : World) (hv : -9223372036854775808 ≤ v ∧ v ≤ 9223372036854775807) (hn : Hid (v % 1073741824 = (n : Int))) (hn2 : n < 1073741824) (hr : (n : Int) % 23 = 16) :
    Calls Try.prog 35 #[.int .i64 v] w (PlainPost w) := by
  go_enter Try.func35, Try.ntmps35
  go_wp2_with fail
  refine (place_any v 1073741824 w hv (by decide)).mono ?_; rintro e w1 ⟨rfl, rfl⟩; rw [hn.out]
  go_wp2_with fail
  refine (word18_int _ _ _ _ _ _ _ (opb 44 3 _ (by decide) (by decide) (by decide)) (m8 _) (m8 _) z32 z32 (i63 _)).mono ?_; rintro e w2 ⟨rfl, hb2⟩
  go_wp2_with fail
  go_ret
  exact ⟨⟨_, rfl, goes_I _ (mem_I (.inl ⟨Nat.le_trans (by decide) (opn 44 3 (↑n / 2097152) (by decide) (by decide)).1, Nat.le_trans (opn 44 3 (↑n / 2097152) (by decide) (by decide)).2 (by decide)⟩)) (m8n _) (m8n _)⟩, hb2⟩
set_option maxRecDepth 100000 in
set_option maxHeartbeats 1000000 in
theorem plain35_17 (v : Int) (n : Nat) (w : World) (hv : -9223372036854775808 ≤ v ∧ v ≤ 9223372036854775807) (hn : Hid (v % 1073741824 = (n : Int))) (hn2 : n < 1073741824) (hr : (n : Int) % 23 = 17) :
    Calls Try.prog 35 #[.int .i64 v] w (PlainPost w) := by
  go_enter Try.func35, Try.ntmps35
  go_wp2_with fail
  refine (place_any v 1073741824 w hv (by decide)).mono ?_; rintro e w1 ⟨rfl, rfl⟩; rw [hn.out]
  go_wp2_with fail
  refine (word18_int _ _ _ _ _ _ _ (by decide) (m8 _) (m8 _) (m8 _) z32 z64).mono ?_; rintro e w2 ⟨rfl, hb2⟩
  go_wp2_with fail
  go_ret
  exact ⟨⟨_, rfl, goes_D _ (mem_D (.inr (.inr rfl))) (m8n _) (m8n _) (m8n _)⟩, hb2⟩
set_option maxRecDepth 100000 in
set_option maxHeartbeats 1000000 in
theorem plain35_18 (v : Int) (n : Nat) (w : World) (hv : -9223372036854775808 ≤ v ∧ v ≤ 9223372036854775807) (hn : Hid (v % 1073741824 = (n : Int))) (hn2 : n < 1073741824) (hr : (n : Int) % 23 = 18) :
    Calls Try.prog 35 #[.int .i64 v] w (PlainPost w) := by
  go_enter Try.func35, Try.ntmps35
  go_wp2_with fail
  refine (place_any v 1073741824 w hv (by decide)).mono ?_; rintro e w1 ⟨rfl, rfl⟩; rw [hn.out]
  go_wp2_with fail
  refine (word18_int _ _ _ _ _ _ _ (opb 14 2 _ (by decide) (by decide) (by decide)) (m8 _) (m8 _) (m8 _) z32 z64).mono ?_; rintro e w2 ⟨rfl, hb2⟩
  go_wp2_with fail
  go_ret
  exact ⟨⟨_, rfl, goes_D _ (mem_D (.inr (.inl ⟨(opn 14 2 _ (by decide) (by decide)).1, (opn 14 2 _ (by decide) (by decide)).2⟩))) (m8n _) (m8n _) (m8n _)⟩, hb2⟩
set_option maxRecDepth 100000 in
set_option maxHeartbeats 1000000 in
theorem plain35_19 (v : Int) (n : Nat) (w : World) (hv : -9223372036854775808 ≤ v ∧ v ≤ 9223372036854775807) (hn : Hid (v % 1073741824 = (n : Int))) (hn2 : n < 1073741824) (hr : (n : Int) % 23 = 19) :
    Calls Try.prog 35 #[.int .i64 v] w (PlainPost w) := by
  go_enter Try.func35, Try.ntmps35
  go_wp2_with fail
  refine (place_any v 1073741824 w hv (by decide)).mono ?_; rintro e w1 ⟨rfl, rfl⟩; rw [hn.out]
  go_wp2_with fail
  refine (word18_int _ _ _ _ _ _ _ (opb 48 7 _ (by decide) (by decide) (by decide)) n28 (m8 _) z32 z32 (i63 _)).mono ?_; rintro e w2 ⟨rfl, hb2⟩
  go_wp2_with fail
  go_ret
  exact ⟨⟨_, rfl, goes_I _ (mem_I (.inr ⟨Nat.le_trans (by decide) (opn 48 7 (↑n / 2097152) (by decide) (by decide)).1, Nat.le_trans (opn 48 7 (↑n / 2097152) (by decide) (by decide)).2 (by decide)⟩)) (by decide) (m8n _)⟩, hb2⟩
set_option maxRecDepth 100000 in
set_option maxHeartbeats 1000000 in
theorem plain35_20 (v : Int) (n : Nat) (w : World) (hv : -9223372036854775808 ≤ v ∧ v ≤ 9223372036854775807) (hn : Hid (v % 1073741824 = (n : Int))) (hn2 : n < 1073741824) (hr : (n : Int) % 23 = 20) :
    Calls Try.prog 35 #[.int .i64 v] w (PlainPost w) := by
  go_enter Try.func35, Try.ntmps35
  go_wp2_with fail
  refine (place_any v 1073741824 w hv (by decide)).mono ?_; rintro e w1 ⟨rfl, rfl⟩; rw [hn.out]
  go_wp2_with fail
  refine (word18_int _ _ _ _ _ _ _ (opb 55 5 _ (by decide) (by decide) (by decide)) n28 (m8 _) z32 z32 (i63 _)).mono ?_; rintro e w2 ⟨rfl, hb2⟩
  go_wp2_with fail
  go_ret
  exact ⟨⟨_, rfl, goes_I _ (mem_I (.inr ⟨Nat.le_trans (by decide) (opn 55 5 (↑n / 2097152) (by decide) (by decide)).1, Nat.le_trans (opn 55 5 (↑n / 2097152) (by decide) (by decide)).2 (by decide)⟩)) (by decide) (m8n _)⟩, hb2⟩
set_option maxRecDepth 100000 in
set_option maxHeartbeats 1000000 in
theorem plain35_21 (v : Int) (n : Nat) (w : World) (hv : -9223372036854775808 ≤ v ∧ v ≤ 9223372036854775807) (hn : Hid (v % 1073741824 = (n : Int))) (hn2 : n < 1073741824) (hr : (n : Int) % 23 = 21) :
    Calls Try.prog 35 #[.int .i64 v] w (PlainPost w) := by
  go_enter Try.func35, Try.ntmps35
  go_wp2_with fail
  refine (place_any v 1073741824 w hv (by decide)).mono ?_; rintro e w1 ⟨rfl, rfl⟩; rw [hn.out]
  go_wp2_with fail
  refine (word18_int _ _ _ _ _ _ _ (opb 29 4 _ (by decide) (by decide) (by decide)) (m8 _) (m8 _) z32 z32 z64).mono ?_; rintro e w2 ⟨rfl, hb2⟩
  go_wp2_with fail
  go_ret
  exact ⟨⟨_, rfl, goes_T _ (mem_T ⟨(opn 29 4 _ (by decide) (by decide)).1, (opn 29 4 _ (by decide) (by decide)).2⟩) (m8n _) (m8n _)⟩, hb2⟩
set_option maxRecDepth 100000 in
set_option maxHeartbeats 1000000 in
theorem plain35_22 (v : Int) (n : Nat) (w : World) (hv : -9223372036854775808 ≤ v ∧ v ≤ 9223372036854775807) (hn : Hid (v % 1073741824 = (n : Int))) (hn2 : n < 1073741824) (hr : (n : Int) % 23 = 22) :
    Calls Try.prog 35 #[.int .i64 v] w (PlainPost w) := by
  go_enter Try.func35, Try.ntmps35
  go_wp2_with fail
  refine (place_any v 1073741824 w hv (by decide)).mono ?_; rintro e w1 ⟨rfl, rfl⟩; rw [hn.out]
  go_wp2_with fail
  refine (word18_int _ _ _ _ _ _ _ (opb 38 2 _ (by decide) (by decide) (by decide)) (m8 _) (m8 _) (m8 _) z32 z64).mono ?_; rintro e w2 ⟨rfl, hb2⟩
  go_wp2_with fail
  go_ret
  exact ⟨⟨_, rfl, goes_Y _ (mem_Y ⟨(opn 38 2 _ (by decide) (by decide)).1, (opn 38 2 _ (by decide) (by decide)).2⟩) (m8n _) (m8n _)⟩, hb2⟩
/-- 'calquelaw00.Plain': a word that goes on. -/
theorem plain35_any (v : Int) (w : World) (hv : -9223372036854775808 ≤ v ∧ v ≤ 9223372036854775807) : Calls Try.prog 35 #[.int .i64 v] w (PlainPost w) := by
  obtain ⟨n, hn, hn2⟩ : ∃ n : Nat, v % 1073741824 = (n : Int) ∧ n < 1073741824 := ⟨(v % 1073741824).toNat, by omega, by omega⟩
  have h : n % 23 = 0 ∨ n % 23 = 1 ∨ n % 23 = 2 ∨ n % 23 = 3 ∨ n % 23 = 4 ∨ n % 23 = 5 ∨ n % 23 = 6 ∨ n % 23 = 7 ∨ n % 23 = 8 ∨ n % 23 = 9 ∨ n % 23 = 10 ∨ n % 23 = 11 ∨ n % 23 = 12 ∨ n % 23 = 13 ∨ n % 23 = 14 ∨ n % 23 = 15 ∨ n % 23 = 16 ∨ n % 23 = 17 ∨ n % 23 = 18 ∨ n % 23 = 19 ∨ n % 23 = 20 ∨ n % 23 = 21 ∨ n % 23 = 22 := by omega
  rcases h with h | h | h | h | h | h | h | h | h | h | h | h | h | h | h | h | h | h | h | h | h | h | h
  · exact plain35_0 v n w hv hn hn2 (by omega)
  · exact plain35_1 v n w hv hn hn2 (by omega)
  · exact plain35_2 v n w hv hn hn2 (by omega)
  · exact plain35_3 v n w hv hn hn2 (by omega)
  · exact plain35_4 v n w hv hn hn2 (by omega)
  · exact plain35_5 v n w hv hn hn2 (by omega)
  · exact plain35_6 v n w hv hn hn2 (by omega)
  · exact plain35_7 v n w hv hn hn2 (by omega)
  · exact plain35_8 v n w hv hn hn2 (by omega)
  · exact plain35_9 v n w hv hn hn2 (by omega)
  · exact plain35_10 v n w hv hn hn2 (by omega)
  · exact plain35_11 v n w hv hn hn2 (by omega)
  · exact plain35_12 v n w hv hn hn2 (by omega)
  · exact plain35_13 v n w hv hn hn2 (by omega)
  · exact plain35_14 v n w hv hn hn2 (by omega)
  · exact plain35_15 v n w hv hn hn2 (by omega)
  · exact plain35_16 v n w hv hn hn2 (by omega)
  · exact plain35_17 v n w hv hn hn2 (by omega)
  · exact plain35_18 v n w hv hn hn2 (by omega)
  · exact plain35_19 v n w hv hn hn2 (by omega)
  · exact plain35_20 v n w hv hn hn2 (by omega)
  · exact plain35_21 v n w hv hn hn2 (by omega)
  · exact plain35_22 v n w hv hn hn2 (by omega)
end Go.Proofs.Ytjoaenfibkgplaa
