import Derived.Test.YtdhofcomimcekaaW2
namespace Go.Proofs.Ytdhofcomimcekaa
open Go.RowKit Go.Cq
set_option linter.unusedVariables false

theorem Try.info5 : (Try.prog.info? 5).map (fun i => (i.zero, i.size, i.bytes)) = some (some (.int .u8 0), 1, 1) := by kernel_rfl
theorem Try.info23 : (Try.prog.info? 23).map (fun i => (i.zero, i.size, i.bytes)) = some (some (.int .u32 0), 1, 4) := by kernel_rfl

/-- 'calqueref01.Put': four new bytes. -/
theorem put_any (x : Nat) (w : World) (hx : x < 4294967296) :
    Calls Try.prog 16 #[.int .u32 (x : Int)] w fun e w' => ∃ v, e = .returned v ∧ w'.ownsRow w.heap.size 5 1 v (be4 x).length (nums .u8 (be4 x)) ∧ Below w.heap.size w w' := by
  go_enter Try.func16, Try.ntmps16
  go_wp2
  go_ret
  refine ⟨_, rfl, ?_, (Below.refl _ _).alloc (Nat.le_refl _) _⟩
  have h := World.ownsRow_lit (base := w.heap.size) (e := 5) (size := 1) w #[.int .u8 ((x : Int) / 16777216), .int .u8 ((x : Int) / 65536 % 256), .int .u8 ((x : Int) / 256 % 256), .int .u8 ((x : Int) % 256)] 4 (Nat.le_refl _) (by decide) rfl
  have e : x / 16777216 % 256 = x / 16777216 := by omega
  have e2 : nums .u8 (be4 x) = [.int .u8 ((x : Int) / 16777216), .int .u8 ((x : Int) / 65536 % 256), .int .u8 ((x : Int) / 256 % 256), .int .u8 ((x : Int) % 256)] := by simp [nums, be4, e]
  rw [e2]
  exact h

/-- 'calquelaw00.Bytes', 'Words': in new memory. -/
theorem bytes_any (a : Option Addr) (len cap : Nat) (xs : List Nat) (w : World) (hl : len ≤ 140737488351232) (hn : Nums w .u8 a len cap xs) :
    Calls Try.prog 9 #[.slice a len cap] w fun e w' => ∃ v, e = .returned v ∧ w'.ownsRow w.heap.size 5 1 v xs.length (nums .u8 xs) ∧ Below w.heap.size w w' := by
  go_enter Try.func9, Try.ntmps9
  go_wp2_with (at_builtin; refine wpList_append_nums _ rfl _ _ 22 rfl w.heap.size 5 .u8 1 Try.underlying22 Try.info5 (.slice none 0 0) [] rfl (World.ownsRow_nil _ _ _ _) _ _ _ xs rfl hn (by simp [maxLen]; omega) (by simp; omega) (Nat.le_refl _) ?_; intro v' w1 hown hgr)
  go_ret
  exact ⟨v', rfl, hown, (Below.refl _ _).grown hgr (Nat.le_refl _) (by intro k hk; simp [Value.ownBlock] at hk)⟩

theorem words0_any (a : Option Addr) (len cap : Nat) (xs : List Nat) (w : World) (hl : len * 4 ≤ 140737488351232) (hn : Nums w .u32 a len cap xs) :
    Calls Try.prog 14 #[.slice a len cap] w fun e w' => ∃ v, e = .returned v ∧ w'.ownsRow w.heap.size 23 1 v xs.length (nums .u32 xs) ∧ Below w.heap.size w w' := by
  go_enter Try.func14, Try.ntmps14
  go_wp2_with (at_builtin; refine wpList_append_nums _ rfl _ _ 31 rfl w.heap.size 23 .u32 4 Try.underlying31 Try.info23 (.slice none 0 0) [] rfl (World.ownsRow_nil _ _ _ _) _ _ _ xs rfl hn (by simp [maxLen]; omega) (by simp; omega) (Nat.le_refl _) ?_; intro v' w1 hown hgr)
  go_ret
  exact ⟨v', rfl, hown, (Below.refl _ _).grown hgr (Nat.le_refl _) (by intro k hk; simp [Value.ownBlock] at hk)⟩

theorem tmod_neg (v n : Int) (hn : 1 ≤ n) (h : v.tmod n < 0) : v.tmod n + n = v % n := by
  have h1 := Int.tmod_eq_emod (a := v) (b := n)
  have h2 := Int.emod_nonneg v (show n ≠ 0 by omega)
  have h3 := Int.emod_lt_of_pos v (show 0 < n by omega)
  split at h1 <;> omega
theorem tmod_pos (v n : Int) (hn : 1 ≤ n) (h : 0 ≤ v.tmod n) : v.tmod n = v % n := by
  have h1 := Int.tmod_eq_emod (a := v) (b := n)
  have h2 := Int.emod_nonneg v (show n ≠ 0 by omega)
  have h3 := Int.emod_lt_of_pos v (show 0 < n by omega)
  split at h1 <;> omega
theorem ret_i64 {a b : Int} (h : a = b) : Ending.returned (.int .i64 a) = .returned (.int .i64 b) := by rw [h]

/-- 'calquelaw00.Place'. -/
theorem place_any (v n : Int) (w : World) (hv : -9223372036854775808 ≤ v ∧ v ≤ 9223372036854775807) (hn : 1 ≤ n ∧ n ≤ 9223372036854775807) :
    Calls Try.prog 8 #[.int .i64 v, .int .i64 n] w fun e w' => e = .returned (.int .i64 (v % n)) ∧ w = w' := by
  go_enter Try.func8, Try.ntmps8
  go_wp2
  · have h := tmod_neg v n hn.1 ‹_›
    have h3 := Int.emod_lt_of_pos v (show 0 < n by omega)
    have h2 := Int.emod_nonneg v (show n ≠ 0 by omega)
    go_ret
    exact ⟨ret_i64 (by rw [h]; exact IntWalk.wrap64_in _ (by omega)), rfl⟩
  · have h := tmod_pos v n hn.1 ‹_›
    go_ret
    exact ⟨ret_i64 h, rfl⟩

theorem step_odd' (n : Nat) (h : n < 4294967296) (ho : (bits .and .u32 (n : Int) 1 == 1) = true) : bits .xor .u32 ((n : Int) / 2) 3988292384 = ((CrcM.step n : Nat) : Int) := by
  refine step_odd n h ?_
  rw [beq_iff_eq] at ho
  rw [ho]; rfl
theorem step_even' (n : Nat) (h : n < 4294967296) (ho : (bits .and .u32 (n : Int) 1 == 1) = false) : (n : Int) / 2 = ((CrcM.step n : Nat) : Int) := by
  refine step_even n h ?_
  rw [and_one n h] at ho ⊢
  have h2 : n % 2 = 0 := by
    rcases Nat.mod_two_eq_zero_or_one n with h | h
    · exact h
    · rw [h] at ho; exact absurd ho (by decide)
  rw [h2]; rfl

/-- 'calqueref02.More': bit by bit. -/
theorem rmore_any (s : Nat) (a : Option Addr) (len cap : Nat) (xs : List Nat) (w : World) (hs : s < 4294967296) (hl : len ≤ 140737488351232) (hx : ∀ x ∈ xs, x < 256) (hn : Nums w .u8 a len cap xs) :
    Calls Try.prog 12 #[.int .u32 s, .slice a len cap] w fun e w' => e = .returned (.int .u32 (CrcM.more s xs : Nat)) ∧ w = w' := by
  have hu := us32
  obtain ⟨s0, hs0, hs0b, Hs0⟩ : ∃ s0 : Nat, bits .xor .u32 IntKind.u32.max (s : Int) = (s0 : Int) ∧ s0 < 4294967296 ∧ Hid (s0 = s ^^^ CrcM.mask) := ⟨_, not_u32 s hs, Nat.xor_lt_two_pow (n := 32) hs (by decide), rfl⟩
  have HX := Lib.hid hx
  clear hx
  have HN := Lib.hid hn
  clear hn
  go_enter Try.func12, Try.ntmps12
  go_wp2
  go_loop [5, 6] (fun v i => ∃ k st : Nat, k ≤ len ∧ i = .int .i64 k ∧ v = .int .u32 (st : Int) ∧ Hid (st = CrcM.run s0 (xs.take k)) ∧ st < 4294967296) (fun _ i => len - (intOf i).toNat)
  case atStart => exact ⟨0, s0, by omega, rfl, rfl, rfl, hs0b⟩
  case round =>
    obtain ⟨k, st, hk, rfl, rfl, HS, hst⟩ := hrel
    by_cases hlt : k < len
    · obtain ⟨b, off, rfl, hbl, hc⟩ := HN.out.2.2.2 k hlt
      have hlen : k < xs.length := by rw [HN.out.1]; exact hlt
      obtain ⟨x, hxb, HXk⟩ : ∃ x : Nat, x < 256 ∧ Hid (x = xs.getD k 0) := ⟨_, HX.out _ (getD_mem xs k hlen), rfl⟩
      rw [← HXk.out] at hc
      obtain ⟨y, hy, hyb, HY⟩ : ∃ y : Nat, bits .xor .u32 (st : Int) (x : Int) = (y : Int) ∧ y < 4294967296 ∧ Hid (y = st ^^^ x) := ⟨_, u32_xor_nat st x hst (by omega), Nat.xor_lt_two_pow (n := 32) hst (by omega), rfl⟩
      go_wp2
      go_loop [5, 7] (fun v i => ∃ j q : Nat, j ≤ 8 ∧ i = .int .i64 j ∧ v = .int .u32 (q : Int) ∧ Hid (q = CrcM.steps j y) ∧ q < 4294967296) (fun _ i => 8 - (intOf i).toNat)
      case atStart => exact ⟨0, y, by omega, rfl, rfl, rfl, hyb⟩
      case round =>
        obtain ⟨j, q, hj, rfl, rfl, HQ, hq⟩ := hrel
        by_cases hj8 : j < 8
        · by_cases ho : (bits .and .u32 (q : Int) 1 == 1) = true
          · have e1 := step_odd' q hq ho
            go_wp2
            go_round
            case rel => exact ⟨j + 1, _, by omega, by go_num, rfl, by rw [steps_next, ← HQ.out]; rfl, CrcM.step_lt q hq⟩
            case measure => simp [intOf]; omega
          · have ho' : (bits .and .u32 (q : Int) 1 == 1) = false := by simpa using ho
            have e1 := step_even' q hq ho'
            go_wp2
            go_round
            case rel => exact ⟨j + 1, _, by omega, by go_num, rfl, by rw [steps_next, ← HQ.out]; rfl, CrcM.step_lt q hq⟩
            case measure => simp [intOf]; omega
        · obtain rfl : j = 8 := by omega
          go_wp2
          go_round
          case rel => exact ⟨k + 1, q, by omega, by go_num, rfl, by rw [take_step xs k hlen, ← HS.out, ← HXk.out, HQ.out, HY.out]; rfl, hq⟩
          case measure => simp [intOf]; omega
    · have e1 := not_u32 st hst
      go_wp2
      go_ret
      obtain rfl : k = xs.length := by rw [HN.out.1]; omega
      refine ⟨?_, rfl⟩
      have := HS.out
      rw [List.take_length, Hs0.out] at this
      rw [CrcM.more, ← this]
      rfl

theorem rmore_int (s : Int) (a : Option Addr) (len cap : Nat) (xs : List Nat) (w : World) (h0 : 0 ≤ s) (hs : s < 4294967296) (hl : len ≤ 140737488351232) (hx : ∀ x ∈ xs, x < 256) (hn : Nums w .u8 a len cap xs) :
    Calls Try.prog 12 #[.int .u32 s, .slice a len cap] w fun e w' => e = .returned (.int .u32 (CrcM.more s.toNat xs : Nat)) ∧ w = w' := by
  obtain ⟨n, rfl⟩ := Int.eq_ofNat_of_zero_le h0
  rw [Int.toNat_natCast]
  exact rmore_any n a len cap xs w (by omega) hl hx hn
end Go.Proofs.Ytdhofcomimcekaa
