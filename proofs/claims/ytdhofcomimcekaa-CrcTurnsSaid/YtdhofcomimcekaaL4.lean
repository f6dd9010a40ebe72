import Derived.Test.YtdhofcomimcekaaW4
namespace Go.Proofs.Ytdhofcomimcekaa
open Go.RowKit Go.Cq
set_option linter.unusedVariables false

/-- Bytes from a place on turned by the bytes of a number. -/
def turn (X p : Nat) : Nat → List Nat → List Nat
  | 0, l => l
  | j + 1, l => (turn X p j l).set (p + j) ((turn X p j l).getD (p + j) 0 ^^^ (X / 256 ^ j % 256))
theorem turn_length (X p j : Nat) (l : List Nat) : (turn X p j l).length = l.length := by
  induction j with
  | zero => rfl
  | succ j ih => rw [turn, List.length_set, ih]
theorem turn_get (X p j : Nat) (l : List Nat) (i : Nat) (hi : i < l.length) : (turn X p j l).getD i 0 = if p ≤ i ∧ i < p + j then l.getD i 0 ^^^ (X / 256 ^ (i - p) % 256) else l.getD i 0 := by
  induction j with
  | zero => rw [if_neg (by omega)]; rfl
  | succ j ih =>
    rw [turn]
    have hl := turn_length X p j l
    by_cases e : i = p + j
    · subst e
      rw [if_pos (by omega)]
      rw [if_neg (by omega)] at ih
      have : ((turn X p j l).set (p + j) ((turn X p j l).getD (p + j) 0 ^^^ (X / 256 ^ j % 256))).getD (p + j) 0 = (turn X p j l).getD (p + j) 0 ^^^ (X / 256 ^ j % 256) := by
        rw [List.getD, List.getElem?_set_self (by omega)]; rfl
      rw [this, ih, show p + j - p = j by omega]
    · have : ((turn X p j l).set (p + j) ((turn X p j l).getD (p + j) 0 ^^^ (X / 256 ^ j % 256))).getD i 0 = (turn X p j l).getD i 0 := by
        rw [List.getD, List.getElem?_set_ne (by omega)]; rfl
      rw [this, ih]
      by_cases h : p ≤ i ∧ i < p + j
      · rw [if_pos h, if_pos (by omega)]
      · rw [if_neg h, if_neg (by omega)]
theorem turn_lt (X p j : Nat) (l : List Nat) (h : ∀ x ∈ l, x < 256) : ∀ x ∈ turn X p j l, x < 256 := by
  induction j with
  | zero => exact h
  | succ j ih =>
    intro x hx
    rw [turn] at hx
    rcases List.mem_or_eq_of_mem_set hx with hx | rfl
    · exact ih x hx
    · refine Nat.xor_lt_two_pow (n := 8) ?_ (Nat.mod_lt _ (by decide))
      by_cases hl : p + j < (turn X p j l).length
      · exact ih _ (getD_mem _ _ hl)
      · rw [List.getD, List.getElem?_eq_none (by omega)]; decide
theorem bytesOf_get (k n i : Nat) (h : i < k) : (CrcM.bytesOf k n)[i]? = some (n / 256 ^ i % 256) := by
  induction k generalizing n i with
  | zero => omega
  | succ k ih =>
    rw [CrcM.bytesOf]
    cases i with
    | zero => simp
    | succ i => rw [List.getElem?_cons_succ, ih (n / 256) i (by omega), Nat.div_div_eq_div_mul, Nat.pow_succ, Nat.mul_comm]
theorem bytesOf_length (k n : Nat) : (CrcM.bytesOf k n).length = k := by
  induction k generalizing n with
  | zero => rfl
  | succ k ih => rw [CrcM.bytesOf, List.length_cons, ih]
theorem turn_zip (X p : Nat) (l : List Nat) (h : p + 5 ≤ l.length) : List.zipWith (· ^^^ ·) (turn X p 5 l) l = List.replicate p 0 ++ CrcM.bytesOf 5 X ++ List.replicate (l.length - p - 5) 0 := by
  apply List.ext_getElem?
  intro i
  rw [List.getElem?_zipWith]
  by_cases hi : i < l.length
  · have h1 : (turn X p 5 l)[i]? = some ((turn X p 5 l).getD i 0) := by
      have : i < (turn X p 5 l).length := by rw [turn_length]; exact hi
      rw [List.getD, List.getElem?_eq_getElem this]; rfl
    have h2 : l[i]? = some (l.getD i 0) := by rw [List.getD, List.getElem?_eq_getElem hi]; rfl
    rw [h1, h2, turn_get X p 5 l i hi]
    by_cases hp : i < p
    · rw [if_neg (by omega), List.append_assoc, List.getElem?_append_left (by simpa using hp)]
      simp [hp]
    · rw [List.append_assoc, List.getElem?_append_right (by simp; omega), List.length_replicate]
      by_cases hq : i - p < 5
      · rw [if_pos (by omega), List.getElem?_append_left (by rw [bytesOf_length]; exact hq), bytesOf_get 5 X _ hq]
        show some _ = some _
        congr 1
        rw [Nat.xor_comm (l.getD i 0), Nat.xor_assoc, Nat.xor_self, Nat.xor_zero]
      · rw [if_neg (by omega), List.getElem?_append_right (by rw [bytesOf_length]; omega), bytesOf_length, List.getElem?_replicate, if_pos (by omega)]
        show some _ = some _
        rw [Nat.xor_self]
  · rw [List.getElem?_eq_none (by rw [turn_length]; omega), List.getElem?_eq_none (l := List.replicate p 0 ++ CrcM.bytesOf 5 X ++ List.replicate (l.length - p - 5) 0) (by rw [List.length_append, List.length_append, List.length_replicate, List.length_replicate, bytesOf_length]; omega)]
theorem turn_ne (row r p : Nat) (l : List Nat) (h : p + 5 ≤ l.length) (hr : r < 8) (h0 : row ≠ 0) (hrow : row < 4294967296) : CrcM.more 0 (turn (row * 2 ^ r) p 5 l) ≠ CrcM.more 0 l := by
  intro e
  have e2 : CrcM.run (0 ^^^ CrcM.mask) (turn (row * 2 ^ r) p 5 l) = CrcM.run (0 ^^^ CrcM.mask) l := by
    have := congrArg (· ^^^ CrcM.mask) e
    simpa [CrcM.more, CrcM.xor_mask2] using this
  have e3 := CrcM.run_xor (turn (row * 2 ^ r) p 5 l) l (by rw [turn_length]) (0 ^^^ CrcM.mask) (0 ^^^ CrcM.mask)
  rw [e2, Nat.xor_self, Nat.xor_self, turn_zip _ _ _ h] at e3
  exact CrcM.turned_ne p _ row r hrow h0 hr e3.symm
theorem nums_set (k : IntKind) (xs : List Nat) (j n : Nat) : (nums k xs).set j (.int k (n : Int)) = nums k (xs.set j n) := by
  simp [nums, List.map_set]

/-- 'CrcTurns', walked. -/
theorem crcTurns_walk (a : Option Addr) (len cap : Nat) (xs : List Nat) (at_ : Int) (row : Nat) (w : World) (hl : len ≤ 140737488351232) (hx : ∀ x ∈ xs, x < 256) (hn : Nums w .u8 a len cap xs)
    (hat : -9223372036854775808 ≤ at_ ∧ at_ ≤ 9223372036854775807) (hrow : row < 4294967296) :
    Calls Try.prog 3 #[.slice a len cap, .int .i64 at_, .int .u32 (row : Int)] w fun e w' => e = .returned (.bool true) ∧ Below w.heap.size w w' := by
  have HX := Lib.hid hx
  have HN := Lib.hid hn
  have HL1 := Lib.hid HN.out.1
  clear hx hn
  by_cases h5 : len < 5
  · go_enter Try.func3, Try.ntmps3
    go_wp2_with (go_at_call 7; refine (awake_any _).mono ?_; rintro e w1 ⟨rfl, hb1⟩)
    go_ret
    exact ⟨rfl, hb1⟩
  · by_cases hr0 : row = 0
    · subst hr0
      go_enter Try.func3, Try.ntmps3
      go_wp2_with (go_at_call 7; refine (awake_any _).mono ?_; rintro e w1 ⟨rfl, hb1⟩)
      go_ret
      exact ⟨rfl, hb1⟩
    · have hr1 : ((row : Int) == 0) = false := by simp; omega
      obtain ⟨k, hk, hkl⟩ : ∃ k : Nat, at_ % (8 * (len : Int) - 39) = (k : Int) ∧ k + 40 ≤ 8 * len := by
        have h2 := Int.emod_nonneg at_ (show 8 * (len : Int) - 39 ≠ 0 by omega)
        have h3 := Int.emod_lt_of_pos at_ (show 0 < 8 * (len : Int) - 39 by omega)
        exact ⟨(at_ % (8 * (len : Int) - 39)).toNat, by omega, by omega⟩
      have HK := Lib.hid hk
      clear hk
      go_enter Try.func3, Try.ntmps3
      go_wp2_with fail
      refine (place_any at_ (8 * (len : Int) - 39) _ hat (by omega)).mono ?_; rintro e w' ⟨rfl, rfl⟩
      rw [HK.out]
      go_wp2_with fail
      obtain ⟨X, hX, hXb, HXe⟩ : ∃ X : Nat, IntKind.u64.wrap ((row : Int) * 2 ^ (k % 8)) = (X : Int) ∧ X < 549755813888 ∧ Hid (X = row * 2 ^ (k % 8)) := by
        have h2 : 2 ^ (k % 8) ≤ 2 ^ 7 := Nat.pow_le_pow_right (by decide) (by omega)
        have h3 : row * 2 ^ (k % 8) ≤ row * 2 ^ 7 := Nat.mul_le_mul_left _ h2
        refine ⟨row * 2 ^ (k % 8), ?_, by omega, rfl⟩
        have e : (row : Int) * 2 ^ (k % 8) = ((row * 2 ^ (k % 8) : Nat) : Int) := by simp
        rw [IntKind.wrap_u64, e]
        exact Int.emod_eq_of_lt (by omega) (by omega)
      refine (bytes_any _ _ _ xs _ hl HN.out).mono ?_; rintro e w1 ⟨v1, rfl, ho1, hb1⟩
      obtain ⟨g, c1, e1, hg1, hg2, hg3⟩ := own_at ho1 (by rw [HL1.out]; omega)
      have HO1 := Lib.hid ho1
      rw [HL1.out] at e1 HO1
      subst e1
      clear ho1
      go_wp2_with fail
      go_loopw [10] (fun i wr => ∃ j : Nat, j ≤ 5 ∧ i = .int .i64 j ∧ Hid (wr.ownsRow w.heap.size 5 1 (.slice (some ⟨g, 0, none⟩) len c1) len (nums .u8 (turn X (k / 8) j xs))) ∧ Below w.heap.size w wr) (fun i _ => 5 - (intOf i).toNat)
      case atStart => exact ⟨0, by omega, rfl, HO1, hb1⟩
      case round =>
        obtain ⟨j, hj, rfl, HO, hbr⟩ := hrel
        by_cases hlt : j < 5
        · have hpl : k / 8 + j < (turn X (k / 8) j xs).length := by rw [turn_length, HL1.out]; omega
          obtain ⟨z, hzb, HZ⟩ : ∃ z : Nat, z < 256 ∧ Hid (z = (turn X (k / 8) j xs).getD (k / 8 + j) 0) := ⟨_, turn_lt X _ _ _ HX.out _ (getD_mem _ _ hpl), rfl⟩
          have hc : wr.cell? ⟨g, k / 8 + j, none⟩ = some (.int .u8 (z : Int)) := by
            rw [HZ.out, HO.out.cellAt _ (by omega)]
            exact nums_get _ _ _ hpl
          have hf : wr.frozen? ⟨g, k / 8 + j, none⟩ = false := HO.out.frozenAt _
          clear hpl
          obtain ⟨q, hq, HQ⟩ : ∃ q : Nat, bits .xor .u8 (z : Int) ((X : Int) / 2 ^ (8 * j) % 256) = (q : Int) ∧ Hid (q = z ^^^ (X / 256 ^ j % 256)) := by
            have e : (X : Int) / 2 ^ (8 * j) % 256 = ((X / 256 ^ j % 256 : Nat) : Int) := by
              rw [show 256 ^ j = 2 ^ (8 * j) from (Nat.pow_mul 2 8 j).symm]; simp
            exact ⟨_, by rw [e]; exact u8_xor_nat z _ hzb (Nat.mod_lt _ (by decide)), rfl⟩
          have hst := (HO.out.stored (k / 8 + j) (.int .u8 (q : Int))).1
          have ht : (turn X (k / 8) j xs).set (k / 8 + j) q = turn X (k / 8) (j + 1) xs := by rw [HQ.out, HZ.out]; rfl
          rw [nums_set, ht] at hst
          have HS := Lib.hid hst
          clear hst ht
          go_wp2
          go_roundw
          case rel => exact ⟨j + 1, by omega, by go_num, HS, hbr.setCell (by exact hg1) _⟩
          case measure => simp [intOf]; omega
        · obtain rfl : j = 5 := by omega
          obtain ⟨a2, c2, e2, hn2⟩ := Nums.of_own (xs := turn X (k / 8) 5 xs) (by rw [turn_length, HL1.out]; exact HO.out)
          rw [turn_length, HL1.out] at e2 hn2
          cases e2
          have HN2 := Lib.hid hn2
          clear hn2
          have hne : (((CrcM.more 0 (turn X (k / 8) 5 xs) : Nat) : Int) != ((CrcM.more 0 xs : Nat) : Int)) = true := by
            rw [bne_iff_ne, HXe.out]
            intro h
            exact turn_ne row (k % 8) (k / 8) xs (by rw [HL1.out]; omega) (by omega) hr0 hrow (by omega)
          have HXt : Hid (∀ x ∈ turn X (k / 8) 5 xs, x < 256) := turn_lt X _ _ _ HX.out
          go_wp2_with fail
          refine (of_any _ _ _ (turn X (k / 8) 5 xs) _ hl HXt.out HN2.out).mono ?_; rintro e w2 ⟨rfl, hb2⟩
          have k2 := hbr.trans (hb2.mono hbr.size)
          go_wp2_with fail
          refine (of_any _ _ _ xs _ hl HX.out (HN.out.kept k2)).mono ?_; rintro e w3 ⟨rfl, hb3⟩
          have k3 := k2.trans (hb3.mono k2.size)
          go_wp2_with fail
          refine (awake_any _).mono ?_; rintro e w4 ⟨rfl, hb4⟩
          go_wp2_with fail
          go_ret
          exact ⟨rfl, k3.trans (hb4.mono k3.size)⟩

theorem crcTurns_row (a0 : Option Addr) (len0 cap0 : Nat) (z0 : List Int) (a1 : Int) (a2 : Int) (w : World) (w0 : IsRow .u8 w a0 len0 cap0 z0) (s0 : len0 * 1 ≤ 140737488351232) (w1 : (Lit.int .i64 a1).wf = true) (w2 : (Lit.int .u32 a2).wf = true) :
    Calls Try.prog 3 #[.slice a0 len0 cap0, .int .i64 a1, .int .u32 a2] w fun e w' => e = .returned (.bool true) ∧ Below w.heap.size w w' := by
  obtain ⟨xs, hn, hx⟩ := nums_of_row 256 wf_u8 w0
  obtain ⟨h0, h1⟩ := wf_u32 a2 w2
  obtain ⟨r, rfl⟩ := Int.eq_ofNat_of_zero_le h0
  exact crcTurns_walk a0 len0 cap0 xs a1 r w (by omega) hx hn (wf_i64 a1 w1) (by omega)
end Go.Proofs.Ytdhofcomimcekaa
