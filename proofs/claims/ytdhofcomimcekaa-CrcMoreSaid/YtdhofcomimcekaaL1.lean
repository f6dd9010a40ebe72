import Derived.Test.YtdhofcomimcekaaW4
namespace Go.Proofs.Ytdhofcomimcekaa
open Go.RowKit Go.Cq
set_option linter.unusedVariables false

/-- 'CrcMore', walked. -/
theorem crcMore_walk (s : Nat) (a : Option Addr) (len cap : Nat) (xs : List Nat) (a2 : Option Addr) (len2 cap2 : Nat) (ys : List Nat) (w : World) (hs : s < 4294967296) (hl : len ≤ 140737488351232) (hx : ∀ x ∈ xs, x < 256) (hn : Nums w .u8 a len cap xs)
    (hl2 : len2 ≤ 140737488351232) (hy : ∀ x ∈ ys, x < 4294967296) (hm : Nums w .u32 a2 len2 cap2 ys) :
    Calls Try.prog 4 #[.int .u32 s, .slice a len cap, .slice a2 len2 cap2] w fun e w' => e = .returned (.bool true) ∧ Below w.heap.size w w' := by
  have HX := Lib.hid hx
  have HY := Lib.hid hy
  have HN := Lib.hid hn
  have HM := Lib.hid hm
  have L1 := HN.out.1
  have HL1 := Lib.hid L1
  clear hx hy hn hm L1
  by_cases h5 : 500 < len2
  · go_enter Try.func4, Try.ntmps4
    go_wp2_with (go_at_call 7; refine (awake_any _).mono ?_; rintro e w1 ⟨rfl, hb1⟩)
    go_ret
    exact ⟨rfl, hb1⟩
  · go_enter Try.func4, Try.ntmps4
    go_wp2_with fail
    refine (bytes_any _ _ _ xs _ hl HN.out).mono ?_; rintro e w1 ⟨v1, rfl, ho1, hb1⟩
    obtain ⟨a1, c1, rfl, hn1⟩ := Nums.of_own ho1
    have HN1 := Lib.hid hn1; clear hn1 ho1
    go_wp2_with fail
    refine (more_any s _ _ _ xs _ hs (by rw [HL1.out]; exact hl) HX.out HN1.out).mono ?_; rintro e w2 ⟨rfl, hb2⟩
    have hb02 := hb1.trans (hb2.mono hb1.size)
    go_wp2_with fail
    refine (rmore_any s _ _ _ xs _ hs hl HX.out (HN.out.kept hb02)).mono ?_; rintro e w' ⟨rfl, rfl⟩
    go_wp2_with fail
    refine (bytes_any _ _ _ xs _ hl (HN.out.kept hb02)).mono ?_; rintro e w3 ⟨v3, rfl, ho3, hb3⟩
    obtain ⟨a3, c3, rfl, hn3⟩ := Nums.of_own ho3
    have HN3 := Lib.hid hn3; clear hn3 ho3
    go_wp2_with fail
    refine (of_any _ _ _ xs _ (by rw [HL1.out]; exact hl) HX.out HN3.out).mono ?_; rintro e w4 ⟨rfl, hb4⟩
    have hb04 := hb02.trans ((hb3.trans (hb4.mono hb3.size)).mono hb02.size)
    go_wp2_with fail
    refine (rmore_int 0 _ _ _ xs _ (by decide) (by decide) hl HX.out (HN.out.kept hb04)).mono ?_; rintro e w' ⟨rfl, rfl⟩
    go_wp2_with fail
    refine (words0_any _ _ _ ys _ (by omega) (HM.out.kept hb04)).mono ?_; rintro e w5 ⟨v5, rfl, ho5, hb5⟩
    obtain ⟨a5, c5, rfl, hn5⟩ := Nums.of_own ho5
    have HN5 := Lib.hid hn5; clear hn5 ho5
    have HL2 := Lib.hid HM.out.1
    go_wp2_with fail
    refine (words_any _ _ _ ys _ (by rw [HL2.out]; exact hl2) HY.out HN5.out).mono ?_; rintro e w6 ⟨rfl, hb6⟩
    have hb06 := hb04.trans ((hb5.trans (hb6.mono hb5.size)).mono hb04.size)
    go_wp2_with fail
    refine (rwords_any _ _ _ ys _ hl2 HY.out (HM.out.kept hb06)).mono ?_; rintro e w7 ⟨rfl, hb7⟩
    have hb07 := hb06.trans (hb7.mono hb06.size)
    go_wp2_with fail
    refine (awake_any _).mono ?_; rintro e w8 ⟨rfl, hb8⟩
    go_wp2_with fail
    go_ret
    exact ⟨rfl, hb07.trans (hb8.mono hb07.size)⟩
theorem crcMore_row (a0 : Int) (a1 : Option Addr) (len1 cap1 : Nat) (z1 : List Int) (a2 : Option Addr) (len2 cap2 : Nat) (z2 : List Int) (w : World) (w0 : (Lit.int .u32 a0).wf = true) (w1 : IsRow .u8 w a1 len1 cap1 z1) (s1 : len1 * 1 ≤ 140737488351232) (w2 : IsRow .u32 w a2 len2 cap2 z2) (s2 : len2 * 4 ≤ 140737488351232) :
    Calls Try.prog 4 #[.int .u32 a0, .slice a1 len1 cap1, .slice a2 len2 cap2] w fun e w' => e = .returned (.bool true) ∧ Below w.heap.size w w' := by
  obtain ⟨h0, h1⟩ := wf_u32 a0 w0
  obtain ⟨s, rfl⟩ := Int.eq_ofNat_of_zero_le h0
  obtain ⟨xs, hn, hx⟩ := nums_of_row 256 wf_u8 w1
  obtain ⟨ys, hm, hy⟩ := nums_of_row 4294967296 wf_u32 w2
  exact crcMore_walk s a1 len1 cap1 xs a2 len2 cap2 ys w (by omega) (by omega) hx hn (by omega) hy hm
end Go.Proofs.Ytdhofcomimcekaa
