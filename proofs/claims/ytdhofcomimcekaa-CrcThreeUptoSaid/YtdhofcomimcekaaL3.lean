import Derived.Test.YtdhofcomimcekaaW4
namespace Go.Proofs.Ytdhofcomimcekaa
open Go.RowKit Go.Cq
set_option linter.unusedVariables false

/-- 'CrcThree', walked: where the three together have room in one slice. -/
theorem crcThree_walk (a : Option Addr) (la ca : Nat) (xs : List Nat) (b : Option Addr) (lb cb : Nat) (ys : List Nat) (c : Option Addr) (lc cc : Nat) (zs : List Nat) (w : World) (hl : la + lb + lc ≤ 140737488351232)
    (hx : ∀ x ∈ xs, x < 256) (hn : Nums w .u8 a la ca xs) (hy : ∀ x ∈ ys, x < 256) (hm : Nums w .u8 b lb cb ys) (hz : ∀ x ∈ zs, x < 256) (ho : Nums w .u8 c lc cc zs) :
    Calls Try.prog 6 #[.slice a la ca, .slice b lb cb, .slice c lc cc] w fun e w' => e = .returned (.bool true) ∧ Below w.heap.size w w' := by
  have HX := Lib.hid hx
  have HY := Lib.hid hy
  have HZ := Lib.hid hz
  have HN := Lib.hid hn
  have HM := Lib.hid hm
  have HO := Lib.hid ho
  have L1 := Lib.hid HN.out.1
  have L2 := Lib.hid HM.out.1
  have L3 := Lib.hid HO.out.1
  clear hx hy hz hn hm ho
  have HYZ : Hid (∀ x ∈ cat ys zs, x < 256) := fun x hx => by
    rcases List.mem_append.1 hx with h | h
    · exact HY.out x h
    · exact HZ.out x h
  have HXYZ : Hid (∀ x ∈ cat (cat xs ys) zs, x < 256) := fun x hx => by
    rcases List.mem_append.1 hx with h | h
    · rcases List.mem_append.1 h with h | h
      · exact HX.out x h
      · exact HY.out x h
    · exact HZ.out x h
  have B1 := Lib.hid (CrcM.more_lt xs 0 (by decide) HX.out)
  have B2 := Lib.hid (CrcM.more_lt ys _ B1.out HY.out)
  have E1 : Hid (CrcM.more (CrcM.more (CrcM.more 0 xs) ys) zs = CrcM.more 0 (cat (cat xs ys) zs)) := by show _ = _; rw [CrcM.more_append, CrcM.more_append, cat, cat, List.append_assoc]
  have E2 : Hid (CrcM.more (CrcM.more 0 xs) (cat ys zs) = CrcM.more 0 (cat (cat xs ys) zs)) := by show _ = _; rw [CrcM.more_append, cat, cat, cat, List.append_assoc]
  have B3 := Lib.hid (CrcM.more_lt (cat (cat xs ys) zs) 0 (by decide) HXYZ.out)
  go_enter Try.func6, Try.ntmps6
  go_wp2_with fail
  refine (of_any _ _ _ xs _ (by omega) HX.out HN.out).mono ?_; rintro e w1 ⟨rfl, hb1⟩
  go_wp2_with fail
  refine (more_any _ _ _ _ ys _ B1.out (by omega) HY.out (HM.out.kept hb1)).mono ?_; rintro e w2 ⟨rfl, hb2⟩
  have k2 := hb1.trans (hb2.mono hb1.size)
  go_wp2_with fail
  refine (more_any _ _ _ _ zs _ B2.out (by omega) HZ.out (HO.out.kept k2)).mono ?_; rintro e w3 ⟨rfl, hb3⟩
  have k3 := k2.trans (hb3.mono k2.size)
  rw [E1.out]
  go_wp2_with fail
  refine (of_any _ _ _ xs _ (by omega) HX.out (HN.out.kept k3)).mono ?_; rintro e w4 ⟨rfl, hb4⟩
  have k4 := k3.trans (hb4.mono k3.size)
  go_wp2_with (first
    | (go_at_call 9; refine (bytes_any _ _ _ ys _ (by omega) (HM.out.kept k4)).mono ?_; rintro e w5 ⟨v5, rfl, ho5, hb5⟩; have k5 := k4.trans (hb5.mono k4.size); have HO5 := Lib.hid ho5; clear ho5)
    | (at_builtin; refine wpList_append_nums _ rfl _ _ 22 rfl w4.heap.size 5 .u8 1 Try.underlying22 Try.info5 _ ys rfl HO5.out _ _ _ zs rfl (HO.out.kept k5) (by rw [L2.out]; simp [maxLen]; omega) (by rw [L2.out]; omega) hb5.size ?_; intro v6 w6 ho6 hg6; have HO6 := Lib.hid ho6; have k6 := k5.grown hg6 k5.size (fun k hk => Nat.le_trans k4.size (ownBlock_of_own HO5.out k hk)); clear ho6 hg6))
  obtain ⟨a6, c6, e6, hn6⟩ := Nums.of_own HO6.out
  subst e6
  have HN6 := Lib.hid hn6
  clear hn6
  refine (more_any _ _ _ _ (cat ys zs) _ B1.out (by rw [cat_length, L2.out, L3.out]; omega) HYZ.out HN6.out).mono ?_; rintro e w7 ⟨rfl, hb7⟩
  have k7 := k6.trans (hb7.mono k6.size)
  rw [E2.out]
  go_wp2_with (first
    | (go_at_call 9; refine (bytes_any _ _ _ xs _ (by omega) (HN.out.kept k7)).mono ?_; rintro e w8 ⟨v8, rfl, ho8, hb8⟩; have k8 := k7.trans (hb8.mono k7.size); have HO8 := Lib.hid ho8; clear ho8)
    | (at_builtin; refine wpList_append_nums _ rfl (.tmp 24) (.tmp 25) 22 rfl w7.heap.size 5 .u8 1 Try.underlying22 Try.info5 _ xs rfl HO8.out _ _ _ ys rfl (HM.out.kept k8) (by rw [L1.out]; simp [maxLen]; omega) (by rw [L1.out]; omega) hb8.size ?_; intro v9 w9 ho9 hg9; have HO9 := Lib.hid ho9; have k9 := k8.grown hg9 k8.size (fun k hk => Nat.le_trans k7.size (ownBlock_of_own HO8.out k hk)); have s9 := Nat.le_trans hb8.size hg9.size; clear ho9)
    | (at_builtin; refine wpList_append_nums _ rfl (.tmp 26) (.tmp 27) 22 rfl w7.heap.size 5 .u8 1 Try.underlying22 Try.info5 _ (cat xs ys) rfl HO9.out _ _ _ zs rfl (HO.out.kept k9) (by rw [cat_length, L1.out, L2.out]; simp [maxLen]; omega) (by rw [cat_length, L1.out, L2.out]; omega) s9 ?_; intro v10 w10 ho10 hg10; have HO10 := Lib.hid ho10; have k10 := k9.grown hg10 k9.size (fun k hk => Nat.le_trans k7.size (ownBlock_of_own HO9.out k hk)); clear ho10 hg10))
  obtain ⟨a10, c10, e10, hn10⟩ := Nums.of_own HO10.out
  subst e10
  have HN10 := Lib.hid hn10
  clear hn10
  refine (of_any _ _ _ (cat (cat xs ys) zs) _ (by rw [cat_length, cat_length, L1.out, L2.out, L3.out]; omega) HXYZ.out HN10.out).mono ?_; rintro e w11 ⟨rfl, hb11⟩
  have k11 := k10.trans (hb11.mono k10.size)
  go_wp2_with fail
  refine (more_any _ _ _ _ [] _ B3.out (by omega) (by simp) (Nums.nil _ _)).mono ?_; rintro e w12 ⟨rfl, hb12⟩
  rw [CrcM.more_nil]
  have k12 := k11.trans (hb12.mono k11.size)
  go_wp2_with fail
  refine (words_any _ _ _ [] _ (by omega) (by simp) (Nums.nil _ _)).mono ?_; rintro e w13 ⟨rfl, hb13⟩
  have k13 := k12.trans (hb13.mono k12.size)
  go_wp2_with fail
  refine (of_any _ _ _ [] _ (by omega) (by simp) (Nums.nil _ _)).mono ?_; rintro e w14 ⟨rfl, hb14⟩
  have k14 := k13.trans (hb14.mono k13.size)
  rw [show wordsN [] = CrcM.more 0 [] from rfl]
  go_wp2_with fail
  refine (awake_any _).mono ?_; rintro e w15 ⟨rfl, hb15⟩
  go_wp2_with fail
  go_ret
  exact ⟨rfl, k14.trans (hb15.mono k14.size)⟩

theorem crcThree_row (a0 : Option Addr) (len0 cap0 : Nat) (z0 : List Int) (a1 : Option Addr) (len1 cap1 : Nat) (z1 : List Int) (a2 : Option Addr) (len2 cap2 : Nat) (z2 : List Int) (w : World) (w0 : IsRow .u8 w a0 len0 cap0 z0) (s0 : len0 * 1 ≤ 1048576) (w1 : IsRow .u8 w a1 len1 cap1 z1) (s1 : len1 * 1 ≤ 1048576) (w2 : IsRow .u8 w a2 len2 cap2 z2) (s2 : len2 * 1 ≤ 1048576) :
    Calls Try.prog 6 #[.slice a0 len0 cap0, .slice a1 len1 cap1, .slice a2 len2 cap2] w fun e w' => e = .returned (.bool true) ∧ Below w.heap.size w w' := by
  obtain ⟨xs, hn, hx⟩ := nums_of_row 256 wf_u8 w0
  obtain ⟨ys, hm, hy⟩ := nums_of_row 256 wf_u8 w1
  obtain ⟨zs, ho, hz⟩ := nums_of_row 256 wf_u8 w2
  exact crcThree_walk a0 len0 cap0 xs a1 len1 cap1 ys a2 len2 cap2 zs w (by omega) hx hn hy hm hz ho
end Go.Proofs.Ytdhofcomimcekaa
