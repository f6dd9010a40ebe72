import Derived.Test.YtdhofcomimcekaaW4
import Derived.Deep.RegionWith
namespace Go.Proofs.Ytdhofcomimcekaa
open Go.RowKit Go.Cq
set_option linter.unusedVariables false

def putsN (ys : List Nat) : List Nat := ys.flatMap be4
theorem putsN_length (ys : List Nat) : (putsN ys).length = 4 * ys.length := by
  induction ys with
  | nil => rfl
  | cons y ys ih => rw [putsN, List.flatMap_cons, List.length_append]; have : (putsN ys).length = 4 * ys.length := ih; rw [putsN] at this; rw [this]; simp [be4]; omega
theorem putsN_lt (ys : List Nat) : ∀ x ∈ putsN ys, x < 256 := by
  intro x hx
  simp only [putsN, List.mem_flatMap] at hx
  obtain ⟨y, _, hy⟩ := hx
  exact be4_lt y x hy
theorem putsN_step (ys : List Nat) (k : Nat) (h : k < ys.length) : putsN (ys.take (k + 1)) = putsN (ys.take k) ++ be4 (ys.getD k 0) := by
  rw [List.take_add_one, List.getElem?_eq_getElem h, Option.toList_some, putsN, List.flatMap_append, List.getD, List.getElem?_eq_getElem h]
  simp [putsN]
theorem more_flat (ys : List Nat) (s : Nat) : ys.foldl (fun s v => CrcM.more s (be4 v)) s = CrcM.more s (putsN ys) := by
  induction ys generalizing s with
  | nil => exact (CrcM.more_nil s).symm
  | cons y ys ih => rw [List.foldl_cons, ih, CrcM.more_append]; rfl
theorem wordsN_puts (ys : List Nat) : wordsN ys = CrcM.more 0 (putsN ys) := by
  rw [wordsN, more_flat, CrcM.more_append]; rfl

theorem parts_end {w wr w1 w2 w3 w4 w5 w6 : World} (h : Below w.heap.size w wr) (h1 : Below wr.drew.heap.size wr.drew w1) (h2 : Below w1.heap.size w1 w2) (h3 : Below w2.heap.size w2 w3) (h4 : Below w3.heap.size w3 w4) (h5 : Below w4.heap.size w4 w5) (h6 : Below w5.heap.size w5 w6) : Below w.heap.size w w6 := by
  have a1 := h.drew.trans (h1.mono h.size)
  have a2 := a1.trans (h2.mono a1.size)
  have a3 := a2.trans (h3.mono a2.size)
  have a4 := a3.trans (h4.mono a3.size)
  have a5 := a4.trans (h5.mono a4.size)
  exact a5.trans (h6.mono a5.size)

set_option maxHeartbeats 1000000 in
/-- 'CrcParts', walked. -/
theorem crcParts_walk (a : Option Addr) (len cap : Nat) (xs : List Nat) (at_ : Int) (a2 : Option Addr) (len2 cap2 : Nat) (ys : List Nat) (w : World) (hl : len ≤ 140737488351232) (hx : ∀ x ∈ xs, x < 256) (hn : Nums w .u8 a len cap xs)
    (hat : -9223372036854775808 ≤ at_ ∧ at_ ≤ 9223372036854775807) (hl2 : len2 ≤ 140737488351232) (hy : ∀ x ∈ ys, x < 4294967296) (hm : Nums w .u32 a2 len2 cap2 ys) :
    Calls Try.prog 5 #[.slice a len cap, .int .i64 at_, .slice a2 len2 cap2] w fun e w' => e = .returned (.bool true) ∧ Below w.heap.size w w' := by
  have HX := Lib.hid hx
  have HY := Lib.hid hy
  have HN := Lib.hid hn
  have HM := Lib.hid hm
  have HL1 := Lib.hid HN.out.1
  have HL2 := Lib.hid HM.out.1
  have hcap := HN.out.2.1
  clear hx hy hn hm
  by_cases h5 : 200 < len2
  · go_enter Try.func5, Try.ntmps5
    go_wp2_with (go_at_call 7; refine (awake_any _).mono ?_; rintro e w1 ⟨rfl, hb1⟩)
    go_ret
    exact ⟨rfl, hb1⟩
  · obtain ⟨k, hk, hkl⟩ : ∃ k : Nat, at_ % ((len : Int) + 1) = (k : Int) ∧ k ≤ len := by
      have h2 := Int.emod_nonneg at_ (show (len : Int) + 1 ≠ 0 by omega)
      have h3 := Int.emod_lt_of_pos at_ (show 0 < (len : Int) + 1 by omega)
      exact ⟨(at_ % ((len : Int) + 1)).toNat, by omega, by omega⟩
    have HK := Lib.hid hk
    clear hk
    go_enter Try.func5, Try.ntmps5
    go_wp2_with fail
    refine (place_any at_ ((len : Int) + 1) _ hat (by omega)).mono ?_; rintro e w' ⟨rfl, rfl⟩
    rw [HK.out]
    go_wp2_with fail
    go_loopw [8, 9] (fun v i wr => ∃ j : Nat, j ≤ len2 ∧ i = .int .i64 j ∧ wr.ownsRow w.heap.size 5 1 v (putsN (ys.take j)).length (nums .u8 (putsN (ys.take j))) ∧ Below w.heap.size w wr) (fun _ i _ => len2 - (intOf i).toNat)
    case atStart => exact ⟨0, by omega, rfl, World.ownsRow_nil _ _ _ _, Below.refl _ _⟩
    case round =>
      obtain ⟨j, hj, rfl, hown, hbr⟩ := hrel
      by_cases hlt : j < len2
      · obtain ⟨b, off, rfl, hbl, hc⟩ := HM.out.2.2.2 j hlt
        have hlen : j < ys.length := by rw [HL2.out]; exact hlt
        obtain ⟨x, hxb, HXk⟩ : ∃ x : Nat, x < 4294967296 ∧ Hid (x = ys.getD j 0) := ⟨_, HY.out _ (getD_mem ys j hlen), rfl⟩
        have hc' : wr.cell? ⟨b, off + j, none⟩ = some (.int .u32 (x : Nat)) := by
          rw [HXk.out]
          exact (hbr.cell (p := ⟨b, off + j, none⟩) hbl).trans hc
        clear hc
        have hpl : (putsN (ys.take j)).length ≤ 800 := by rw [putsN_length, List.length_take]; omega
        have HO := Lib.hid hown
        clear hown
        go_wp2_with (first
          | (go_at_call 16; refine (put_any x _ hxb).mono ?_; rintro e w2 ⟨v2, rfl, ho2, hb2⟩; obtain ⟨a3, c2, rfl, hn2⟩ := Nums.of_own ho2; have ho3 := Lib.hid (own_kept HO.out hb2))
          | (at_builtin; refine wpList_append_nums _ rfl _ _ 22 rfl w.heap.size 5 .u8 1 Try.underlying22 Try.info5 _ (putsN (ys.take j)) rfl ho3.out _ _ _ (be4 x) rfl hn2 (by simp [maxLen, be4]; omega) (by simp [be4]; omega) (Nat.le_trans hbr.size hb2.size) ?_; intro v4 w4 ho4 hg4))
        have hb4 : Below w.heap.size w w4 := (hbr.trans (hb2.mono hbr.size)).grown hg4 (Nat.le_trans hbr.size hb2.size) (ownBlock_of_own ho3.out)
        go_roundw
        case rel => exact ⟨j + 1, by omega, by go_num, by rw [putsN_step ys j hlen, ← HXk.out]; exact ho4, hb4⟩
        case measure => simp [intOf]; omega
      · obtain rfl : j = ys.length := by rw [HL2.out]; omega
        rw [List.take_length] at hown
        obtain ⟨a8, c8, rfl, hn8⟩ := Nums.of_own hown
        have HO := Lib.hid hn8
        have hp8 : (putsN ys).length ≤ 140737488351232 := by rw [putsN_length]; omega
        clear hown hn8
        have HT := Lib.hid ((HN.out.kept hbr).take k hkl)
        have HXT : Hid (∀ x ∈ xs.take k, x < 256) := fun x hx => HX.out x (List.mem_of_mem_take hx)
        have HXD : Hid (∀ x ∈ xs.drop k, x < 256) := fun x hx => HX.out x (List.mem_of_mem_drop hx)
        have HB := Lib.hid hbr
        have E1 : Hid (CrcM.more (CrcM.more 0 (xs.take k)) (xs.drop k) = CrcM.more 0 xs) := by show _ = _; rw [CrcM.more_append, List.take_append_drop]
        have E2 := Lib.hid (CrcM.more_lt (xs.take k) 0 (by decide) HXT.out)
        have E3 := Lib.hid (wordsN_puts ys)
        clear hbr
        by_cases hck : cap = k
        · have HD := Lib.hid ((HN.out.kept HB.out).drop_all k hkl hck)
          obtain rfl : len = cap := by have h := HN.out.2.1; omega
          obtain rfl : len = k := hck
          rw [Nat.sub_self] at HD
          go_wp2
          go_region_with (first
            | (go_at_call 10; with_reducible refine (of_any _ _ _ (xs.take len) _ ?_ ?_ ?_).mono ?_; exact (by omega); exact HXT.out; with_reducible exact HT.out.drew; rintro e w1 ⟨rfl, hb1⟩)
            | (go_at_call 11; with_reducible refine (more_any (CrcM.more 0 (xs.take len)) _ _ _ (xs.drop len) _ ?_ ?_ ?_ ?_).mono ?_; exact E2.out; exact (by omega); exact HXD.out; with_reducible exact HD.out.drew.kept hb1; rintro e w2 ⟨rfl, hb2⟩; rw [E1.out])
            | (go_at_call 10; with_reducible refine (of_any _ _ _ xs _ ?_ ?_ ?_).mono ?_; exact (by omega); exact HX.out; with_reducible exact ((HN.out.kept HB.out).drew.kept hb1).kept hb2; rintro e w3 ⟨rfl, hb3⟩)
            | (go_at_call 13; with_reducible refine (words_any _ _ _ ys _ ?_ ?_ ?_).mono ?_; exact (by omega); exact HY.out; with_reducible exact (((HM.out.kept HB.out).drew.kept hb1).kept hb2).kept hb3; rintro e w4 ⟨rfl, hb4⟩; rw [E3.out])
            | (go_at_call 10; with_reducible refine (of_any _ _ _ (putsN ys) _ ?_ ?_ ?_).mono ?_; exact hp8; exact putsN_lt ys; with_reducible exact (((HO.out.drew.kept hb1).kept hb2).kept hb3).kept hb4; rintro e w5 ⟨rfl, hb5⟩)
            | (go_at_call 7; with_reducible refine (awake_any _).mono ?_; rintro e w6 ⟨rfl, hb6⟩))
          go_wp2
          go_ret
          exact ⟨rfl, parts_end HB.out hb1 hb2 hb3 hb4 hb5 hb6⟩
        · have HD := Lib.hid ((HN.out.kept HB.out).drop_add k hkl)
          go_wp2
          go_region_with (first
            | (go_at_call 10; with_reducible refine (of_any _ _ _ (xs.take k) _ ?_ ?_ ?_).mono ?_; exact (by omega); exact HXT.out; with_reducible exact HT.out.drew; rintro e w1 ⟨rfl, hb1⟩)
            | (go_at_call 11; with_reducible refine (more_any (CrcM.more 0 (xs.take k)) _ _ _ (xs.drop k) _ ?_ ?_ ?_ ?_).mono ?_; exact E2.out; exact (by omega); exact HXD.out; with_reducible exact HD.out.drew.kept hb1; rintro e w2 ⟨rfl, hb2⟩; rw [E1.out])
            | (go_at_call 10; with_reducible refine (of_any _ _ _ xs _ ?_ ?_ ?_).mono ?_; exact (by omega); exact HX.out; with_reducible exact ((HN.out.kept HB.out).drew.kept hb1).kept hb2; rintro e w3 ⟨rfl, hb3⟩)
            | (go_at_call 13; with_reducible refine (words_any _ _ _ ys _ ?_ ?_ ?_).mono ?_; exact (by omega); exact HY.out; with_reducible exact (((HM.out.kept HB.out).drew.kept hb1).kept hb2).kept hb3; rintro e w4 ⟨rfl, hb4⟩; rw [E3.out])
            | (go_at_call 10; with_reducible refine (of_any _ _ _ (putsN ys) _ ?_ ?_ ?_).mono ?_; exact hp8; exact putsN_lt ys; with_reducible exact (((HO.out.drew.kept hb1).kept hb2).kept hb3).kept hb4; rintro e w5 ⟨rfl, hb5⟩)
            | (go_at_call 7; with_reducible refine (awake_any _).mono ?_; rintro e w6 ⟨rfl, hb6⟩))
          go_wp2
          go_ret
          exact ⟨rfl, parts_end HB.out hb1 hb2 hb3 hb4 hb5 hb6⟩


theorem crcParts_row (a0 : Option Addr) (len0 cap0 : Nat) (z0 : List Int) (a1 : Int) (a2 : Option Addr) (len2 cap2 : Nat) (z2 : List Int) (w : World) (w0 : IsRow .u8 w a0 len0 cap0 z0) (s0 : len0 * 1 ≤ 140737488351232) (w1 : (Lit.int .i64 a1).wf = true) (w2 : IsRow .u32 w a2 len2 cap2 z2) (s2 : len2 * 4 ≤ 140737488351232) :
    Calls Try.prog 5 #[.slice a0 len0 cap0, .int .i64 a1, .slice a2 len2 cap2] w fun e w' => e = .returned (.bool true) ∧ Below w.heap.size w w' := by
  obtain ⟨xs, hn, hx⟩ := nums_of_row 256 wf_u8 w0
  obtain ⟨ys, hm, hy⟩ := nums_of_row 4294967296 wf_u32 w2
  exact crcParts_walk a0 len0 cap0 xs a1 a2 len2 cap2 ys w (by omega) hx hn (wf_i64 a1 w1) (by omega) hy hm
end Go.Proofs.Ytdhofcomimcekaa
