import Derived.Test.YtjoaenfibkgplaaG2
namespace Go.Proofs.Ytjoaenfibkgplaa
set_option linter.unusedSimpArgs false
open Go.RowKit Go.Cq
set_option linter.unusedVariables false

theorem w13_plain : plainW 13 = false := by decide +kernel
theorem w13_jumps : jumpsW 13 = false := by decide +kernel
theorem BlockW.len {ws : List Nat} (h : BlockW ws) : 1 ≤ ws.length ∧ ws.length ≤ 16 := by
  rcases h with ⟨_, h1, h2⟩ | ⟨a, x, y, rfl, _, h2, _⟩
  · omega
  · simp; omega
theorem BlockW.lt {ws : List Nat} (h : BlockW ws) : ∀ x ∈ ws, x < 4294967296 := by
  rcases h with ⟨h, _⟩ | ⟨a, x, y, rfl, h, _, hx, hy⟩
  · exact fun x hx => (h x hx).1
  · intro z hz
    simp only [List.mem_append, List.mem_cons, List.not_mem_nil, or_false] at hz
    rcases hz with hz | rfl | rfl
    · exact (h z hz).1
    · exact hx.1
    · exact hy.1
theorem cuts_cut {ws : List Nat} (h : BlockW ws) (k : Nat) (hk : k < ws.length) (rest : List Nat) : cutGo ((cat ws [13]).drop k ++ rest) [] false = ws.drop k := by
  rw [cat, List.drop_append_of_le_length (by omega), List.append_assoc]
  rcases h with ⟨h, h1, h2⟩ | ⟨a, x, y, rfl, h, h2, hx, hy⟩
  · rw [cutGo_plain (fun z hz => (h z (List.mem_of_mem_drop hz)).2) _ _ (by simp; omega), List.nil_append, List.cons_append, cutGo_stop w13_plain w13_jumps]
  · simp only [List.length_append, List.length_cons, List.length_nil] at hk
    by_cases hk2 : k ≤ a.length
    · rw [List.drop_append_of_le_length hk2, List.append_assoc, cutGo_plain (fun z hz => (h z (List.mem_of_mem_drop hz)).2) _ _ (by simp; omega), List.nil_append, List.cons_append, List.cons_append,
        cutGo_jump hx.2.1 hx.2.2 _ _ _ (by simp; omega), hy.2, if_pos rfl]
    · have hk3 : k = a.length + 1 := by omega
      have e : (a ++ [x, y]).drop k = [y] := by rw [hk3, List.drop_append]; simp
      rw [e, cutGo_plain (fun z hz => by rw [List.mem_singleton] at hz; rw [hz]; exact hy.2) _ _ (by simp), List.nil_append, List.cons_append, cutGo_stop w13_plain w13_jumps]
theorem BlockW.right {ws : List Nat} (h : BlockW ws) (k : Nat) (hk : k < ws.length) : rightN (ws.drop k) = true := by
  have := cutGo_right ((cat ws [13]).drop k ++ []) [] (by intro x hx; cases hx) (by decide)
  rw [cuts_cut h k hk] at this
  rcases this with h0 | h0
  · have := congrArg List.length h0
    rw [List.length_drop] at this
    simp at this; omega
  · exact h0
theorem cuts_lt {ws : List Nat} (h : BlockW ws) : ∀ x ∈ cat ws [13], x < 4294967296 := by
  intro x hx
  rcases List.mem_append.1 hx with hx | hx
  · exact h.lt x hx
  · rw [List.mem_singleton] at hx; rw [hx]; decide
theorem word_at {S : MS} {p : PartV} {ws : List Nat} (h : Holds S p) (hd : p.data = codeN ws) (h4 : p.at_ % 4 = 0) (hb : p.at_ + 4 * ws.length ≤ 4294967296) (hq : (p.perm % 8).toNat % 2 = 1)
    (hw : ∀ x ∈ ws, x < 4294967296) (i : Nat) (hi : i < ws.length) : wordN S (p.at_ + 4 * i) = ws.getD i 0 := by
  obtain ⟨h1, h2⟩ := fetch_at h hd h4 hb hq hw i hi
  unfold fetchW at h2
  rwa [if_pos h1] at h2
/-- '(*mem.Mem).Word', at a place of the code. -/
theorem word_code {w : World} {B mb mm wm : Nat} {S : MS} {z : Int} {u : Nat} (x : Nat) (hz : z = (x : Int)) (hM : MemAt w B mb mm wm S) (hx : x < 4294967296) (hu : Hid (wordN S x = u)) :
    Calls Try.prog 15 #[.pointer (some ⟨mb, 0, none⟩), .int .u32 z] w fun e w' => e = .returned (.int .u32 (u : Int)) ∧ ∃ n, w' = w.drewN n := by
  subst hz
  rw [← hu.out]
  exact word_any x w hx hM

/-- As 'mem_one', the place a number. -/
theorem mem_one_z {w : World} {b cap : Nat} {t : TypeId} {at_ : Nat} {z q : Int} {ws : List Nat} {a : Option Addr} {n c : Nat} (hz : z = (at_ : Int)) (hrow : w.heap[b]? = some (.cells #[.int .u32 z, .slice a n c, .int .i64 q, .bool false] t (0, 0)))
    (hn : n = (codeN ws).length) (hN : Nums w .u8 a n c (codeN ws)) (hw : ∀ x ∈ ws, x < 4294967296) (h1 : at_ + max 1 (4 * ws.length) ≤ 4294967296) (h2 : ws.length ≤ 2000) :
    Calls Try.prog 10 #[.slice (some ⟨b, 0, none⟩) 1 cap] w fun e w' => ∃ mb mm wm S, e = .returned (.pointer (some ⟨mb, 0, none⟩)) ∧ MemAt w' w.heap.size mb mm wm S ∧ Holds S ⟨at_, codeN ws, q, false, a, c⟩ ∧ Below w.heap.size w w' := by
  subst hz hn
  exact mem_one hrow hN hw h1 h2
theorem cut_code_z {w : World} {B mb mm wm : Nat} {S : MS} {p : PartV} {ws : List Nat} (z : Int) (x j : Nat) (hz : z = (x : Int)) (hM : MemAt w B mb mm wm S) (h : Holds S p) (hd : p.data = codeN ws) (h4 : p.at_ % 4 = 0) (hb : p.at_ + 4 * ws.length < 4294967296) (hq : (p.perm % 8).toNat % 2 = 1)
    (hw : ∀ x ∈ ws, x < 4294967296) (hj : j ≤ ws.length) (hx : x = p.at_ + 4 * j) :
    Calls Try.prog 13 #[.pointer (some ⟨mb, 0, none⟩), .int .u32 z] w fun e w' => ∃ a len cap rest, e = .returned (.slice a len cap) ∧ Nums w' .u32 a len cap (cutGo (ws.drop j ++ rest) [] false) ∧ (∀ y ∈ cutGo (ws.drop j ++ rest) [] false, y < 4294967296) ∧ ((p.at_ + 4 * ws.length) % 256 = 0 → 0 < ws.length → rest = []) ∧ Below w.heap.size w w' := by
  subst hz
  exact cut_code x j hM h hd h4 hb hq hw hj hx
set_option maxRecDepth 100000 in
set_option maxHeartbeats 4000000 in
theorem cuts_walk (a0 : Option Addr) (len0 cap0 : Nat) (zs : List Int) (v at_ : Int) (w : World) (hz : IntsAt w a0 len0 zs) (hlen : len0 ≤ 9223372036854775807) (hv : -9223372036854775808 ≤ v ∧ v ≤ 9223372036854775807) (ha : -9223372036854775808 ≤ at_ ∧ at_ ≤ 9223372036854775807) :
    Calls Try.prog 3 #[.slice a0 len0 cap0, .int .i64 v, .int .i64 at_] w fun e w' => e = .returned (.bool true) ∧ Below w.heap.size w w' := by
  have HZ := Lib.hid hz
  have HL := Lib.hid hlen
  have HV := Lib.hid hv
  have HA := Lib.hid ha
  clear hz hlen hv ha
  go_enter Try.func3, Try.ntmps3
  go_wp2_with fail
  refine (blocks9_any a0 len0 cap0 zs v w HZ.out HL.out HV.out).mono ?_
  rintro e w1 ⟨a1, l1, c1, ws, rfl, ho1, hW, hb1⟩
  have HW := Lib.hid hW
  obtain ⟨hw1, hw2⟩ := hW.len
  have hl1 : l1 = ws.length := by have := ho1.1; rw [nums_length] at this; omega
  subst hl1
  obtain ⟨a1', c1', e1, hn1⟩ := Nums.of_own ho1
  simp only [Value.slice.injEq, true_and] at e1
  obtain ⟨rfl, rfl⟩ := e1
  have HN1 := Lib.hid hn1
  have HB1 := Lib.hid hb1
  clear ho1 hn1 hb1 hW HZ HL HV
  obtain ⟨k, hk, hkl⟩ : ∃ k : Nat, at_ % (ws.length : Int) = (k : Int) ∧ k < ws.length := by
    have h1 := Int.emod_nonneg at_ (show (ws.length : Int) ≠ 0 by omega)
    have h2 := Int.emod_lt_of_pos at_ (show (0 : Int) < (ws.length : Int) by omega)
    exact ⟨(at_ % (ws.length : Int)).toNat, by omega, by omega⟩
  have HK := Lib.hid hk
  clear hk
  go_wp2_with fail
  refine (code_any _ HN1.out HW.out.lt (Nat.le_trans hw2 (by decide))).mono ?_
  rintro e w2 ⟨u2, rfl, ho2, hb2⟩
  have HO2 := Lib.hid ho2
  have HN2 := Lib.hid (HN1.out.kept hb2)
  have HB2 := Lib.hid (HB1.out.trans (hb2.mono HB1.out.size))
  have HS2 : Hid (w.heap.size ≤ w1.heap.size ∧ w1.heap.size ≤ w2.heap.size) := ⟨HB1.out.size, hb2.size⟩
  have HC2 := Lib.hid hb2
  clear ho2 hb2 HN2
  have hcl : (codeN ws).length ≤ 64 := by rw [codeN_length]; omega
  go_wp2_with (at_builtin; refine wpList_append_slice _ rfl _ _ 28 rfl w1.heap.size 5 .u8 1 Try.underlying28 info5u _ (codeN ws) rfl (own_kept HO2.out ((Below.refl _ _).alloc (Nat.le_refl _) _)) _ _ _ [0, 0, 0, 13] rfl (Nums.new _ .u8 _ _ [0, 0, 0, 13] rfl) (Nat.le_trans (by omega : _ ≤ 200) (by decide)) (by omega) (by have := HS2.out; simp; omega) ?_; intro a4 c4 w4 ho4 hn4 hg4)
  have HB4 : Hid (Below w.heap.size w w4) := Lib.hid ((HB2.out.alloc HB2.out.size _).grown hg4.out (by have := HB2.out.size; simp; omega) (fun g hg => Nat.le_trans HS2.out.1 (ownBlock_of_own HO2.out g hg)))
  have HN4 : Hid (Nums w4 .u32 a1 ws.length c1 ws) := Lib.hid (HN1.out.kept ((HC2.out.alloc HC2.out.size _).grown hg4.out (by have := HC2.out.size; simp; omega) (fun g hg => ownBlock_of_own HO2.out g hg)))
  have e4 : cat (codeN ws) [0, 0, 0, 13] = codeN (cat ws [13]) := by rw [cat, cat, codeN_append]; rfl
  have hn5 := hn4.out
  rw [e4] at hn5 ⊢
  have HCW := Lib.hid (cuts_lt HW.out)
  have hwl : (cat ws [13]).length = ws.length + 1 := by rw [cat_length]; rfl
  refine (mem_one_z (at_ := 65536) (q := 7) (ws := cat ws [13]) rfl (heap_alloc_last w4 _) rfl (hn5.alloc _) HCW.out (by omega) (by omega)).mono ?_
  rintro e w5 ⟨mb, mm, wm, S, rfl, hM, hH, hb5⟩
  have HB5 := Lib.hid ((HB4.out.alloc HB4.out.size _).trans (hb5.mono (by have := HB4.out.size; simp; omega)))
  have HN5 := Lib.hid ((HN4.out.alloc _).kept hb5)
  have HM := Lib.hid hM
  have HH := Lib.hid hH
  clear hb5 HB4 hn4 hn5 ho4 hg4 hM hH HB2 HO2 HC2 HS2 HN1 HB1 HN4 e4 hcl
  go_wp2_with fail
  refine (place_any at_ (ws.length : Int) _ HA.out (by omega)).mono ?_; rintro e w6 ⟨rfl, rfl⟩; rw [HK.out]
  go_wp2_with fail
  refine (cut_code_z _ (65536 + 4 * k) k (by omega) HM.out HH.out rfl (by show 65536 % 4 = 0; decide) (by show 65536 + 4 * _ < _; omega) (by show ((7 : Int) % 8).toNat % 2 = 1; decide) HCW.out (by omega) rfl).mono ?_
  rintro e w6 ⟨a6, l6, c6, rest, rfl, hn6, hx6, -, hb6⟩
  rw [cuts_cut HW.out k hkl] at hn6 hx6
  obtain rfl : ws.length - k = l6 := by have := hn6.1; rw [List.length_drop] at this; exact this
  have HX6 := Lib.hid hx6
  have HN6 := Lib.hid hn6
  have HM6 := Lib.hid (HM.out.kept hb6)
  have HW6 := Lib.hid (HN5.out.kept hb6)
  have HB6 := Lib.hid (HB5.out.trans (hb6.mono HB5.out.size))
  clear hn6 hx6 hb6 HM HN5 HB5
  obtain ⟨m, hm⟩ : ∃ m, ws.length - k = m := ⟨_, rfl⟩
  have HMM := Lib.hid hm
  have hm1 : 1 ≤ m := by omega
  have hm2 : m ≤ 16 := by omega
  have hkm : k + m = ws.length := by omega
  rw [hm] at HN6 ⊢
  clear hm
  have g1 : ¬ (16 : Int) < (m : Int) := by omega
  have g2 : (0 : Int) < (m : Int) := by omega
  go_wp2_with fail
  have HRT : Hid (rightN (ws.drop k) = true) := Lib.hid (HW.out.right k hkl)
  have HM16 : Hid (m ≤ 4294967296) := Lib.hid (Nat.le_trans hm2 (by decide))
  refine (right_any w6 HN6.out HX6.out HM16.out).mono ?_; rintro e w7 ⟨rfl, hb7⟩; rw [HRT.out]
  have HM7 := Lib.hid (HM6.out.kept hb7)
  have HN7 := Lib.hid (HN6.out.kept hb7)
  have HW7 := Lib.hid (HW6.out.kept hb7)
  have HB7 := Lib.hid (HB6.out.trans (hb7.mono HB6.out.size))
  clear hb7 HM6 HN6 HW6 HB6
  go_wp2_with fail
  go_loopw [11] (fun i wr => ∃ n : Nat, n ≤ m ∧ i = .int .i64 n ∧ Hid (Below w7.heap.size w7 wr)) (fun i _ => m - (intOf i).toNat)
  case atStart => exact ⟨0, by omega, rfl, Lib.hid (Below.refl _ _)⟩
  case round =>
    obtain ⟨n, hn, rfl, HB⟩ := hrel
    by_cases hlt : n < m
    · have i1 : (n : Int) < (m : Int) := by omega
      obtain ⟨b8, o8, e8, hbl, hc0⟩ := HN7.out.2.2.2 n hlt
      subst e8
      have hc := (HB.out.cell (p := ⟨b8, o8 + n, none⟩) hbl).trans hc0
      clear hc0 hbl
      have HU : Hid (wordN S (65536 + 4 * (k + n)) = (ws.drop k).getD n 0) := by
        refine Lib.hid ?_
        have := word_at HH.out rfl (by show 65536 % 4 = 0; decide) (by show 65536 + 4 * _ ≤ _; omega) (by show ((7 : Int) % 8).toNat % 2 = 1; decide) HCW.out (k + n) (by omega)
        refine (show wordN S (65536 + 4 * (k + n)) = _ from this).trans ?_
        rw [drop_getD, cat, List.getD_eq_getElem?_getD, List.getElem?_append_left (by omega), ← List.getD_eq_getElem?_getD]
      generalize (ws.drop k).getD n 0 = u at hc HU
      have HMR := Lib.hid (HM7.out.kept HB.out)
      go_wp2_with fail
      have s1 : IntKind.i64.wrap ((k : Int) + (n : Int)) = (k : Int) + (n : Int) := IntWalk.i64_in _ ⟨by omega, by omega⟩
      have s2 : IntKind.i64.wrap (4 * ((k : Int) + (n : Int))) = 4 * ((k : Int) + (n : Int)) := IntWalk.i64_in _ ⟨by omega, by omega⟩
      have s3 : IntKind.u32.wrap (4 * ((k : Int) + (n : Int))) = 4 * ((k : Int) + (n : Int)) := by rw [IntKind.wrap_u32]; omega
      have s4 : IntKind.u32.wrap (65536 + 4 * ((k : Int) + (n : Int))) = 65536 + 4 * ((k : Int) + (n : Int)) := by rw [IntKind.wrap_u32]; omega
      go_quiet ((go_at_call 15; exact Calls.quiet_of (word_code (65536 + 4 * (k + n)) (by omega) (HMR.out.drewN _) (by omega) HU)))
      go_wp2
      go_roundw
      case rel => exact ⟨n + 1, by omega, by go_num, Lib.hid (below_drewN HB.out _)⟩
      case measure => simp [intOf]; omega
    · obtain rfl : n = m := by omega
      have HM8 := Lib.hid (HM7.out.kept HB.out)
      have HN8 := Lib.hid (HN7.out.kept HB.out)
      have HW8 := Lib.hid (HW7.out.kept HB.out)
      have HB8 := Lib.hid (HB7.out.trans (HB.out.mono HB7.out.size))
      clear HB HM7 HN7 HW7 HB7
      go_wp2_with fail
      refine (cut_code 65536 0 HM8.out HH.out rfl (by show 65536 % 4 = 0; decide) (by show 65536 + 4 * _ < _; omega) (by show ((7 : Int) % 8).toNat % 2 = 1; decide) HCW.out (by omega) rfl).mono ?_
      rintro e w9 ⟨a9, l9, c9, rest2, rfl, hn9, -, -, hb9⟩
      rw [cuts_cut HW.out 0 (by omega), List.drop_zero] at hn9
      obtain rfl : ws.length = l9 := hn9.1
      have HN9 := Lib.hid hn9
      have HX9 := Lib.hid (HN8.out.kept hb9)
      have HW9 := Lib.hid (HW8.out.kept hb9)
      have HB9 := Lib.hid (HB8.out.trans (hb9.mono HB8.out.size))
      clear hb9 hn9 HM8 HN8 HW8 HB8 HH HCW
      have HL16 : Hid (ws.length ≤ 4294967296) := Lib.hid (Nat.le_trans hw2 (by decide))
      go_wp2_with fail
      refine (same_any w9 HN9.out HW9.out HL16.out).mono ?_; rintro e w10 ⟨rfl, q10, rfl⟩
      rw [decide_eq_true (rfl : ws = ws)]
      have HRR : Hid (rightN ws = true) := by have := HW.out.right 0 (by omega); rw [List.drop_zero] at this; exact Lib.hid this
      go_wp2_with fail
      refine (right_any (w9.drewN q10) (HW9.out.kept (below_drewN (Below.refl _ _) _)) HW.out.lt HL16.out).mono ?_; rintro e w11 ⟨rfl, hb11⟩; rw [HRR.out]
      have HX11 := Lib.hid ((HX9.out.kept (below_drewN (Below.refl _ _) q10)).kept hb11)
      have HW11 := Lib.hid ((HW9.out.kept (below_drewN (Below.refl _ _) q10)).kept hb11)
      have HB11 := Lib.hid ((below_drewN HB9.out q10).trans (hb11.mono (below_drewN HB9.out q10).size))
      clear hb11 HN9 HX9 HW9 HB9
      obtain ⟨b1, o1, e1, -, -⟩ := HW11.out.2.2.2 0 (by omega)
      subst e1
      have hcap := HW11.out.2.1
      have d1 : wrap64 ((ws.length : Int) - 1) = (ws.length : Int) - 1 := by rw [IntWalk.wrap64_in _ ⟨by omega, by omega⟩]
      by_cases h0 : k = 0
      · have f0 : ¬ (0 : Int) < (k : Int) := by omega
        have f3 : (k : Int) ≤ (ws.length : Int) := by omega
        have f4 : (ws.length : Int) ≤ (c1 : Int) := by omega
        go_wp2_with fail
        refine (same_any w11 HX11.out HW11.out HM16.out).mono ?_; rintro e w12 ⟨rfl, q12, rfl⟩
        rw [decide_eq_true (by rw [h0]; rfl : ws.drop k = ws)]
        go_wp2_with fail
        refine (awake_any _).mono ?_; rintro e w13 ⟨rfl, hb13⟩
        go_wp2_with fail
        go_ret
        exact ⟨rfl, (below_drewN HB11.out q12).trans (hb13.mono (below_drewN HB11.out q12).size)⟩
      · have f0 : (0 : Int) < (k : Int) := by omega
        have f1 : (1 : Int) < (ws.length : Int) := by omega
        by_cases h1 : k = ws.length - 1
        · have f2 : (k : Int) = (ws.length : Int) - 1 := by omega
          go_wp2_with fail
          refine (awake_any w11).mono ?_; rintro e w12 ⟨rfl, hb12⟩
          go_wp2_with fail
          go_ret
          exact ⟨rfl, HB11.out.trans (hb12.mono HB11.out.size)⟩
        · have f2 : ¬ (k : Int) = (ws.length : Int) - 1 := by omega
          have f3 : (k : Int) ≤ (ws.length : Int) := by omega
          have f4 : (ws.length : Int) ≤ (c1 : Int) := by omega
          have HD := Lib.hid (HW11.out.drop k (by omega) (some ⟨b1, o1 + k, none⟩) (fun b off e _ => by cases e; rfl) (fun e => by cases e))
          go_wp2_with fail
          refine (same_any w11 HX11.out HD.out HM16.out).mono ?_; rintro e w12 ⟨rfl, q12, rfl⟩
          rw [decide_eq_true (rfl : ws.drop k = ws.drop k)]
          go_wp2_with fail
          refine (awake_any _).mono ?_; rintro e w13 ⟨rfl, hb13⟩
          go_wp2_with fail
          go_ret
          exact ⟨rfl, (below_drewN HB11.out q12).trans (hb13.mono (below_drewN HB11.out q12).size)⟩
theorem blockCuts_row (a0 : Option Addr) (len0 cap0 : Nat) (z0 : List Int) (a1 a2 : Int) (w : World) (w0 : IsRow .i64 w a0 len0 cap0 z0) (s0 : len0 * 8 ≤ 140737488351232) (w1 : (Lit.int .i64 a1).wf = true) (w2 : (Lit.int .i64 a2).wf = true) :
    Calls Try.prog 3 #[.slice a0 len0 cap0, .int .i64 a1, .int .i64 a2] w fun e w' => e = .returned (.bool true) ∧ Below w.heap.size w w' :=
  cuts_walk a0 len0 cap0 z0 a1 a2 w (ints_of_row w0) (by omega) (wf_i64 _ w1) (wf_i64 _ w2)
end Go.Proofs.Ytjoaenfibkgplaa
