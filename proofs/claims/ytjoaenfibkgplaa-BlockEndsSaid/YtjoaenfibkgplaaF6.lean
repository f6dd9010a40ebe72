import Derived.Test.YtjoaenfibkgplaaF5
namespace Go.Proofs.Ytjoaenfibkgplaa
set_option linter.unusedSimpArgs false
open Go.RowKit Go.Cq
set_option linter.unusedVariables false
/-- As 'mem_one', the place a number. -/
theorem mem_one_at {w : World} {b cap : Nat} {t : TypeId} {at_ : Nat} {z q : Int} {ws : List Nat} {a : Option Addr} {n c : Nat} (hz : z = (at_ : Int)) (hrow : w.heap[b]? = some (.cells #[.int .u32 z, .slice a n c, .int .i64 q, .bool false] t (0, 0)))
    (hn : n = (codeN ws).length) (hN : Nums w .u8 a n c (codeN ws)) (hw : ∀ x ∈ ws, x < 4294967296) (h1 : at_ + max 1 (4 * ws.length) ≤ 4294967296) (h2 : ws.length ≤ 2000) :
    Calls Try.prog 10 #[.slice (some ⟨b, 0, none⟩) 1 cap] w fun e w' => ∃ mb mm wm S, e = .returned (.pointer (some ⟨mb, 0, none⟩)) ∧ MemAt w' w.heap.size mb mm wm S ∧ Holds S ⟨at_, codeN ws, q, false, a, c⟩ ∧ Below w.heap.size w w' := by
  subst hz hn
  exact mem_one hrow hN hw h1 h2
theorem cut_code_at {w : World} {B mb mm wm : Nat} {S : MS} {p : PartV} {ws : List Nat} (z : Int) (x j : Nat) (hz : z = (x : Int)) (hM : MemAt w B mb mm wm S) (h : Holds S p) (hd : p.data = codeN ws) (h4 : p.at_ % 4 = 0) (hb : p.at_ + 4 * ws.length < 4294967296) (hq : (p.perm % 8).toNat % 2 = 1)
    (hw : ∀ x ∈ ws, x < 4294967296) (hj : j ≤ ws.length) (hx : x = p.at_ + 4 * j) :
    Calls Try.prog 13 #[.pointer (some ⟨mb, 0, none⟩), .int .u32 z] w fun e w' => ∃ a len cap rest, e = .returned (.slice a len cap) ∧ Nums w' .u32 a len cap (cutGo (ws.drop j ++ rest) [] false) ∧ (∀ y ∈ cutGo (ws.drop j ++ rest) [] false, y < 4294967296) ∧ ((p.at_ + 4 * ws.length) % 256 = 0 → 0 < ws.length → rest = []) ∧ Below w.heap.size w w' := by
  subst hz
  exact cut_code x j hM h hd h4 hb hq hw hj hx
/-- Cut where nothing is fetched. -/
theorem cut_none {w : World} {B mb mm wm : Nat} {S : MS} (x : Nat) (hx : x < 4294967296) (hx4 : x % 4 ≠ 0) (hM : MemAt w B mb mm wm S) :
    Calls Try.prog 13 #[.pointer (some ⟨mb, 0, none⟩), .int .u32 (x : Int)] w fun e w' => ∃ a cap, e = .returned (.slice a 0 cap) ∧ Below w.heap.size w w' := by
  refine (cut_any x w hx hM [] (.stop x hx (by unfold fetchK; rw [if_neg hx4]; decide))).mono ?_
  rintro e w' ⟨a, len, cap, rfl, hn, hb⟩
  obtain rfl : 0 = len := hn.1
  exact ⟨a, cap, rfl, hb⟩
theorem field68 (w : World) : (Instr.field 43 (.agg (insVals (refDec wJ64))) 0).run Try.prog w = .ok (.int .i64 68) w := by
  unfold insVals
  rw [field43, wJ64_dec]; rfl
theorem idx41_0 (v0 v1 v2 v3 v4 : Value) (w : World) : (Instr.index 41 (.agg #[v0, v1, v2, v3, v4]) (.int .i64 0)).run Try.prog w = .ok v0 w := by kernel_rfl
theorem idx41_1 (v0 v1 v2 v3 v4 : Value) (w : World) : (Instr.index 41 (.agg #[v0, v1, v2, v3, v4]) (.int .i64 1)).run Try.prog w = .ok v1 w := by kernel_rfl
theorem idx41_2 (v0 v1 v2 v3 v4 : Value) (w : World) : (Instr.index 41 (.agg #[v0, v1, v2, v3, v4]) (.int .i64 2)).run Try.prog w = .ok v2 w := by kernel_rfl
theorem idx41_3 (v0 v1 v2 v3 v4 : Value) (w : World) : (Instr.index 41 (.agg #[v0, v1, v2, v3, v4]) (.int .i64 3)).run Try.prog w = .ok v3 w := by kernel_rfl
theorem idx41_4 (v0 v1 v2 v3 v4 : Value) (w : World) : (Instr.index 41 (.agg #[v0, v1, v2, v3, v4]) (.int .i64 4)).run Try.prog w = .ok v4 w := by kernel_rfl

set_option maxRecDepth 4000 in
set_option maxHeartbeats 4000000 in
theorem ends_walk (a0 a1 : Int) (w : World) (h0 : -9223372036854775808 ≤ a0 ∧ a0 ≤ 9223372036854775807) (h1 : -9223372036854775808 ≤ a1 ∧ a1 ≤ 9223372036854775807) :
    Calls Try.prog 4 #[.int .i64 a0, .int .i64 a1] w fun e w' => e = .returned (.bool true) ∧ Below w.heap.size w w' := by
  obtain ⟨k, hk, hkl⟩ : ∃ k : Nat, a0 % 16 = (k : Int) ∧ k < 16 := ⟨(a0 % 16).toNat, by omega, by omega⟩
  obtain ⟨j, hj, hjl⟩ : ∃ j : Nat, a1 % 5 = (j : Int) ∧ j < 5 := ⟨(a1 % 5).toNat, by omega, by omega⟩
  have HK := Lib.hid hk
  have HJ := Lib.hid hj
  clear hk hj
  go_enter Try.func4, Try.ntmps4
  go_wp2_with fail
  refine (place_any a0 16 w h0 (by decide)).mono ?_; rintro e w1 ⟨rfl, rfl⟩; rw [HK.out]
  go_wp2_with fail
  go_loopw [6, 7] (fun v i wr => ∃ n : Nat, n ≤ k ∧ i = .int .i64 n ∧ Hid (wr.ownsRow w.heap.size 27 1 v (endsW n).length (nums .u32 (endsW n))) ∧ Hid (Below w.heap.size w wr)) (fun _ i _ => k - (intOf i).toNat)
  case atStart => exact ⟨0, by omega, rfl, World.ownsRow_nil _ _ _ _, Below.refl _ _⟩
  case round =>
    obtain ⟨n, hn, rfl, HO, HB⟩ := hrel
    by_cases hlt : n < k
    · have hln : (endsW n).length ≤ 30 := by rw [endsW_length]; omega
      have HE : Hid (endsW (n + 1) = cat (endsW n) [wAd n]) := Lib.hid (endsW_succ n)
      go_wp2_with (first
        | (go_at_call 18; with_reducible refine (word_Ad n (by omega) _).mono ?_; rintro e w2 ⟨rfl, hb2⟩)
        | (at_builtin; refine wpList_append_nums _ rfl _ _ 23 rfl w.heap.size 27 .u32 4 Try.underlying23 info27u _ (endsW n) rfl (own_kept (own_kept HO.out hb2) ((Below.refl _ _).alloc (Nat.le_refl _) _)) _ _ _ [wAd n] rfl (Nums.new _ .u32 _ _ [wAd n] rfl) (Nat.le_trans (by omega : _ ≤ 100) (by decide)) (by omega) (by have := HB.out.size; have := hb2.size; simp; omega) ?_; intro v4 w4 ho4 hg4))
      have hb4 : Below w.heap.size w w4 := ((HB.out.trans (hb2.mono HB.out.size)).alloc (Nat.le_trans HB.out.size hb2.size) _).grown hg4 (by have := HB.out.size; have := hb2.size; simp; omega) (ownBlock_of_own HO.out)
      go_roundw
      case rel => exact ⟨n + 1, by omega, by go_num, by refine Lib.hid ?_; rw [HE.out]; exact ho4, Lib.hid hb4⟩
      case measure => simp [intOf]; omega
    · obtain rfl : n = k := by omega
      obtain ⟨a, c, rfl, hN⟩ := Nums.of_own HO.out
      clear hN
      go_wp2_with fail
      refine (word_J64 _).mono ?_; rintro e w2 ⟨rfl, hb2⟩
      have HO2 := Lib.hid (own_kept HO.out hb2)
      have HB2 := Lib.hid (HB.out.trans (hb2.mono HB.out.size))
      clear hb2 HO HB
      go_wp2_with fail
      refine (word_35 _).mono ?_; rintro e w3 ⟨rfl, hb3⟩
      have HO3 := Lib.hid (own_kept HO2.out hb3)
      have HB3 := Lib.hid (HB2.out.trans (hb3.mono HB2.out.size))
      clear hb3 HO2 HB2
      go_wp2_with fail
      have N1 := Lib.hid (Nums.new w3 .u32 #[.int .u32 (w35 : Int)] 27 [w35] rfl)
      refine (word_36 _).mono ?_; rintro e w4 ⟨rfl, hb4⟩
      have HO4 := Lib.hid (own_kept (own_kept HO3.out ((Below.refl _ _).alloc (Nat.le_refl _) _)) hb4)
      have HB4 := Lib.hid ((HB3.out.alloc HB3.out.size _).trans (hb4.mono (by have := HB3.out.size; simp; omega)))
      have N2 := Lib.hid (N1.out.kept hb4)
      clear hb4 HO3 HB3 N1
      go_wp2_with fail
      have M1 := Lib.hid (((N2.out.alloc (.cells #[.int .u32 (w36 : Int)] 27)).alloc (.cells #[.int .u32 4294967295] 27)).alloc (.cells #[.int .u32 (wJ64 : Int), .int .u32 (wJ64 : Int)] 27))
      have M2 := Lib.hid (((Nums.new w4 .u32 #[.int .u32 (w36 : Int)] 27 [w36] rfl).alloc (.cells #[.int .u32 4294967295] 27)).alloc (.cells #[.int .u32 (wJ64 : Int), .int .u32 (wJ64 : Int)] 27))
      have m3 := (Nums.new (w4.alloc (.cells #[.int .u32 (w36 : Int)] 27)) .u32 #[.int .u32 4294967295] 27 [wFF] rfl).alloc (.cells #[.int .u32 (wJ64 : Int), .int .u32 (wJ64 : Int)] 27)
      rw [alloc_size] at m3
      have m4 := Nums.new ((w4.alloc (.cells #[.int .u32 (w36 : Int)] 27)).alloc (.cells #[.int .u32 4294967295] 27)) .u32 #[.int .u32 (wJ64 : Int), .int .u32 (wJ64 : Int)] 27 [wJ64, wJ64] rfl
      rw [alloc_size, alloc_size] at m4
      have M3 := Lib.hid m3
      have M4 := Lib.hid m4
      clear m3 m4
      refine (word_357 _).mono ?_; rintro e w5 ⟨rfl, hb5⟩
      have HO5 := Lib.hid (own_kept (own_kept (own_kept (own_kept HO4.out ((Below.refl _ _).alloc (Nat.le_refl _) _)) ((Below.refl _ _).alloc (Nat.le_refl _) _)) ((Below.refl _ _).alloc (Nat.le_refl _) _)) hb5)
      have HB5 := Lib.hid ((((HB4.out.alloc HB4.out.size _).alloc (by have := HB4.out.size; simp; omega) _).alloc (by have := HB4.out.size; simp; omega) _).trans (hb5.mono (by have := HB4.out.size; simp; omega)))
      have M1 := Lib.hid (M1.out.kept hb5)
      have M2 := Lib.hid (M2.out.kept hb5)
      have M3 := Lib.hid (M3.out.kept hb5)
      have M4 := Lib.hid (M4.out.kept hb5)
      clear hb5 HO4 HB4
      go_wp2_with fail
      refine (place_any a1 5 _ h1 (by decide)).mono ?_; rintro e w1 ⟨rfl, rfl⟩; rw [HJ.out]
      have hj5 : j = 0 ∨ j = 1 ∨ j = 2 ∨ j = 3 ∨ j = 4 := by omega
      have hel : (endsW n).length ≤ 16 := by rw [endsW_length]; omega
      clear HJ
      rcases hj5 with rfl | rfl | rfl | rfl | rfl
      · have hix := idx41_0
        have he2 : ([w35] : List Nat).length ≤ 2 := by decide
        have hcl : (cat (endsW n) [w35]).length ≤ 18 := by rw [cat_length]; omega
        clear he2
        have hcw : ∀ y ∈ cat (endsW n) [w35], y < 4294967296 := fun y hy => by
          rcases List.mem_append.1 hy with hy | hy
          · exact endsW_lt (by omega) y hy
          · exact end_lt (.inl rfl) y hy
        have HCW := Lib.hid hcw
        clear hcw
        go_wp2_with (at_builtin; refine wpList_append_keep _ rfl _ _ 23 rfl w.heap.size 27 .u32 4 Try.underlying23 info27u a c (endsW n) rfl (own_kept HO5.out ((Below.refl _ _).alloc (Nat.le_refl _) _)) _ _ _ [w35] rfl (M1.out.alloc _) (Nat.le_trans (by omega : _ ≤ 100) (by decide)) (by omega) (by have := HB5.out.size; simp; omega) ?_; intro a6 c6 w6 ho6 hn6 hg6 hold6)
        have HB6 := Lib.hid ((HB5.out.alloc HB5.out.size _).grown hg6.out (by have := HB5.out.size; simp; omega) (ownBlock_of_own HO5.out))
        clear hg6 ho6 HB5 HO5 M1 M2 M3 M4 hix
        refine (code_any _ hn6.out HCW.out (Nat.le_trans hcl (by decide))).mono ?_
        rintro e w7 ⟨v, rfl, ho7, hb7⟩
        obtain ⟨a7, c7, rfl, hn7⟩ := Nums.of_own ho7
        have HB7 := Lib.hid (HB6.out.trans (hb7.mono HB6.out.size))
        have HO7 := Lib.hid (hold6.out.kept hb7)
        have HN7 := Lib.hid hn7
        clear ho7 hn7 hb7 hold6 hn6 HB6
        go_wp2_with fail
        refine (mem_one_at (at_ := 512) (q := 5) (ws := cat (endsW n) [w35]) rfl (heap_alloc_last w7 _) rfl (HN7.out.alloc _) HCW.out (by omega) (by omega)).mono ?_
        rintro e w8 ⟨mb, mm, wm, S, rfl, hM, hH, hb8⟩
        have HB8 := Lib.hid ((HB7.out.alloc HB7.out.size _).trans (hb8.mono (by have := HB7.out.size; simp; omega)))
        have HO8 := Lib.hid ((HO7.out.alloc _).kept hb8)
        have HM8 := Lib.hid hM
        have HH8 := Lib.hid hH
        clear hb8 hM hH HB7 HO7 HN7
        go_wp2_with fail
        refine (cut_code 512 0 HM8.out HH8.out rfl (by show 512 % 4 = 0; decide) (by show 512 + 4 * _ < _; omega) (by show ((5 : Int) % 8).toNat % 2 = 1; decide) HCW.out (by omega) rfl).mono ?_
        rintro e w9 ⟨a9, l9, c9, rest, rfl, hn9, -, -, hb9⟩
        rw [ends_cut ends0 n hkl] at hn9
        obtain rfl : n = l9 := (endsW_length n).symm.trans hn9.1
        have HB9 := Lib.hid (HB8.out.trans (hb9.mono HB8.out.size))
        have HO9 := Lib.hid (HO8.out.kept hb9)
        have HM9 := Lib.hid (HM8.out.kept hb9)
        clear hb9 hn9 HB8 HO8 HM8 HH8 HCW hcl
        go_wp2_with fail
        refine (code_any _ HO9.out (endsW_lt (by omega)) (Nat.le_trans hel (by decide))).mono ?_
        rintro e w10 ⟨v, rfl, ho10, hb10⟩
        obtain ⟨a10, c10, rfl, hn10⟩ := Nums.of_own ho10
        have HB10 := Lib.hid (HB9.out.trans (hb10.mono HB9.out.size))
        have HM10 := Lib.hid (HM9.out.kept hb10)
        have HN10 := Lib.hid hn10
        clear ho10 hn10 hb10 HB9 HO9 HM9
        go_wp2_with fail
        refine (mem_one_at (at_ := 768 - 4 * n) (q := 5) (ws := endsW n) (by omega) (heap_alloc_last w10 _) rfl (HN10.out.alloc _) (endsW_lt (by omega)) (by omega) (by omega)).mono ?_
        rintro e w11 ⟨mb2, mm2, wm2, S2, rfl, hM, hH, hb11⟩
        have HB11 := Lib.hid ((HB10.out.alloc HB10.out.size _).trans (hb11.mono (by have := HB10.out.size; simp; omega)))
        have HM11 := Lib.hid ((HM10.out.kept ((Below.refl _ _).alloc (Nat.le_refl _) _)).kept hb11)
        have HF11 := Lib.hid hM
        have HH11 := Lib.hid hH
        clear hb11 hM hH HB10 HM10 HN10
        go_wp2_with fail
        refine (cut_code_at _ (768 - 4 * n) 0 (by omega) HF11.out HH11.out rfl (by show (768 - 4 * n) % 4 = 0; omega) (by show 768 - 4 * n + 4 * _ < _; rw [endsW_length]; omega) (by show ((5 : Int) % 8).toNat % 2 = 1; decide) (endsW_lt (by omega)) (by omega) rfl).mono ?_
        rintro e w12 ⟨a12, l12, c12, rest2, rfl, hn12, -, hend, hb12⟩
        have hl12 : 0 < n → l12 = n := fun h0 => by
          have hr : rest2 = [] := hend (by show (768 - 4 * n + 4 * (endsW n).length) % 256 = 0; rw [endsW_length]; omega) (by rw [endsW_length]; exact h0)
          rw [hr, ends_all n hkl] at hn12
          exact hn12.1.symm.trans (endsW_length n)
        have HL12 := Lib.hid hl12
        have HB12 := Lib.hid (HB11.out.trans (hb12.mono HB11.out.size))
        have HM12 := Lib.hid (HM11.out.kept hb12)
        have h68 := field68
        clear hl12 hb12 hn12 hend HB11 HM11 HF11 HH11 hel
        by_cases hz : n = 0
        · subst hz
          go_wp2_with fail
          refine (cut_none 513 (by decide) (by decide) HM12.out).mono ?_
          rintro e w13 ⟨a13, c13, rfl, hb13⟩
          have HB13 := Lib.hid (HB12.out.trans (hb13.mono HB12.out.size))
          clear hb13 HB12
          go_wp2_with fail
          refine (rdecode_any wJ64 _ wJ64_ok.2.2).mono ?_; rintro e w14 ⟨rfl, hb14⟩
          have HB14 := Lib.hid (HB13.out.trans (hb14.mono HB13.out.size))
          clear hb14 HB13
          go_wp2_with fail
          refine (awake_any _).mono ?_; rintro e w15 ⟨rfl, hb15⟩
          go_wp2_with fail
          go_ret
          exact ⟨rfl, HB14.out.trans (hb15.mono HB14.out.size)⟩
        · have hz2 : ¬ (n : Int) = 0 := by omega
          obtain rfl : l12 = n := HL12.out (by omega)
          go_wp2_with fail
          refine (cut_none 513 (by decide) (by decide) HM12.out).mono ?_
          rintro e w13 ⟨a13, c13, rfl, hb13⟩
          have HB13 := Lib.hid (HB12.out.trans (hb13.mono HB12.out.size))
          clear hb13 HB12
          go_wp2_with fail
          refine (rdecode_any wJ64 _ wJ64_ok.2.2).mono ?_; rintro e w14 ⟨rfl, hb14⟩
          have HB14 := Lib.hid (HB13.out.trans (hb14.mono HB13.out.size))
          clear hb14 HB13
          go_wp2_with fail
          refine (awake_any _).mono ?_; rintro e w15 ⟨rfl, hb15⟩
          go_wp2_with fail
          go_ret
          exact ⟨rfl, HB14.out.trans (hb15.mono HB14.out.size)⟩
      · have hix := idx41_1
        have he2 : ([w36] : List Nat).length ≤ 2 := by decide
        have hcl : (cat (endsW n) [w36]).length ≤ 18 := by rw [cat_length]; omega
        clear he2
        have hcw : ∀ y ∈ cat (endsW n) [w36], y < 4294967296 := fun y hy => by
          rcases List.mem_append.1 hy with hy | hy
          · exact endsW_lt (by omega) y hy
          · exact end_lt (.inr (.inl rfl)) y hy
        have HCW := Lib.hid hcw
        clear hcw
        go_wp2_with (at_builtin; refine wpList_append_keep _ rfl _ _ 23 rfl w.heap.size 27 .u32 4 Try.underlying23 info27u a c (endsW n) rfl (own_kept HO5.out ((Below.refl _ _).alloc (Nat.le_refl _) _)) _ _ _ [w36] rfl (M2.out.alloc _) (Nat.le_trans (by omega : _ ≤ 100) (by decide)) (by omega) (by have := HB5.out.size; simp; omega) ?_; intro a6 c6 w6 ho6 hn6 hg6 hold6)
        have HB6 := Lib.hid ((HB5.out.alloc HB5.out.size _).grown hg6.out (by have := HB5.out.size; simp; omega) (ownBlock_of_own HO5.out))
        clear hg6 ho6 HB5 HO5 M1 M2 M3 M4 hix
        refine (code_any _ hn6.out HCW.out (Nat.le_trans hcl (by decide))).mono ?_
        rintro e w7 ⟨v, rfl, ho7, hb7⟩
        obtain ⟨a7, c7, rfl, hn7⟩ := Nums.of_own ho7
        have HB7 := Lib.hid (HB6.out.trans (hb7.mono HB6.out.size))
        have HO7 := Lib.hid (hold6.out.kept hb7)
        have HN7 := Lib.hid hn7
        clear ho7 hn7 hb7 hold6 hn6 HB6
        go_wp2_with fail
        refine (mem_one_at (at_ := 512) (q := 5) (ws := cat (endsW n) [w36]) rfl (heap_alloc_last w7 _) rfl (HN7.out.alloc _) HCW.out (by omega) (by omega)).mono ?_
        rintro e w8 ⟨mb, mm, wm, S, rfl, hM, hH, hb8⟩
        have HB8 := Lib.hid ((HB7.out.alloc HB7.out.size _).trans (hb8.mono (by have := HB7.out.size; simp; omega)))
        have HO8 := Lib.hid ((HO7.out.alloc _).kept hb8)
        have HM8 := Lib.hid hM
        have HH8 := Lib.hid hH
        clear hb8 hM hH HB7 HO7 HN7
        go_wp2_with fail
        refine (cut_code 512 0 HM8.out HH8.out rfl (by show 512 % 4 = 0; decide) (by show 512 + 4 * _ < _; omega) (by show ((5 : Int) % 8).toNat % 2 = 1; decide) HCW.out (by omega) rfl).mono ?_
        rintro e w9 ⟨a9, l9, c9, rest, rfl, hn9, -, -, hb9⟩
        rw [ends_cut ends1 n hkl] at hn9
        obtain rfl : n = l9 := (endsW_length n).symm.trans hn9.1
        have HB9 := Lib.hid (HB8.out.trans (hb9.mono HB8.out.size))
        have HO9 := Lib.hid (HO8.out.kept hb9)
        have HM9 := Lib.hid (HM8.out.kept hb9)
        clear hb9 hn9 HB8 HO8 HM8 HH8 HCW hcl
        go_wp2_with fail
        refine (code_any _ HO9.out (endsW_lt (by omega)) (Nat.le_trans hel (by decide))).mono ?_
        rintro e w10 ⟨v, rfl, ho10, hb10⟩
        obtain ⟨a10, c10, rfl, hn10⟩ := Nums.of_own ho10
        have HB10 := Lib.hid (HB9.out.trans (hb10.mono HB9.out.size))
        have HM10 := Lib.hid (HM9.out.kept hb10)
        have HN10 := Lib.hid hn10
        clear ho10 hn10 hb10 HB9 HO9 HM9
        go_wp2_with fail
        refine (mem_one_at (at_ := 768 - 4 * n) (q := 5) (ws := endsW n) (by omega) (heap_alloc_last w10 _) rfl (HN10.out.alloc _) (endsW_lt (by omega)) (by omega) (by omega)).mono ?_
        rintro e w11 ⟨mb2, mm2, wm2, S2, rfl, hM, hH, hb11⟩
        have HB11 := Lib.hid ((HB10.out.alloc HB10.out.size _).trans (hb11.mono (by have := HB10.out.size; simp; omega)))
        have HM11 := Lib.hid ((HM10.out.kept ((Below.refl _ _).alloc (Nat.le_refl _) _)).kept hb11)
        have HF11 := Lib.hid hM
        have HH11 := Lib.hid hH
        clear hb11 hM hH HB10 HM10 HN10
        go_wp2_with fail
        refine (cut_code_at _ (768 - 4 * n) 0 (by omega) HF11.out HH11.out rfl (by show (768 - 4 * n) % 4 = 0; omega) (by show 768 - 4 * n + 4 * _ < _; rw [endsW_length]; omega) (by show ((5 : Int) % 8).toNat % 2 = 1; decide) (endsW_lt (by omega)) (by omega) rfl).mono ?_
        rintro e w12 ⟨a12, l12, c12, rest2, rfl, hn12, -, hend, hb12⟩
        have hl12 : 0 < n → l12 = n := fun h0 => by
          have hr : rest2 = [] := hend (by show (768 - 4 * n + 4 * (endsW n).length) % 256 = 0; rw [endsW_length]; omega) (by rw [endsW_length]; exact h0)
          rw [hr, ends_all n hkl] at hn12
          exact hn12.1.symm.trans (endsW_length n)
        have HL12 := Lib.hid hl12
        have HB12 := Lib.hid (HB11.out.trans (hb12.mono HB11.out.size))
        have HM12 := Lib.hid (HM11.out.kept hb12)
        have h68 := field68
        clear hl12 hb12 hn12 hend HB11 HM11 HF11 HH11 hel
        by_cases hz : n = 0
        · subst hz
          go_wp2_with fail
          refine (cut_none 513 (by decide) (by decide) HM12.out).mono ?_
          rintro e w13 ⟨a13, c13, rfl, hb13⟩
          have HB13 := Lib.hid (HB12.out.trans (hb13.mono HB12.out.size))
          clear hb13 HB12
          go_wp2_with fail
          refine (rdecode_any wJ64 _ wJ64_ok.2.2).mono ?_; rintro e w14 ⟨rfl, hb14⟩
          have HB14 := Lib.hid (HB13.out.trans (hb14.mono HB13.out.size))
          clear hb14 HB13
          go_wp2_with fail
          refine (awake_any _).mono ?_; rintro e w15 ⟨rfl, hb15⟩
          go_wp2_with fail
          go_ret
          exact ⟨rfl, HB14.out.trans (hb15.mono HB14.out.size)⟩
        · have hz2 : ¬ (n : Int) = 0 := by omega
          obtain rfl : l12 = n := HL12.out (by omega)
          go_wp2_with fail
          refine (cut_none 513 (by decide) (by decide) HM12.out).mono ?_
          rintro e w13 ⟨a13, c13, rfl, hb13⟩
          have HB13 := Lib.hid (HB12.out.trans (hb13.mono HB12.out.size))
          clear hb13 HB12
          go_wp2_with fail
          refine (rdecode_any wJ64 _ wJ64_ok.2.2).mono ?_; rintro e w14 ⟨rfl, hb14⟩
          have HB14 := Lib.hid (HB13.out.trans (hb14.mono HB13.out.size))
          clear hb14 HB13
          go_wp2_with fail
          refine (awake_any _).mono ?_; rintro e w15 ⟨rfl, hb15⟩
          go_wp2_with fail
          go_ret
          exact ⟨rfl, HB14.out.trans (hb15.mono HB14.out.size)⟩
      · have hix := idx41_2
        have he2 : ([wFF] : List Nat).length ≤ 2 := by decide
        have hcl : (cat (endsW n) [wFF]).length ≤ 18 := by rw [cat_length]; omega
        clear he2
        have hcw : ∀ y ∈ cat (endsW n) [wFF], y < 4294967296 := fun y hy => by
          rcases List.mem_append.1 hy with hy | hy
          · exact endsW_lt (by omega) y hy
          · exact end_lt (.inr (.inr (.inl rfl))) y hy
        have HCW := Lib.hid hcw
        clear hcw
        go_wp2_with (at_builtin; refine wpList_append_keep _ rfl _ _ 23 rfl w.heap.size 27 .u32 4 Try.underlying23 info27u a c (endsW n) rfl (own_kept HO5.out ((Below.refl _ _).alloc (Nat.le_refl _) _)) _ _ _ [wFF] rfl (M3.out.alloc _) (Nat.le_trans (by omega : _ ≤ 100) (by decide)) (by omega) (by have := HB5.out.size; simp; omega) ?_; intro a6 c6 w6 ho6 hn6 hg6 hold6)
        have HB6 := Lib.hid ((HB5.out.alloc HB5.out.size _).grown hg6.out (by have := HB5.out.size; simp; omega) (ownBlock_of_own HO5.out))
        clear hg6 ho6 HB5 HO5 M1 M2 M3 M4 hix
        refine (code_any _ hn6.out HCW.out (Nat.le_trans hcl (by decide))).mono ?_
        rintro e w7 ⟨v, rfl, ho7, hb7⟩
        obtain ⟨a7, c7, rfl, hn7⟩ := Nums.of_own ho7
        have HB7 := Lib.hid (HB6.out.trans (hb7.mono HB6.out.size))
        have HO7 := Lib.hid (hold6.out.kept hb7)
        have HN7 := Lib.hid hn7
        clear ho7 hn7 hb7 hold6 hn6 HB6
        go_wp2_with fail
        refine (mem_one_at (at_ := 512) (q := 5) (ws := cat (endsW n) [wFF]) rfl (heap_alloc_last w7 _) rfl (HN7.out.alloc _) HCW.out (by omega) (by omega)).mono ?_
        rintro e w8 ⟨mb, mm, wm, S, rfl, hM, hH, hb8⟩
        have HB8 := Lib.hid ((HB7.out.alloc HB7.out.size _).trans (hb8.mono (by have := HB7.out.size; simp; omega)))
        have HO8 := Lib.hid ((HO7.out.alloc _).kept hb8)
        have HM8 := Lib.hid hM
        have HH8 := Lib.hid hH
        clear hb8 hM hH HB7 HO7 HN7
        go_wp2_with fail
        refine (cut_code 512 0 HM8.out HH8.out rfl (by show 512 % 4 = 0; decide) (by show 512 + 4 * _ < _; omega) (by show ((5 : Int) % 8).toNat % 2 = 1; decide) HCW.out (by omega) rfl).mono ?_
        rintro e w9 ⟨a9, l9, c9, rest, rfl, hn9, -, -, hb9⟩
        rw [ends_cut ends2 n hkl] at hn9
        obtain rfl : n = l9 := (endsW_length n).symm.trans hn9.1
        have HB9 := Lib.hid (HB8.out.trans (hb9.mono HB8.out.size))
        have HO9 := Lib.hid (HO8.out.kept hb9)
        have HM9 := Lib.hid (HM8.out.kept hb9)
        clear hb9 hn9 HB8 HO8 HM8 HH8 HCW hcl
        go_wp2_with fail
        refine (code_any _ HO9.out (endsW_lt (by omega)) (Nat.le_trans hel (by decide))).mono ?_
        rintro e w10 ⟨v, rfl, ho10, hb10⟩
        obtain ⟨a10, c10, rfl, hn10⟩ := Nums.of_own ho10
        have HB10 := Lib.hid (HB9.out.trans (hb10.mono HB9.out.size))
        have HM10 := Lib.hid (HM9.out.kept hb10)
        have HN10 := Lib.hid hn10
        clear ho10 hn10 hb10 HB9 HO9 HM9
        go_wp2_with fail
        refine (mem_one_at (at_ := 768 - 4 * n) (q := 5) (ws := endsW n) (by omega) (heap_alloc_last w10 _) rfl (HN10.out.alloc _) (endsW_lt (by omega)) (by omega) (by omega)).mono ?_
        rintro e w11 ⟨mb2, mm2, wm2, S2, rfl, hM, hH, hb11⟩
        have HB11 := Lib.hid ((HB10.out.alloc HB10.out.size _).trans (hb11.mono (by have := HB10.out.size; simp; omega)))
        have HM11 := Lib.hid ((HM10.out.kept ((Below.refl _ _).alloc (Nat.le_refl _) _)).kept hb11)
        have HF11 := Lib.hid hM
        have HH11 := Lib.hid hH
        clear hb11 hM hH HB10 HM10 HN10
        go_wp2_with fail
        refine (cut_code_at _ (768 - 4 * n) 0 (by omega) HF11.out HH11.out rfl (by show (768 - 4 * n) % 4 = 0; omega) (by show 768 - 4 * n + 4 * _ < _; rw [endsW_length]; omega) (by show ((5 : Int) % 8).toNat % 2 = 1; decide) (endsW_lt (by omega)) (by omega) rfl).mono ?_
        rintro e w12 ⟨a12, l12, c12, rest2, rfl, hn12, -, hend, hb12⟩
        have hl12 : 0 < n → l12 = n := fun h0 => by
          have hr : rest2 = [] := hend (by show (768 - 4 * n + 4 * (endsW n).length) % 256 = 0; rw [endsW_length]; omega) (by rw [endsW_length]; exact h0)
          rw [hr, ends_all n hkl] at hn12
          exact hn12.1.symm.trans (endsW_length n)
        have HL12 := Lib.hid hl12
        have HB12 := Lib.hid (HB11.out.trans (hb12.mono HB11.out.size))
        have HM12 := Lib.hid (HM11.out.kept hb12)
        have h68 := field68
        clear hl12 hb12 hn12 hend HB11 HM11 HF11 HH11 hel
        by_cases hz : n = 0
        · subst hz
          go_wp2_with fail
          refine (cut_none 513 (by decide) (by decide) HM12.out).mono ?_
          rintro e w13 ⟨a13, c13, rfl, hb13⟩
          have HB13 := Lib.hid (HB12.out.trans (hb13.mono HB12.out.size))
          clear hb13 HB12
          go_wp2_with fail
          refine (rdecode_any wJ64 _ wJ64_ok.2.2).mono ?_; rintro e w14 ⟨rfl, hb14⟩
          have HB14 := Lib.hid (HB13.out.trans (hb14.mono HB13.out.size))
          clear hb14 HB13
          go_wp2_with fail
          refine (awake_any _).mono ?_; rintro e w15 ⟨rfl, hb15⟩
          go_wp2_with fail
          go_ret
          exact ⟨rfl, HB14.out.trans (hb15.mono HB14.out.size)⟩
        · have hz2 : ¬ (n : Int) = 0 := by omega
          obtain rfl : l12 = n := HL12.out (by omega)
          go_wp2_with fail
          refine (cut_none 513 (by decide) (by decide) HM12.out).mono ?_
          rintro e w13 ⟨a13, c13, rfl, hb13⟩
          have HB13 := Lib.hid (HB12.out.trans (hb13.mono HB12.out.size))
          clear hb13 HB12
          go_wp2_with fail
          refine (rdecode_any wJ64 _ wJ64_ok.2.2).mono ?_; rintro e w14 ⟨rfl, hb14⟩
          have HB14 := Lib.hid (HB13.out.trans (hb14.mono HB13.out.size))
          clear hb14 HB13
          go_wp2_with fail
          refine (awake_any _).mono ?_; rintro e w15 ⟨rfl, hb15⟩
          go_wp2_with fail
          go_ret
          exact ⟨rfl, HB14.out.trans (hb15.mono HB14.out.size)⟩
      · have hix := idx41_3
        have he2 : ([wJ64, wJ64] : List Nat).length ≤ 2 := by decide
        have hcl : (cat (endsW n) [wJ64, wJ64]).length ≤ 18 := by rw [cat_length]; omega
        clear he2
        have hcw : ∀ y ∈ cat (endsW n) [wJ64, wJ64], y < 4294967296 := fun y hy => by
          rcases List.mem_append.1 hy with hy | hy
          · exact endsW_lt (by omega) y hy
          · exact end_lt (.inr (.inr (.inr (.inl rfl)))) y hy
        have HCW := Lib.hid hcw
        clear hcw
        go_wp2_with (at_builtin; refine wpList_append_keep _ rfl _ _ 23 rfl w.heap.size 27 .u32 4 Try.underlying23 info27u a c (endsW n) rfl (own_kept HO5.out ((Below.refl _ _).alloc (Nat.le_refl _) _)) _ _ _ [wJ64, wJ64] rfl (M4.out.alloc _) (Nat.le_trans (by omega : _ ≤ 100) (by decide)) (by omega) (by have := HB5.out.size; simp; omega) ?_; intro a6 c6 w6 ho6 hn6 hg6 hold6)
        have HB6 := Lib.hid ((HB5.out.alloc HB5.out.size _).grown hg6.out (by have := HB5.out.size; simp; omega) (ownBlock_of_own HO5.out))
        clear hg6 ho6 HB5 HO5 M1 M2 M3 M4 hix
        refine (code_any _ hn6.out HCW.out (Nat.le_trans hcl (by decide))).mono ?_
        rintro e w7 ⟨v, rfl, ho7, hb7⟩
        obtain ⟨a7, c7, rfl, hn7⟩ := Nums.of_own ho7
        have HB7 := Lib.hid (HB6.out.trans (hb7.mono HB6.out.size))
        have HO7 := Lib.hid (hold6.out.kept hb7)
        have HN7 := Lib.hid hn7
        clear ho7 hn7 hb7 hold6 hn6 HB6
        go_wp2_with fail
        refine (mem_one_at (at_ := 512) (q := 5) (ws := cat (endsW n) [wJ64, wJ64]) rfl (heap_alloc_last w7 _) rfl (HN7.out.alloc _) HCW.out (by omega) (by omega)).mono ?_
        rintro e w8 ⟨mb, mm, wm, S, rfl, hM, hH, hb8⟩
        have HB8 := Lib.hid ((HB7.out.alloc HB7.out.size _).trans (hb8.mono (by have := HB7.out.size; simp; omega)))
        have HO8 := Lib.hid ((HO7.out.alloc _).kept hb8)
        have HM8 := Lib.hid hM
        have HH8 := Lib.hid hH
        clear hb8 hM hH HB7 HO7 HN7
        go_wp2_with fail
        refine (cut_code 512 0 HM8.out HH8.out rfl (by show 512 % 4 = 0; decide) (by show 512 + 4 * _ < _; omega) (by show ((5 : Int) % 8).toNat % 2 = 1; decide) HCW.out (by omega) rfl).mono ?_
        rintro e w9 ⟨a9, l9, c9, rest, rfl, hn9, -, -, hb9⟩
        rw [ends_cut ends3 n hkl] at hn9
        obtain rfl : n = l9 := (endsW_length n).symm.trans hn9.1
        have HB9 := Lib.hid (HB8.out.trans (hb9.mono HB8.out.size))
        have HO9 := Lib.hid (HO8.out.kept hb9)
        have HM9 := Lib.hid (HM8.out.kept hb9)
        clear hb9 hn9 HB8 HO8 HM8 HH8 HCW hcl
        go_wp2_with fail
        refine (code_any _ HO9.out (endsW_lt (by omega)) (Nat.le_trans hel (by decide))).mono ?_
        rintro e w10 ⟨v, rfl, ho10, hb10⟩
        obtain ⟨a10, c10, rfl, hn10⟩ := Nums.of_own ho10
        have HB10 := Lib.hid (HB9.out.trans (hb10.mono HB9.out.size))
        have HM10 := Lib.hid (HM9.out.kept hb10)
        have HN10 := Lib.hid hn10
        clear ho10 hn10 hb10 HB9 HO9 HM9
        go_wp2_with fail
        refine (mem_one_at (at_ := 768 - 4 * n) (q := 5) (ws := endsW n) (by omega) (heap_alloc_last w10 _) rfl (HN10.out.alloc _) (endsW_lt (by omega)) (by omega) (by omega)).mono ?_
        rintro e w11 ⟨mb2, mm2, wm2, S2, rfl, hM, hH, hb11⟩
        have HB11 := Lib.hid ((HB10.out.alloc HB10.out.size _).trans (hb11.mono (by have := HB10.out.size; simp; omega)))
        have HM11 := Lib.hid ((HM10.out.kept ((Below.refl _ _).alloc (Nat.le_refl _) _)).kept hb11)
        have HF11 := Lib.hid hM
        have HH11 := Lib.hid hH
        clear hb11 hM hH HB10 HM10 HN10
        go_wp2_with fail
        refine (cut_code_at _ (768 - 4 * n) 0 (by omega) HF11.out HH11.out rfl (by show (768 - 4 * n) % 4 = 0; omega) (by show 768 - 4 * n + 4 * _ < _; rw [endsW_length]; omega) (by show ((5 : Int) % 8).toNat % 2 = 1; decide) (endsW_lt (by omega)) (by omega) rfl).mono ?_
        rintro e w12 ⟨a12, l12, c12, rest2, rfl, hn12, -, hend, hb12⟩
        have hl12 : 0 < n → l12 = n := fun h0 => by
          have hr : rest2 = [] := hend (by show (768 - 4 * n + 4 * (endsW n).length) % 256 = 0; rw [endsW_length]; omega) (by rw [endsW_length]; exact h0)
          rw [hr, ends_all n hkl] at hn12
          exact hn12.1.symm.trans (endsW_length n)
        have HL12 := Lib.hid hl12
        have HB12 := Lib.hid (HB11.out.trans (hb12.mono HB11.out.size))
        have HM12 := Lib.hid (HM11.out.kept hb12)
        have h68 := field68
        clear hl12 hb12 hn12 hend HB11 HM11 HF11 HH11 hel
        by_cases hz : n = 0
        · subst hz
          go_wp2_with fail
          refine (cut_none 513 (by decide) (by decide) HM12.out).mono ?_
          rintro e w13 ⟨a13, c13, rfl, hb13⟩
          have HB13 := Lib.hid (HB12.out.trans (hb13.mono HB12.out.size))
          clear hb13 HB12
          go_wp2_with fail
          refine (rdecode_any wJ64 _ wJ64_ok.2.2).mono ?_; rintro e w14 ⟨rfl, hb14⟩
          have HB14 := Lib.hid (HB13.out.trans (hb14.mono HB13.out.size))
          clear hb14 HB13
          go_wp2_with fail
          refine (awake_any _).mono ?_; rintro e w15 ⟨rfl, hb15⟩
          go_wp2_with fail
          go_ret
          exact ⟨rfl, HB14.out.trans (hb15.mono HB14.out.size)⟩
        · have hz2 : ¬ (n : Int) = 0 := by omega
          obtain rfl : l12 = n := HL12.out (by omega)
          go_wp2_with fail
          refine (cut_none 513 (by decide) (by decide) HM12.out).mono ?_
          rintro e w13 ⟨a13, c13, rfl, hb13⟩
          have HB13 := Lib.hid (HB12.out.trans (hb13.mono HB12.out.size))
          clear hb13 HB12
          go_wp2_with fail
          refine (rdecode_any wJ64 _ wJ64_ok.2.2).mono ?_; rintro e w14 ⟨rfl, hb14⟩
          have HB14 := Lib.hid (HB13.out.trans (hb14.mono HB13.out.size))
          clear hb14 HB13
          go_wp2_with fail
          refine (awake_any _).mono ?_; rintro e w15 ⟨rfl, hb15⟩
          go_wp2_with fail
          go_ret
          exact ⟨rfl, HB14.out.trans (hb15.mono HB14.out.size)⟩
      · have hix := idx41_4
        have he2 : ([wJ64, w357] : List Nat).length ≤ 2 := by decide
        have hcl : (cat (endsW n) [wJ64, w357]).length ≤ 18 := by rw [cat_length]; omega
        clear he2
        have hcw : ∀ y ∈ cat (endsW n) [wJ64, w357], y < 4294967296 := fun y hy => by
          rcases List.mem_append.1 hy with hy | hy
          · exact endsW_lt (by omega) y hy
          · exact end_lt (.inr (.inr (.inr (.inr rfl)))) y hy
        have HCW := Lib.hid hcw
        clear hcw
        go_wp2_with (at_builtin; refine wpList_append_keep _ rfl _ _ 23 rfl w.heap.size 27 .u32 4 Try.underlying23 info27u a c (endsW n) rfl (own_kept HO5.out ((Below.refl _ _).alloc (Nat.le_refl _) _)) _ _ _ [wJ64, w357] rfl (Nums.new _ .u32 _ _ [wJ64, w357] rfl) (Nat.le_trans (by omega : _ ≤ 100) (by decide)) (by omega) (by have := HB5.out.size; simp; omega) ?_; intro a6 c6 w6 ho6 hn6 hg6 hold6)
        have HB6 := Lib.hid ((HB5.out.alloc HB5.out.size _).grown hg6.out (by have := HB5.out.size; simp; omega) (ownBlock_of_own HO5.out))
        clear hg6 ho6 HB5 HO5 M1 M2 M3 M4 hix
        refine (code_any _ hn6.out HCW.out (Nat.le_trans hcl (by decide))).mono ?_
        rintro e w7 ⟨v, rfl, ho7, hb7⟩
        obtain ⟨a7, c7, rfl, hn7⟩ := Nums.of_own ho7
        have HB7 := Lib.hid (HB6.out.trans (hb7.mono HB6.out.size))
        have HO7 := Lib.hid (hold6.out.kept hb7)
        have HN7 := Lib.hid hn7
        clear ho7 hn7 hb7 hold6 hn6 HB6
        go_wp2_with fail
        refine (mem_one_at (at_ := 512) (q := 5) (ws := cat (endsW n) [wJ64, w357]) rfl (heap_alloc_last w7 _) rfl (HN7.out.alloc _) HCW.out (by omega) (by omega)).mono ?_
        rintro e w8 ⟨mb, mm, wm, S, rfl, hM, hH, hb8⟩
        have HB8 := Lib.hid ((HB7.out.alloc HB7.out.size _).trans (hb8.mono (by have := HB7.out.size; simp; omega)))
        have HO8 := Lib.hid ((HO7.out.alloc _).kept hb8)
        have HM8 := Lib.hid hM
        have HH8 := Lib.hid hH
        clear hb8 hM hH HB7 HO7 HN7
        go_wp2_with fail
        refine (cut_code 512 0 HM8.out HH8.out rfl (by show 512 % 4 = 0; decide) (by show 512 + 4 * _ < _; omega) (by show ((5 : Int) % 8).toNat % 2 = 1; decide) HCW.out (by omega) rfl).mono ?_
        rintro e w9 ⟨a9, l9, c9, rest, rfl, hn9, -, -, hb9⟩
        rw [ends_cut ends4 n hkl] at hn9
        obtain rfl : n = l9 := (endsW_length n).symm.trans hn9.1
        have HB9 := Lib.hid (HB8.out.trans (hb9.mono HB8.out.size))
        have HO9 := Lib.hid (HO8.out.kept hb9)
        have HM9 := Lib.hid (HM8.out.kept hb9)
        clear hb9 hn9 HB8 HO8 HM8 HH8 HCW hcl
        go_wp2_with fail
        refine (code_any _ HO9.out (endsW_lt (by omega)) (Nat.le_trans hel (by decide))).mono ?_
        rintro e w10 ⟨v, rfl, ho10, hb10⟩
        obtain ⟨a10, c10, rfl, hn10⟩ := Nums.of_own ho10
        have HB10 := Lib.hid (HB9.out.trans (hb10.mono HB9.out.size))
        have HM10 := Lib.hid (HM9.out.kept hb10)
        have HN10 := Lib.hid hn10
        clear ho10 hn10 hb10 HB9 HO9 HM9
        go_wp2_with fail
        refine (mem_one_at (at_ := 768 - 4 * n) (q := 5) (ws := endsW n) (by omega) (heap_alloc_last w10 _) rfl (HN10.out.alloc _) (endsW_lt (by omega)) (by omega) (by omega)).mono ?_
        rintro e w11 ⟨mb2, mm2, wm2, S2, rfl, hM, hH, hb11⟩
        have HB11 := Lib.hid ((HB10.out.alloc HB10.out.size _).trans (hb11.mono (by have := HB10.out.size; simp; omega)))
        have HM11 := Lib.hid ((HM10.out.kept ((Below.refl _ _).alloc (Nat.le_refl _) _)).kept hb11)
        have HF11 := Lib.hid hM
        have HH11 := Lib.hid hH
        clear hb11 hM hH HB10 HM10 HN10
        go_wp2_with fail
        refine (cut_code_at _ (768 - 4 * n) 0 (by omega) HF11.out HH11.out rfl (by show (768 - 4 * n) % 4 = 0; omega) (by show 768 - 4 * n + 4 * _ < _; rw [endsW_length]; omega) (by show ((5 : Int) % 8).toNat % 2 = 1; decide) (endsW_lt (by omega)) (by omega) rfl).mono ?_
        rintro e w12 ⟨a12, l12, c12, rest2, rfl, hn12, -, hend, hb12⟩
        have hl12 : 0 < n → l12 = n := fun h0 => by
          have hr : rest2 = [] := hend (by show (768 - 4 * n + 4 * (endsW n).length) % 256 = 0; rw [endsW_length]; omega) (by rw [endsW_length]; exact h0)
          rw [hr, ends_all n hkl] at hn12
          exact hn12.1.symm.trans (endsW_length n)
        have HL12 := Lib.hid hl12
        have HB12 := Lib.hid (HB11.out.trans (hb12.mono HB11.out.size))
        have HM12 := Lib.hid (HM11.out.kept hb12)
        have h68 := field68
        clear hl12 hb12 hn12 hend HB11 HM11 HF11 HH11 hel
        by_cases hz : n = 0
        · subst hz
          go_wp2_with fail
          refine (cut_none 513 (by decide) (by decide) HM12.out).mono ?_
          rintro e w13 ⟨a13, c13, rfl, hb13⟩
          have HB13 := Lib.hid (HB12.out.trans (hb13.mono HB12.out.size))
          clear hb13 HB12
          go_wp2_with fail
          refine (rdecode_any wJ64 _ wJ64_ok.2.2).mono ?_; rintro e w14 ⟨rfl, hb14⟩
          have HB14 := Lib.hid (HB13.out.trans (hb14.mono HB13.out.size))
          clear hb14 HB13
          go_wp2_with fail
          refine (awake_any _).mono ?_; rintro e w15 ⟨rfl, hb15⟩
          go_wp2_with fail
          go_ret
          exact ⟨rfl, HB14.out.trans (hb15.mono HB14.out.size)⟩
        · have hz2 : ¬ (n : Int) = 0 := by omega
          obtain rfl : l12 = n := HL12.out (by omega)
          go_wp2_with fail
          refine (cut_none 513 (by decide) (by decide) HM12.out).mono ?_
          rintro e w13 ⟨a13, c13, rfl, hb13⟩
          have HB13 := Lib.hid (HB12.out.trans (hb13.mono HB12.out.size))
          clear hb13 HB12
          go_wp2_with fail
          refine (rdecode_any wJ64 _ wJ64_ok.2.2).mono ?_; rintro e w14 ⟨rfl, hb14⟩
          have HB14 := Lib.hid (HB13.out.trans (hb14.mono HB13.out.size))
          clear hb14 HB13
          go_wp2_with fail
          refine (awake_any _).mono ?_; rintro e w15 ⟨rfl, hb15⟩
          go_wp2_with fail
          go_ret
          exact ⟨rfl, HB14.out.trans (hb15.mono HB14.out.size)⟩
theorem blockEnds_row (a0 a1 : Int) (w : World) (w0 : (Lit.int .i64 a0).wf = true) (w1 : (Lit.int .i64 a1).wf = true) :
    Calls Try.prog 4 #[.int .i64 a0, .int .i64 a1] w fun e w' => e = .returned (.bool true) ∧ Below w.heap.size w w' :=
  ends_walk a0 a1 w (wf_i64 _ w0) (wf_i64 _ w1)
end Go.Proofs.Ytjoaenfibkgplaa
