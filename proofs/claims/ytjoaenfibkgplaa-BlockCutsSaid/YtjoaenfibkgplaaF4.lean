import Derived.Test.YtjoaenfibkgplaaF3
namespace Go.Proofs.Ytjoaenfibkgplaa
set_option linter.unusedSimpArgs false
open Go.RowKit Go.Cq
set_option linter.unusedVariables false
/-- 'append(out, xs...)': what comes is a slice. -/
theorem wpList_append_slice {P : Program} (w : World) {ops : Array Oper} {rest : List Oper} {o : Oper} {a : Act} {Q : Exit → Act → World → Prop} (hgd : o.guard = none) (s x : Operand) (t : TypeId)
    (ho : o.op = .call { callee := .builtin .append, args := #[s, x], argTypes := #[t, t] })
    (base : Nat) (e : TypeId) (k : IntKind) (bytes : Nat) (ht : P.underlying t = some (.slice e)) (hi : (P.info? e).map (fun i => (i.zero, i.size, i.bytes)) = some (some (.int k 0), 1, bytes))
    (v : Value) (xs : List Nat) (hs : a.eval s = v) (hown : w.ownsRow base e 1 v xs.length (nums k xs))
    (ao : Option Addr) (m c : Nat) (ys : List Nat) (hx : a.eval x = .slice ao m c) (hy : Nums w k ao m c ys)
    (h63 : xs.length + m ≤ maxLen) (hbytes : (xs.length + m) * bytes ≤ 140737488355328) (hbase : base ≤ w.heap.size)
    (h : ∀ a' c' w', Hid (w'.ownsRow base e 1 (.slice a' (cat xs ys).length c') (cat xs ys).length (nums k (cat xs ys))) → Hid (Nums w' k a' (cat xs ys).length c' (cat xs ys)) → Hid (w.grownBy w' v.ownBlock) → wpList P ops Q rest (a.put o.dst (.slice a' (cat xs ys).length c')) w') : wpList P ops Q (o :: rest) a w := by
  refine wpList_append_nums w hgd s x t ho base e k bytes ht hi v xs hs hown ao m c ys hx hy h63 hbytes hbase ?_
  intro v' w' h1 h2
  obtain ⟨a', c', rfl, hn⟩ := Nums.of_own h1
  exact h a' c' w' h1 hn h2
theorem info27u : (Try.prog.info? 27).map (fun i => (i.zero, i.size, i.bytes)) = some (some (.int .u32 0), 1, 4) := Try.info27

set_option maxHeartbeats 1000000 in
theorem sizes_walk (a0 a1 : Int) (w : World) (h0 : -9223372036854775808 ≤ a0 ∧ a0 ≤ 9223372036854775807) (h1 : -9223372036854775808 ≤ a1 ∧ a1 ≤ 9223372036854775807) :
    Calls Try.prog 5 #[.int .i64 a0, .int .i64 a1] w fun e w' => e = .returned (.bool true) ∧ Below w.heap.size w w' := by
  obtain ⟨k, hk, hkl⟩ : ∃ k : Nat, a0 % 30 = (k : Int) ∧ k < 30 := ⟨(a0 % 30).toNat, by omega, by omega⟩
  obtain ⟨j, hj, hjl⟩ : ∃ j : Nat, a1 % 30 = (j : Int) ∧ j < 30 := ⟨(a1 % 30).toNat, by omega, by omega⟩
  have HK := Lib.hid hk
  have HJ := Lib.hid hj
  clear hk hj
  go_enter Try.func5, Try.ntmps5
  go_wp2_with fail
  refine (place_any a0 30 w h0 (by decide)).mono ?_; rintro e w1 ⟨rfl, rfl⟩; rw [HK.out]
  go_wp2_with fail
  refine (place_any a1 30 w h1 (by decide)).mono ?_; rintro e w1 ⟨rfl, rfl⟩; rw [HJ.out]
  go_wp2_with fail
  go_loopw [7, 8, 9] (fun v i _ wr => ∃ n : Nat, n ≤ k ∧ i = .int .i64 n ∧ Hid (wr.ownsRow w.heap.size 27 1 v (sizesW j n).length (nums .u32 (sizesW j n))) ∧ Hid (Below w.heap.size w wr)) (fun _ i _ _ => k - (intOf i).toNat)
  case atStart => exact ⟨0, by omega, rfl, World.ownsRow_nil _ _ _ _, Below.refl _ _⟩
  case round =>
    obtain ⟨n, hn, rfl, HO, HB⟩ := hrel
    by_cases hlt : n < k
    · have hln : (sizesW j n).length ≤ 30 := by rw [sizesW_length]; omega
      by_cases he : n = j
      · have he2 : (n : Int) = (j : Int) := by omega
        have HE : Hid (sizesW j (n + 1) = cat (sizesW j n) [wJ4]) := by refine Lib.hid ?_; rw [sizesW_succ, if_pos he]
        go_wp2_with (first
          | (go_at_call 18; with_reducible refine (word_P _).mono ?_; rintro e w2 ⟨rfl, hb2⟩)
          | (go_at_call 18; with_reducible refine (word_J4 _).mono ?_; rintro e w3 ⟨rfl, hb3⟩)
          | (at_builtin; refine wpList_append_nums _ rfl _ _ 23 rfl w.heap.size 27 .u32 4 Try.underlying23 info27u _ (sizesW j n) rfl (own_kept (own_kept (own_kept HO.out hb2) hb3) ((Below.refl _ _).alloc (Nat.le_refl _) _)) _ _ _ [wJ4] rfl (Nums.new _ .u32 _ _ [wJ4] rfl) (Nat.le_trans (by omega : _ ≤ 100) (by decide)) (by omega) (by have := HB.out.size; have := hb2.size; have := hb3.size; simp; omega) ?_; intro v4 w4 ho4 hg4))
        have hb4 : Below w.heap.size w w4 := (((HB.out.trans (hb2.mono HB.out.size)).trans (hb3.mono (Nat.le_trans HB.out.size hb2.size))).alloc (Nat.le_trans (Nat.le_trans HB.out.size hb2.size) hb3.size) _).grown hg4 (by have := HB.out.size; have := hb2.size; have := hb3.size; simp; omega) (ownBlock_of_own HO.out)
        go_roundw
        case rel => exact ⟨n + 1, by omega, by go_num, by refine Lib.hid ?_; rw [HE.out]; exact ho4, Lib.hid hb4⟩
        case measure => simp [intOf]; omega
      · have he2 : ¬ (n : Int) = (j : Int) := by omega
        have HE : Hid (sizesW j (n + 1) = cat (sizesW j n) [wP]) := by refine Lib.hid ?_; rw [sizesW_succ, if_neg he]
        go_wp2_with (first
          | (go_at_call 18; with_reducible refine (word_P _).mono ?_; rintro e w2 ⟨rfl, hb2⟩)
          | (at_builtin; refine wpList_append_nums _ rfl _ _ 23 rfl w.heap.size 27 .u32 4 Try.underlying23 info27u _ (sizesW j n) rfl (own_kept (own_kept HO.out hb2) ((Below.refl _ _).alloc (Nat.le_refl _) _)) _ _ _ [wP] rfl (Nums.new _ .u32 _ _ [wP] rfl) (Nat.le_trans (by omega : _ ≤ 100) (by decide)) (by omega) (by have := HB.out.size; have := hb2.size; simp; omega) ?_; intro v4 w4 ho4 hg4))
        have hb4 : Below w.heap.size w w4 := ((HB.out.trans (hb2.mono HB.out.size)).alloc (Nat.le_trans HB.out.size hb2.size) _).grown hg4 (by have := HB.out.size; have := hb2.size; simp; omega) (ownBlock_of_own HO.out)
        go_roundw
        case rel => exact ⟨n + 1, by omega, by go_num, by refine Lib.hid ?_; rw [HE.out]; exact ho4, Lib.hid hb4⟩
        case measure => simp [intOf]; omega
    · obtain rfl : n = k := by omega
      obtain ⟨a, c, rfl, hN⟩ := Nums.of_own HO.out
      have HN := Lib.hid hN
      clear hN
      go_wp2_with fail
      refine (code_any _ HN.out (sizesW_lt j n) (by rw [sizesW_length]; omega)).mono ?_
      rintro e w2 ⟨v, rfl, ho2, hb2⟩
      have HO2 := Lib.hid ho2
      have HB2 := Lib.hid (HB.out.trans (hb2.mono HB.out.size))
      have HS2 : Hid (wr.heap.size ≤ w2.heap.size) := hb2.size
      clear ho2 hb2
      have hcl : (codeN (sizesW j n)).length ≤ 120 := by rw [codeN_length, sizesW_length]; omega
      go_wp2_with (at_builtin; refine wpList_append_slice _ rfl _ _ 28 rfl wr.heap.size 5 .u8 1 Try.underlying28 info5u _ (codeN (sizesW j n)) rfl (own_kept HO2.out ((Below.refl _ _).alloc (Nat.le_refl _) _)) _ _ _ [255, 255, 255, 255] rfl (Nums.new _ .u8 _ _ [255, 255, 255, 255] rfl) (Nat.le_trans (by omega : _ ≤ 200) (by decide)) (by omega) (by have := HS2.out; simp; omega) ?_; intro a4 c4 w4 ho4 hn4 hg4)
      have HB4 : Hid (Below w.heap.size w w4) := Lib.hid ((HB2.out.alloc HB2.out.size _).grown hg4.out (by have := HB2.out.size; simp; omega) (fun g hg => Nat.le_trans HB.out.size (ownBlock_of_own HO2.out g hg)))
      have e4 : cat (codeN (sizesW j n)) [255, 255, 255, 255] = codeN (cat (sizesW j n) [wFF]) := by rw [cat, cat, codeN_append]; rfl
      have hn5 := hn4.out
      rw [e4] at hn5 ⊢
      have hws : ∀ y ∈ cat (sizesW j n) [wFF], y < 4294967296 := fun y hy => by
        rcases List.mem_append.1 hy with hy | hy
        · exact sizesW_lt j n y hy
        · rw [List.mem_singleton] at hy; rw [hy]; decide
      have hwl : (cat (sizesW j n) [wFF]).length = n + 1 := by rw [cat_length, sizesW_length]; rfl
      have HWS := Lib.hid hws
      clear hws
      refine (mem_one (at_ := 512) (q := 7) (ws := cat (sizesW j n) [wFF]) (heap_alloc_last w4 _) (hn5.alloc _) HWS.out (by omega) (by omega)).mono ?_
      rintro e w5 ⟨mb, mm, wm, S, rfl, hM, hH, hb5⟩
      have HB5 := Lib.hid ((HB4.out.alloc HB4.out.size _).trans (hb5.mono (by have := HB4.out.size; simp; omega)))
      have HM := Lib.hid hM
      have HH := Lib.hid hH
      clear hb5 HB4 hn4 hn5 ho4 hg4 hM hH HB2 HO2 HB HO HS2
      have hw : (j < n ∧ n ≤ j + 1 → wantN n j = min j 16) ∧ (j < n ∧ ¬ n ≤ j + 1 ∧ j + 2 ≤ 16 → wantN n j = j + 2) ∧ (j < n ∧ ¬ n ≤ j + 1 ∧ ¬ j + 2 ≤ 16 → wantN n j = min j 16) ∧ (¬ j < n → wantN n j = min n 16) := by
        unfold wantN
        refine ⟨fun h => ?_, fun h => ?_, fun h => ?_, fun h => ?_⟩
        · rw [if_pos h.1, if_pos h.2]
        · rw [if_pos h.1, if_neg h.2.1, if_pos h.2.2]
        · rw [if_pos h.1, if_neg h.2.1, if_neg h.2.2]
        · rw [if_neg h]
      have hw16 := want_le n j
      have HW := Lib.hid hw
      have HC := Lib.hid (sizes_cut n j)
      clear hw
      generalize wantN n j = W at hw16 HW HC
      go_wp2_with fail
      all_goals
        refine (cut_code 512 0 HM.out HH.out rfl (by show 512 % 4 = 0; decide) (by show 512 + 4 * _ < _; omega) (by show ((7 : Int) % 8).toNat % 2 = 1; decide) HWS.out (by omega) rfl).mono ?_
        rintro e w6 ⟨a6, l6, c6, rest, rfl, hn6, hx6, -, hb6⟩
        obtain rfl : W = l6 := (HC.out rest).symm.trans hn6.1
        have HB6 := Lib.hid (HB5.out.trans (hb6.mono HB5.out.size))
        have HR6 := Lib.hid (cutGo_right ((cat (sizesW j n) [wFF]).drop 0 ++ rest) [] (by intro x hx; cases hx) (by decide))
        have HX6 := Lib.hid hx6
        have HN6 := Lib.hid hn6
        have hwo := HW.out
        first
          | have q : (W : Int) = (j : Int) := by omega
          | have q : (W : Int) = (n : Int) := by omega
          | have q : (W : Int) = 16 := by omega
          | have q : (W : Int) = (j : Int) + 2 := by omega
        clear hwo hx6 hn6 hb6 HB5 HM HH HC HW
        by_cases hz : W = 0
        · have hz2 : (W : Int) = 0 := by omega
          first
            | (exfalso; omega)
            | (go_wp2_with fail
               refine (awake_any w6).mono ?_; rintro e w7 ⟨rfl, hb7⟩
               go_wp2_with fail
               go_ret
               exact ⟨rfl, HB6.out.trans (hb7.mono HB6.out.size)⟩)
        · have hz2 : ¬ (W : Int) = 0 := by omega
          have HL6 : Hid (W ≤ 4294967296) := Lib.hid (Nat.le_trans (show W ≤ 16 by omega) (by decide))
          have HRT : Hid (rightN (cutGo ((cat (sizesW j n) [wFF]).drop 0 ++ rest) [] false) = true) := by
            refine Lib.hid ?_
            rcases HR6.out with h | h
            · exact absurd (by rw [← HN6.out.1, h]; rfl) hz
            · exact h
          go_wp2_with fail
          all_goals
            refine (right_any w6 HN6.out HX6.out HL6.out).mono ?_; rintro e w7 ⟨rfl, hb7⟩
            rw [HRT.out]
            have HB7 := Lib.hid (HB6.out.trans (hb7.mono HB6.out.size))
            go_wp2_with fail
            refine (awake_any w7).mono ?_; rintro e w8 ⟨rfl, hb8⟩
            go_wp2_with fail
            go_ret
            exact ⟨rfl, HB7.out.trans (hb8.mono HB7.out.size)⟩
theorem blockSizes_row (a0 a1 : Int) (w : World) (w0 : (Lit.int .i64 a0).wf = true) (w1 : (Lit.int .i64 a1).wf = true) :
    Calls Try.prog 5 #[.int .i64 a0, .int .i64 a1] w fun e w' => e = .returned (.bool true) ∧ Below w.heap.size w w' :=
  sizes_walk a0 a1 w (wf_i64 _ w0) (wf_i64 _ w1)
end Go.Proofs.Ytjoaenfibkgplaa
