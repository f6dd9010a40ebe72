import Derived.Test.YtjoaenfibkgplaaG1
namespace Go.Proofs.Ytjoaenfibkgplaa
set_option linter.unusedSimpArgs false
open Go.RowKit Go.Cq
set_option linter.unusedVariables false
/-- What is read of a slice of numbers with their signs. -/
def IntsAt (w : World) (a : Option Addr) (len : Nat) (zs : List Int) : Prop := ∀ i, i < len → ∃ b off, a = some ⟨b, off, none⟩ ∧ b < w.heap.size ∧ w.cell? ⟨b, off + i, none⟩ = some (.int .i64 (zs.getD i 0)) ∧ -9223372036854775808 ≤ zs.getD i 0 ∧ zs.getD i 0 ≤ 9223372036854775807
theorem IntsAt.kept {w w' : World} {a : Option Addr} {len : Nat} {zs : List Int} (h : IntsAt w a len zs) (hb : Below w.heap.size w w') : IntsAt w' a len zs := by
  intro i hi
  obtain ⟨b, off, e, h1, h2, h3⟩ := h i hi
  exact ⟨b, off, e, Nat.lt_of_lt_of_le h1 hb.size, (hb.cell (p := ⟨b, off + i, none⟩) h1).trans h2, h3⟩
theorem ints_of_row {w : World} {a : Option Addr} {len cap : Nat} {zs : List Int} (h : IsRow .i64 w a len cap zs) : IntsAt w a len zs := by
  intro i hi
  rcases h with ⟨rfl, rfl, rfl, rfl⟩ | ⟨x, rfl, hl, hm, hz, hcell, hwz⟩
  · omega
  · obtain ⟨b, off, spot⟩ := x
    have hspot : spot = none := by
      have h0 := hcell 0 (by omega)
      simpa [Addr.add] using World.cell?_spot h0
    subst hspot
    have hc := hcell i (by omega)
    rw [Addr.add_lit] at hc
    have hiz : i < zs.length := by omega
    have hm2 : zs.getD i 0 ∈ zs := by rw [List.getD_eq_getElem?_getD, List.getElem?_eq_getElem hiz]; exact List.getElem_mem hiz
    have := wf_i64 _ (hwz _ hm2)
    exact ⟨b, off, rfl, World.block_lt_of_cell? w _ hc, hc, this⟩
/-- Words by numbers: plain ones, then mostly one that jumps, with its slot. -/
def BlockW (ws : List Nat) : Prop := ((∀ x ∈ ws, Goes x) ∧ 0 < ws.length ∧ ws.length ≤ 14) ∨ (∃ a x y, ws = a ++ [x, y] ∧ (∀ z ∈ a, Goes z) ∧ a.length ≤ 14 ∧ Leaps x ∧ Goes y)
def BlocksPost (w : World) (e : Ending) (w' : World) : Prop := ∃ a len cap ws, e = .returned (.slice a len cap) ∧ w'.ownsRow w.heap.size 27 1 (.slice a len cap) len (nums .u32 ws) ∧ BlockW ws ∧ Below w.heap.size w w'
theorem goes_zero : Goes 0 := by unfold Goes; decide +kernel
theorem blocks_end {w w' : World} {xs : List Nat} {x y : Nat} {a : Option Addr} {len cap : Nat} (hl : len = (cat (cat xs [x]) [y]).length) (ho : w'.ownsRow w.heap.size 27 1 (.slice a len cap) (cat (cat xs [x]) [y]).length (nums .u32 (cat (cat xs [x]) [y])))
    (hx : ∀ z ∈ xs, Goes z) (hn : xs.length ≤ 14) (h1 : Leaps x) (h2 : Goes y) (hb : Below w.heap.size w w') : BlocksPost w (.returned (.slice a len cap)) w' := by
  subst hl
  exact ⟨_, _, _, _, rfl, ho, .inr ⟨xs, x, y, by unfold cat; simp, hx, hn, h1, h2⟩, hb⟩
theorem i32 (x : Int) : 0 ≤ x % 4294967296 ∧ x % 4294967296 < 4294967296 := by omega
theorem word18_leap (op s t d a imm : Int) (w : World) (h1 : 1 ≤ op ∧ op ≤ 69) (hs : 0 ≤ s ∧ s < 32) (ht : 0 ≤ t ∧ t < 32) (hd : 0 ≤ d ∧ d < 32) (ha : 0 ≤ a ∧ a < 32) (hi : 0 ≤ imm ∧ imm < 4294967296) (h : Leaps (encN ⟨op.toNat, s.toNat, t.toNat, d.toNat, a.toNat, imm.toNat⟩)) :
    Calls Try.prog 18 #[.int .i64 op, .int .i64 s, .int .i64 t, .int .i64 d, .int .i64 a, .int .u32 imm] w fun e w' => (∃ X : Nat, e = .returned (.int .u32 (X : Int)) ∧ Leaps X) ∧ Below w.heap.size w w' :=
  (word18_int op s t d a imm w h1 hs ht hd ha hi).mono fun e w' he => ⟨⟨_, he.1, h⟩, he.2⟩
theorem goes_cat {xs : List Nat} {x : Nat} (h : ∀ z ∈ xs, Goes z) (hx : Goes x) : ∀ z ∈ cat xs [x], Goes z := by
  intro z hz
  rcases List.mem_append.1 hz with hz | hz
  · exact h z hz
  · rw [List.mem_singleton] at hz; exact hz ▸ hx
set_option maxRecDepth 100000 in
set_option maxHeartbeats 2000000 in
theorem blocks9_0 (a0 : Option Addr) (len0 cap0 : Nat) (zs : List Int) (v : Int) (n : Nat) (w : World) (hz : IntsAt w a0 len0 zs) (hlen : len0 ≤ 9223372036854775807) (hv : -9223372036854775808 ≤ v ∧ v ≤ 9223372036854775807) (hn : Hid (v % 16777216 = (n : Int))) (hn2 : Hid (n < 16777216)) (hr : (n : Int) % 9 = 0) :
    Calls Try.prog 9 #[.slice a0 len0 cap0, .int .i64 v] w (BlocksPost w) := by
  have HZ := Lib.hid hz
  have HL := Lib.hid hlen
  have HV := Lib.hid hv
  have HR := Lib.hid hr
  clear hz hlen hv hr
  go_enter Try.func9, Try.ntmps9
  go_wp2_with fail
  go_loopw [5, 6] (fun s i wr => ∃ (k : Nat) (xs : List Nat), i = .int .i64 k ∧ k ≤ 14 ∧ k ≤ len0 ∧ Hid (xs.length = k) ∧ Hid (∀ x ∈ xs, Goes x) ∧ Hid (wr.ownsRow w.heap.size 27 1 s xs.length (nums .u32 xs)) ∧ Hid (Below w.heap.size w wr)) (fun _ i _ => 14 - (intOf i).toNat)
  case atStart => exact ⟨0, [], rfl, by omega, by omega, rfl, Lib.hid (fun x h => by cases h), World.ownsRow_nil _ _ _ _, Below.refl _ _⟩
  case round =>
    obtain ⟨k, xs, rfl, hk, hkl, HXL, HX, HO, HB⟩ := hrel
    by_cases hlt : k < len0 ∧ k < 14
    · have i1 : (k : Int) < (len0 : Int) := by omega
      have i2 : (k : Int) < 14 := by omega
      obtain ⟨b, off, rfl, hbl, hc0, hzb⟩ := HZ.out k hlt.1
      have hc := (HB.out.cell (p := ⟨b, off + k, none⟩) hbl).trans hc0
      clear hc0 hbl
      have HZB := Lib.hid hzb
      clear hzb
      generalize zs.getD k 0 = z at hc HZB
      go_wp2_with (first
        | (go_at_call 35; refine (plain35_any z _ HZB.out).mono ?_; rintro e w2 ⟨⟨x, rfl, hx⟩, hb2⟩)
        | (at_builtin; refine wpList_append_nums _ rfl _ _ 23 rfl w.heap.size 27 .u32 4 Try.underlying23 info27u _ xs rfl (own_kept (own_kept HO.out hb2) ((Below.refl _ _).alloc (Nat.le_refl _) _)) _ _ _ [x] rfl (Nums.new _ .u32 _ _ [x] rfl) (Nat.le_trans (by have := HXL.out; omega : _ ≤ 100) (by decide)) (by have := HXL.out; omega) (by have := HB.out.size; have := hb2.size; simp; omega) ?_; intro v4 w4 ho4 hg4))
      have hb4 : Below w.heap.size w w4 := ((HB.out.trans (hb2.mono HB.out.size)).alloc (Nat.le_trans HB.out.size hb2.size) _).grown hg4 (by have := HB.out.size; have := hb2.size; simp; omega) (ownBlock_of_own HO.out)
      go_roundw
      case rel => exact ⟨k + 1, cat xs [x], by go_num, by omega, by omega, by refine Lib.hid ?_; rw [cat_length, HXL.out]; rfl, Lib.hid (goes_cat HX.out hx), Lib.hid ho4, Lib.hid hb4⟩
      case measure => simp [intOf]; omega
    · have HK : Hid (xs.length ≤ 14) := by refine Lib.hid ?_; rw [HXL.out]; exact hk
      obtain ⟨a, c, rfl, hN⟩ := Nums.of_own HO.out
      clear hN
      have hstop : (¬ (k : Int) < (len0 : Int)) ∨ ((k : Int) < (len0 : Int) ∧ ¬ (k : Int) < 14) := by omega
      have hr := HR.out
      rcases hstop with i1 | ⟨i1, i2⟩
      · go_wp2_with fail
        refine (place_any v 16777216 _ HV.out (by decide)).mono ?_; rintro e w1 ⟨rfl, rfl⟩; rw [hn.out]
        go_wp2_with fail
        refine (word18_leap _ _ _ _ _ _ _ (by decide) z32 z32 z32 z32 (i32 _) (leaps_J _ (by decide))).mono ?_; rintro e w2 ⟨⟨X, rfl, hX⟩, hb2⟩
        have HXX := Lib.hid hX
        have HO2 := Lib.hid (own_kept HO.out hb2)
        have HB2 := Lib.hid (HB.out.trans (hb2.mono HB.out.size))
        clear hb2 hX HO HB
        go_wp2_with (at_builtin; refine wpList_append_slice _ rfl _ _ 23 rfl w.heap.size 27 .u32 4 Try.underlying23 info27u _ xs rfl (own_kept HO2.out ((Below.refl _ _).alloc (Nat.le_refl _) _)) _ _ _ [X] rfl (Nums.new _ .u32 _ _ [X] rfl) (Nat.le_trans (by have := HK.out; omega : _ ≤ 100) (by decide)) (by have := HK.out; omega) (by have := HB2.out.size; simp; omega) ?_; intro a4 c4 w4 ho4 hn4 hg4)
        have HB4 := Lib.hid ((HB2.out.alloc HB2.out.size _).grown hg4.out (by have := HB2.out.size; simp; omega) (ownBlock_of_own HO2.out))
        have HC4 : Hid ((cat xs [X]).length ≤ 15) := by refine Lib.hid ?_; rw [cat_length]; have := HK.out; have e : [X].length = 1 := rfl; omega
        clear hn4 hg4 HO2 HB2
        refine (plain35_any _ _ (by have := hn2.out; omega)).mono ?_; rintro e w5 ⟨⟨Y, rfl, hY⟩, hb5⟩
        have HO5 := Lib.hid (own_kept ho4.out hb5)
        have HB5 := Lib.hid (HB4.out.trans (hb5.mono HB4.out.size))
        clear hb5 ho4 HB4
        go_wp2_with (at_builtin; refine wpList_append_slice _ rfl _ _ 23 rfl w.heap.size 27 .u32 4 Try.underlying23 info27u _ (cat xs [X]) rfl (own_kept HO5.out ((Below.refl _ _).alloc (Nat.le_refl _) _)) _ _ _ [Y] rfl (Nums.new _ .u32 _ _ [Y] rfl) (Nat.le_trans (by have := HC4.out; omega : _ ≤ 100) (by decide)) (by have := HC4.out; omega) (by have := HB5.out.size; simp; omega) ?_; intro a6 c6 w6 ho6 hn6 hg6)
        go_ret
        exact blocks_end rfl ho6.out HX.out HK.out HXX.out hY ((HB5.out.alloc HB5.out.size _).grown hg6.out (by have := HB5.out.size; simp; omega) (ownBlock_of_own HO5.out))
      · go_wp2_with fail
        refine (place_any v 16777216 _ HV.out (by decide)).mono ?_; rintro e w1 ⟨rfl, rfl⟩; rw [hn.out]
        go_wp2_with fail
        refine (word18_leap _ _ _ _ _ _ _ (by decide) z32 z32 z32 z32 (i32 _) (leaps_J _ (by decide))).mono ?_; rintro e w2 ⟨⟨X, rfl, hX⟩, hb2⟩
        have HXX := Lib.hid hX
        have HO2 := Lib.hid (own_kept HO.out hb2)
        have HB2 := Lib.hid (HB.out.trans (hb2.mono HB.out.size))
        clear hb2 hX HO HB
        go_wp2_with (at_builtin; refine wpList_append_slice _ rfl _ _ 23 rfl w.heap.size 27 .u32 4 Try.underlying23 info27u _ xs rfl (own_kept HO2.out ((Below.refl _ _).alloc (Nat.le_refl _) _)) _ _ _ [X] rfl (Nums.new _ .u32 _ _ [X] rfl) (Nat.le_trans (by have := HK.out; omega : _ ≤ 100) (by decide)) (by have := HK.out; omega) (by have := HB2.out.size; simp; omega) ?_; intro a4 c4 w4 ho4 hn4 hg4)
        have HB4 := Lib.hid ((HB2.out.alloc HB2.out.size _).grown hg4.out (by have := HB2.out.size; simp; omega) (ownBlock_of_own HO2.out))
        have HC4 : Hid ((cat xs [X]).length ≤ 15) := by refine Lib.hid ?_; rw [cat_length]; have := HK.out; have e : [X].length = 1 := rfl; omega
        clear hn4 hg4 HO2 HB2
        refine (plain35_any _ _ (by have := hn2.out; omega)).mono ?_; rintro e w5 ⟨⟨Y, rfl, hY⟩, hb5⟩
        have HO5 := Lib.hid (own_kept ho4.out hb5)
        have HB5 := Lib.hid (HB4.out.trans (hb5.mono HB4.out.size))
        clear hb5 ho4 HB4
        go_wp2_with (at_builtin; refine wpList_append_slice _ rfl _ _ 23 rfl w.heap.size 27 .u32 4 Try.underlying23 info27u _ (cat xs [X]) rfl (own_kept HO5.out ((Below.refl _ _).alloc (Nat.le_refl _) _)) _ _ _ [Y] rfl (Nums.new _ .u32 _ _ [Y] rfl) (Nat.le_trans (by have := HC4.out; omega : _ ≤ 100) (by decide)) (by have := HC4.out; omega) (by have := HB5.out.size; simp; omega) ?_; intro a6 c6 w6 ho6 hn6 hg6)
        go_ret
        exact blocks_end rfl ho6.out HX.out HK.out HXX.out hY ((HB5.out.alloc HB5.out.size _).grown hg6.out (by have := HB5.out.size; simp; omega) (ownBlock_of_own HO5.out))
set_option maxRecDepth 100000 in
set_option maxHeartbeats 2000000 in
theorem blocks9_1 (a0 : Option Addr) (len0 cap0 : Nat) (zs : List Int) (v : Int) (n : Nat) (w : World) (hz : IntsAt w a0 len0 zs) (hlen : len0 ≤ 9223372036854775807) (hv : -9223372036854775808 ≤ v ∧ v ≤ 9223372036854775807) (hn : Hid (v % 16777216 = (n : Int))) (hn2 : Hid (n < 16777216)) (hr : (n : Int) % 9 = 1) :
    Calls Try.prog 9 #[.slice a0 len0 cap0, .int .i64 v] w (BlocksPost w) := by
  have HZ := Lib.hid hz
  have HL := Lib.hid hlen
  have HV := Lib.hid hv
  have HR := Lib.hid hr
  clear hz hlen hv hr
  go_enter Try.func9, Try.ntmps9
  go_wp2_with fail
  go_loopw [5, 6] (fun s i wr => ∃ (k : Nat) (xs : List Nat), i = .int .i64 k ∧ k ≤ 14 ∧ k ≤ len0 ∧ Hid (xs.length = k) ∧ Hid (∀ x ∈ xs, Goes x) ∧ Hid (wr.ownsRow w.heap.size 27 1 s xs.length (nums .u32 xs)) ∧ Hid (Below w.heap.size w wr)) (fun _ i _ => 14 - (intOf i).toNat)
  case atStart => exact ⟨0, [], rfl, by omega, by omega, rfl, Lib.hid (fun x h => by cases h), World.ownsRow_nil _ _ _ _, Below.refl _ _⟩
  case round =>
    obtain ⟨k, xs, rfl, hk, hkl, HXL, HX, HO, HB⟩ := hrel
    by_cases hlt : k < len0 ∧ k < 14
    · have i1 : (k : Int) < (len0 : Int) := by omega
      have i2 : (k : Int) < 14 := by omega
      obtain ⟨b, off, rfl, hbl, hc0, hzb⟩ := HZ.out k hlt.1
      have hc := (HB.out.cell (p := ⟨b, off + k, none⟩) hbl).trans hc0
      clear hc0 hbl
      have HZB := Lib.hid hzb
      clear hzb
      generalize zs.getD k 0 = z at hc HZB
      go_wp2_with (first
        | (go_at_call 35; refine (plain35_any z _ HZB.out).mono ?_; rintro e w2 ⟨⟨x, rfl, hx⟩, hb2⟩)
        | (at_builtin; refine wpList_append_nums _ rfl _ _ 23 rfl w.heap.size 27 .u32 4 Try.underlying23 info27u _ xs rfl (own_kept (own_kept HO.out hb2) ((Below.refl _ _).alloc (Nat.le_refl _) _)) _ _ _ [x] rfl (Nums.new _ .u32 _ _ [x] rfl) (Nat.le_trans (by have := HXL.out; omega : _ ≤ 100) (by decide)) (by have := HXL.out; omega) (by have := HB.out.size; have := hb2.size; simp; omega) ?_; intro v4 w4 ho4 hg4))
      have hb4 : Below w.heap.size w w4 := ((HB.out.trans (hb2.mono HB.out.size)).alloc (Nat.le_trans HB.out.size hb2.size) _).grown hg4 (by have := HB.out.size; have := hb2.size; simp; omega) (ownBlock_of_own HO.out)
      go_roundw
      case rel => exact ⟨k + 1, cat xs [x], by go_num, by omega, by omega, by refine Lib.hid ?_; rw [cat_length, HXL.out]; rfl, Lib.hid (goes_cat HX.out hx), Lib.hid ho4, Lib.hid hb4⟩
      case measure => simp [intOf]; omega
    · have HK : Hid (xs.length ≤ 14) := by refine Lib.hid ?_; rw [HXL.out]; exact hk
      obtain ⟨a, c, rfl, hN⟩ := Nums.of_own HO.out
      clear hN
      have hstop : (¬ (k : Int) < (len0 : Int)) ∨ ((k : Int) < (len0 : Int) ∧ ¬ (k : Int) < 14) := by omega
      have hr := HR.out
      rcases hstop with i1 | ⟨i1, i2⟩
      · go_wp2_with fail
        refine (place_any v 16777216 _ HV.out (by decide)).mono ?_; rintro e w1 ⟨rfl, rfl⟩; rw [hn.out]
        go_wp2_with fail
        refine (word18_leap _ _ _ _ _ _ _ (by decide) z32 z32 z32 z32 (i32 _) (leaps_J _ (by decide))).mono ?_; rintro e w2 ⟨⟨X, rfl, hX⟩, hb2⟩
        have HXX := Lib.hid hX
        have HO2 := Lib.hid (own_kept HO.out hb2)
        have HB2 := Lib.hid (HB.out.trans (hb2.mono HB.out.size))
        clear hb2 hX HO HB
        go_wp2_with (at_builtin; refine wpList_append_slice _ rfl _ _ 23 rfl w.heap.size 27 .u32 4 Try.underlying23 info27u _ xs rfl (own_kept HO2.out ((Below.refl _ _).alloc (Nat.le_refl _) _)) _ _ _ [X] rfl (Nums.new _ .u32 _ _ [X] rfl) (Nat.le_trans (by have := HK.out; omega : _ ≤ 100) (by decide)) (by have := HK.out; omega) (by have := HB2.out.size; simp; omega) ?_; intro a4 c4 w4 ho4 hn4 hg4)
        have HB4 := Lib.hid ((HB2.out.alloc HB2.out.size _).grown hg4.out (by have := HB2.out.size; simp; omega) (ownBlock_of_own HO2.out))
        have HC4 : Hid ((cat xs [X]).length ≤ 15) := by refine Lib.hid ?_; rw [cat_length]; have := HK.out; have e : [X].length = 1 := rfl; omega
        clear hn4 hg4 HO2 HB2
        refine (plain35_any _ _ (by have := hn2.out; omega)).mono ?_; rintro e w5 ⟨⟨Y, rfl, hY⟩, hb5⟩
        have HO5 := Lib.hid (own_kept ho4.out hb5)
        have HB5 := Lib.hid (HB4.out.trans (hb5.mono HB4.out.size))
        clear hb5 ho4 HB4
        go_wp2_with (at_builtin; refine wpList_append_slice _ rfl _ _ 23 rfl w.heap.size 27 .u32 4 Try.underlying23 info27u _ (cat xs [X]) rfl (own_kept HO5.out ((Below.refl _ _).alloc (Nat.le_refl _) _)) _ _ _ [Y] rfl (Nums.new _ .u32 _ _ [Y] rfl) (Nat.le_trans (by have := HC4.out; omega : _ ≤ 100) (by decide)) (by have := HC4.out; omega) (by have := HB5.out.size; simp; omega) ?_; intro a6 c6 w6 ho6 hn6 hg6)
        go_ret
        exact blocks_end rfl ho6.out HX.out HK.out HXX.out hY ((HB5.out.alloc HB5.out.size _).grown hg6.out (by have := HB5.out.size; simp; omega) (ownBlock_of_own HO5.out))
      · go_wp2_with fail
        refine (place_any v 16777216 _ HV.out (by decide)).mono ?_; rintro e w1 ⟨rfl, rfl⟩; rw [hn.out]
        go_wp2_with fail
        refine (word18_leap _ _ _ _ _ _ _ (by decide) z32 z32 z32 z32 (i32 _) (leaps_J _ (by decide))).mono ?_; rintro e w2 ⟨⟨X, rfl, hX⟩, hb2⟩
        have HXX := Lib.hid hX
        have HO2 := Lib.hid (own_kept HO.out hb2)
        have HB2 := Lib.hid (HB.out.trans (hb2.mono HB.out.size))
        clear hb2 hX HO HB
        go_wp2_with (at_builtin; refine wpList_append_slice _ rfl _ _ 23 rfl w.heap.size 27 .u32 4 Try.underlying23 info27u _ xs rfl (own_kept HO2.out ((Below.refl _ _).alloc (Nat.le_refl _) _)) _ _ _ [X] rfl (Nums.new _ .u32 _ _ [X] rfl) (Nat.le_trans (by have := HK.out; omega : _ ≤ 100) (by decide)) (by have := HK.out; omega) (by have := HB2.out.size; simp; omega) ?_; intro a4 c4 w4 ho4 hn4 hg4)
        have HB4 := Lib.hid ((HB2.out.alloc HB2.out.size _).grown hg4.out (by have := HB2.out.size; simp; omega) (ownBlock_of_own HO2.out))
        have HC4 : Hid ((cat xs [X]).length ≤ 15) := by refine Lib.hid ?_; rw [cat_length]; have := HK.out; have e : [X].length = 1 := rfl; omega
        clear hn4 hg4 HO2 HB2
        refine (plain35_any _ _ (by have := hn2.out; omega)).mono ?_; rintro e w5 ⟨⟨Y, rfl, hY⟩, hb5⟩
        have HO5 := Lib.hid (own_kept ho4.out hb5)
        have HB5 := Lib.hid (HB4.out.trans (hb5.mono HB4.out.size))
        clear hb5 ho4 HB4
        go_wp2_with (at_builtin; refine wpList_append_slice _ rfl _ _ 23 rfl w.heap.size 27 .u32 4 Try.underlying23 info27u _ (cat xs [X]) rfl (own_kept HO5.out ((Below.refl _ _).alloc (Nat.le_refl _) _)) _ _ _ [Y] rfl (Nums.new _ .u32 _ _ [Y] rfl) (Nat.le_trans (by have := HC4.out; omega : _ ≤ 100) (by decide)) (by have := HC4.out; omega) (by have := HB5.out.size; simp; omega) ?_; intro a6 c6 w6 ho6 hn6 hg6)
        go_ret
        exact blocks_end rfl ho6.out HX.out HK.out HXX.out hY ((HB5.out.alloc HB5.out.size _).grown hg6.out (by have := HB5.out.size; simp; omega) (ownBlock_of_own HO5.out))
set_option maxRecDepth 100000 in
set_option maxHeartbeats 2000000 in
theorem blocks9_2 (a0 : Option Addr) (len0 cap0 : Nat) (zs : List Int) (v : Int) (n : Nat) (w : World) (hz : IntsAt w a0 len0 zs) (hlen : len0 ≤ 9223372036854775807) (hv : -9223372036854775808 ≤ v ∧ v ≤ 9223372036854775807) (hn : Hid (v % 16777216 = (n : Int))) (hn2 : Hid (n < 16777216)) (hr : (n : Int) % 9 = 2) :
    Calls Try.prog 9 #[.slice a0 len0 cap0, .int .i64 v] w (BlocksPost w) := by
  have HZ := Lib.hid hz
  have HL := Lib.hid hlen
  have HV := Lib.hid hv
  have HR := Lib.hid hr
  clear hz hlen hv hr
  go_enter Try.func9, Try.ntmps9
  go_wp2_with fail
  go_loopw [5, 6] (fun s i wr => ∃ (k : Nat) (xs : List Nat), i = .int .i64 k ∧ k ≤ 14 ∧ k ≤ len0 ∧ Hid (xs.length = k) ∧ Hid (∀ x ∈ xs, Goes x) ∧ Hid (wr.ownsRow w.heap.size 27 1 s xs.length (nums .u32 xs)) ∧ Hid (Below w.heap.size w wr)) (fun _ i _ => 14 - (intOf i).toNat)
  case atStart => exact ⟨0, [], rfl, by omega, by omega, rfl, Lib.hid (fun x h => by cases h), World.ownsRow_nil _ _ _ _, Below.refl _ _⟩
  case round =>
    obtain ⟨k, xs, rfl, hk, hkl, HXL, HX, HO, HB⟩ := hrel
    by_cases hlt : k < len0 ∧ k < 14
    · have i1 : (k : Int) < (len0 : Int) := by omega
      have i2 : (k : Int) < 14 := by omega
      obtain ⟨b, off, rfl, hbl, hc0, hzb⟩ := HZ.out k hlt.1
      have hc := (HB.out.cell (p := ⟨b, off + k, none⟩) hbl).trans hc0
      clear hc0 hbl
      have HZB := Lib.hid hzb
      clear hzb
      generalize zs.getD k 0 = z at hc HZB
      go_wp2_with (first
        | (go_at_call 35; refine (plain35_any z _ HZB.out).mono ?_; rintro e w2 ⟨⟨x, rfl, hx⟩, hb2⟩)
        | (at_builtin; refine wpList_append_nums _ rfl _ _ 23 rfl w.heap.size 27 .u32 4 Try.underlying23 info27u _ xs rfl (own_kept (own_kept HO.out hb2) ((Below.refl _ _).alloc (Nat.le_refl _) _)) _ _ _ [x] rfl (Nums.new _ .u32 _ _ [x] rfl) (Nat.le_trans (by have := HXL.out; omega : _ ≤ 100) (by decide)) (by have := HXL.out; omega) (by have := HB.out.size; have := hb2.size; simp; omega) ?_; intro v4 w4 ho4 hg4))
      have hb4 : Below w.heap.size w w4 := ((HB.out.trans (hb2.mono HB.out.size)).alloc (Nat.le_trans HB.out.size hb2.size) _).grown hg4 (by have := HB.out.size; have := hb2.size; simp; omega) (ownBlock_of_own HO.out)
      go_roundw
      case rel => exact ⟨k + 1, cat xs [x], by go_num, by omega, by omega, by refine Lib.hid ?_; rw [cat_length, HXL.out]; rfl, Lib.hid (goes_cat HX.out hx), Lib.hid ho4, Lib.hid hb4⟩
      case measure => simp [intOf]; omega
    · have HK : Hid (xs.length ≤ 14) := by refine Lib.hid ?_; rw [HXL.out]; exact hk
      obtain ⟨a, c, rfl, hN⟩ := Nums.of_own HO.out
      clear hN
      have hstop : (¬ (k : Int) < (len0 : Int)) ∨ ((k : Int) < (len0 : Int) ∧ ¬ (k : Int) < 14) := by omega
      have hr := HR.out
      rcases hstop with i1 | ⟨i1, i2⟩
      · go_wp2_with fail
        refine (place_any v 16777216 _ HV.out (by decide)).mono ?_; rintro e w1 ⟨rfl, rfl⟩; rw [hn.out]
        go_wp2_with fail
        refine (word18_leap _ _ _ _ _ _ _ (by decide) (m8 _) z32 z32 z32 z64 (leaps_L _ (by decide) (m8n _))).mono ?_; rintro e w2 ⟨⟨X, rfl, hX⟩, hb2⟩
        have HXX := Lib.hid hX
        have HO2 := Lib.hid (own_kept HO.out hb2)
        have HB2 := Lib.hid (HB.out.trans (hb2.mono HB.out.size))
        clear hb2 hX HO HB
        go_wp2_with (at_builtin; refine wpList_append_slice _ rfl _ _ 23 rfl w.heap.size 27 .u32 4 Try.underlying23 info27u _ xs rfl (own_kept HO2.out ((Below.refl _ _).alloc (Nat.le_refl _) _)) _ _ _ [X] rfl (Nums.new _ .u32 _ _ [X] rfl) (Nat.le_trans (by have := HK.out; omega : _ ≤ 100) (by decide)) (by have := HK.out; omega) (by have := HB2.out.size; simp; omega) ?_; intro a4 c4 w4 ho4 hn4 hg4)
        have HB4 := Lib.hid ((HB2.out.alloc HB2.out.size _).grown hg4.out (by have := HB2.out.size; simp; omega) (ownBlock_of_own HO2.out))
        have HC4 : Hid ((cat xs [X]).length ≤ 15) := by refine Lib.hid ?_; rw [cat_length]; have := HK.out; have e : [X].length = 1 := rfl; omega
        clear hn4 hg4 HO2 HB2
        refine (plain35_any _ _ (by have := hn2.out; omega)).mono ?_; rintro e w5 ⟨⟨Y, rfl, hY⟩, hb5⟩
        have HO5 := Lib.hid (own_kept ho4.out hb5)
        have HB5 := Lib.hid (HB4.out.trans (hb5.mono HB4.out.size))
        clear hb5 ho4 HB4
        go_wp2_with (at_builtin; refine wpList_append_slice _ rfl _ _ 23 rfl w.heap.size 27 .u32 4 Try.underlying23 info27u _ (cat xs [X]) rfl (own_kept HO5.out ((Below.refl _ _).alloc (Nat.le_refl _) _)) _ _ _ [Y] rfl (Nums.new _ .u32 _ _ [Y] rfl) (Nat.le_trans (by have := HC4.out; omega : _ ≤ 100) (by decide)) (by have := HC4.out; omega) (by have := HB5.out.size; simp; omega) ?_; intro a6 c6 w6 ho6 hn6 hg6)
        go_ret
        exact blocks_end rfl ho6.out HX.out HK.out HXX.out hY ((HB5.out.alloc HB5.out.size _).grown hg6.out (by have := HB5.out.size; simp; omega) (ownBlock_of_own HO5.out))
      · go_wp2_with fail
        refine (place_any v 16777216 _ HV.out (by decide)).mono ?_; rintro e w1 ⟨rfl, rfl⟩; rw [hn.out]
        go_wp2_with fail
        refine (word18_leap _ _ _ _ _ _ _ (by decide) (m8 _) z32 z32 z32 z64 (leaps_L _ (by decide) (m8n _))).mono ?_; rintro e w2 ⟨⟨X, rfl, hX⟩, hb2⟩
        have HXX := Lib.hid hX
        have HO2 := Lib.hid (own_kept HO.out hb2)
        have HB2 := Lib.hid (HB.out.trans (hb2.mono HB.out.size))
        clear hb2 hX HO HB
        go_wp2_with (at_builtin; refine wpList_append_slice _ rfl _ _ 23 rfl w.heap.size 27 .u32 4 Try.underlying23 info27u _ xs rfl (own_kept HO2.out ((Below.refl _ _).alloc (Nat.le_refl _) _)) _ _ _ [X] rfl (Nums.new _ .u32 _ _ [X] rfl) (Nat.le_trans (by have := HK.out; omega : _ ≤ 100) (by decide)) (by have := HK.out; omega) (by have := HB2.out.size; simp; omega) ?_; intro a4 c4 w4 ho4 hn4 hg4)
        have HB4 := Lib.hid ((HB2.out.alloc HB2.out.size _).grown hg4.out (by have := HB2.out.size; simp; omega) (ownBlock_of_own HO2.out))
        have HC4 : Hid ((cat xs [X]).length ≤ 15) := by refine Lib.hid ?_; rw [cat_length]; have := HK.out; have e : [X].length = 1 := rfl; omega
        clear hn4 hg4 HO2 HB2
        refine (plain35_any _ _ (by have := hn2.out; omega)).mono ?_; rintro e w5 ⟨⟨Y, rfl, hY⟩, hb5⟩
        have HO5 := Lib.hid (own_kept ho4.out hb5)
        have HB5 := Lib.hid (HB4.out.trans (hb5.mono HB4.out.size))
        clear hb5 ho4 HB4
        go_wp2_with (at_builtin; refine wpList_append_slice _ rfl _ _ 23 rfl w.heap.size 27 .u32 4 Try.underlying23 info27u _ (cat xs [X]) rfl (own_kept HO5.out ((Below.refl _ _).alloc (Nat.le_refl _) _)) _ _ _ [Y] rfl (Nums.new _ .u32 _ _ [Y] rfl) (Nat.le_trans (by have := HC4.out; omega : _ ≤ 100) (by decide)) (by have := HC4.out; omega) (by have := HB5.out.size; simp; omega) ?_; intro a6 c6 w6 ho6 hn6 hg6)
        go_ret
        exact blocks_end rfl ho6.out HX.out HK.out HXX.out hY ((HB5.out.alloc HB5.out.size _).grown hg6.out (by have := HB5.out.size; simp; omega) (ownBlock_of_own HO5.out))
set_option maxRecDepth 100000 in
set_option maxHeartbeats 2000000 in
theorem blocks9_3 (a0 : Option Addr) (len0 cap0 : Nat) (zs : List Int) (v : Int) (n : Nat) (w : World) (hz : IntsAt w a0 len0 zs) (hlen : len0 ≤ 9223372036854775807) (hv : -9223372036854775808 ≤ v ∧ v ≤ 9223372036854775807) (hn : Hid (v % 16777216 = (n : Int))) (hn2 : Hid (n < 16777216)) (hr : (n : Int) % 9 = 3) :
    Calls Try.prog 9 #[.slice a0 len0 cap0, .int .i64 v] w (BlocksPost w) := by
  have HZ := Lib.hid hz
  have HL := Lib.hid hlen
  have HV := Lib.hid hv
  have HR := Lib.hid hr
  clear hz hlen hv hr
  go_enter Try.func9, Try.ntmps9
  go_wp2_with fail
  go_loopw [5, 6] (fun s i wr => ∃ (k : Nat) (xs : List Nat), i = .int .i64 k ∧ k ≤ 14 ∧ k ≤ len0 ∧ Hid (xs.length = k) ∧ Hid (∀ x ∈ xs, Goes x) ∧ Hid (wr.ownsRow w.heap.size 27 1 s xs.length (nums .u32 xs)) ∧ Hid (Below w.heap.size w wr)) (fun _ i _ => 14 - (intOf i).toNat)
  case atStart => exact ⟨0, [], rfl, by omega, by omega, rfl, Lib.hid (fun x h => by cases h), World.ownsRow_nil _ _ _ _, Below.refl _ _⟩
  case round =>
    obtain ⟨k, xs, rfl, hk, hkl, HXL, HX, HO, HB⟩ := hrel
    by_cases hlt : k < len0 ∧ k < 14
    · have i1 : (k : Int) < (len0 : Int) := by omega
      have i2 : (k : Int) < 14 := by omega
      obtain ⟨b, off, rfl, hbl, hc0, hzb⟩ := HZ.out k hlt.1
      have hc := (HB.out.cell (p := ⟨b, off + k, none⟩) hbl).trans hc0
      clear hc0 hbl
      have HZB := Lib.hid hzb
      clear hzb
      generalize zs.getD k 0 = z at hc HZB
      go_wp2_with (first
        | (go_at_call 35; refine (plain35_any z _ HZB.out).mono ?_; rintro e w2 ⟨⟨x, rfl, hx⟩, hb2⟩)
        | (at_builtin; refine wpList_append_nums _ rfl _ _ 23 rfl w.heap.size 27 .u32 4 Try.underlying23 info27u _ xs rfl (own_kept (own_kept HO.out hb2) ((Below.refl _ _).alloc (Nat.le_refl _) _)) _ _ _ [x] rfl (Nums.new _ .u32 _ _ [x] rfl) (Nat.le_trans (by have := HXL.out; omega : _ ≤ 100) (by decide)) (by have := HXL.out; omega) (by have := HB.out.size; have := hb2.size; simp; omega) ?_; intro v4 w4 ho4 hg4))
      have hb4 : Below w.heap.size w w4 := ((HB.out.trans (hb2.mono HB.out.size)).alloc (Nat.le_trans HB.out.size hb2.size) _).grown hg4 (by have := HB.out.size; have := hb2.size; simp; omega) (ownBlock_of_own HO.out)
      go_roundw
      case rel => exact ⟨k + 1, cat xs [x], by go_num, by omega, by omega, by refine Lib.hid ?_; rw [cat_length, HXL.out]; rfl, Lib.hid (goes_cat HX.out hx), Lib.hid ho4, Lib.hid hb4⟩
      case measure => simp [intOf]; omega
    · have HK : Hid (xs.length ≤ 14) := by refine Lib.hid ?_; rw [HXL.out]; exact hk
      obtain ⟨a, c, rfl, hN⟩ := Nums.of_own HO.out
      clear hN
      have hstop : (¬ (k : Int) < (len0 : Int)) ∨ ((k : Int) < (len0 : Int) ∧ ¬ (k : Int) < 14) := by omega
      have hr := HR.out
      rcases hstop with i1 | ⟨i1, i2⟩
      · go_wp2_with fail
        refine (place_any v 16777216 _ HV.out (by decide)).mono ?_; rintro e w1 ⟨rfl, rfl⟩; rw [hn.out]
        go_wp2_with fail
        refine (word18_leap _ _ _ _ _ _ _ (by decide) (m8 _) z32 (m8 _) z32 z64 (leaps_G _ (by decide) (m8n _) (m8n _))).mono ?_; rintro e w2 ⟨⟨X, rfl, hX⟩, hb2⟩
        have HXX := Lib.hid hX
        have HO2 := Lib.hid (own_kept HO.out hb2)
        have HB2 := Lib.hid (HB.out.trans (hb2.mono HB.out.size))
        clear hb2 hX HO HB
        go_wp2_with (at_builtin; refine wpList_append_slice _ rfl _ _ 23 rfl w.heap.size 27 .u32 4 Try.underlying23 info27u _ xs rfl (own_kept HO2.out ((Below.refl _ _).alloc (Nat.le_refl _) _)) _ _ _ [X] rfl (Nums.new _ .u32 _ _ [X] rfl) (Nat.le_trans (by have := HK.out; omega : _ ≤ 100) (by decide)) (by have := HK.out; omega) (by have := HB2.out.size; simp; omega) ?_; intro a4 c4 w4 ho4 hn4 hg4)
        have HB4 := Lib.hid ((HB2.out.alloc HB2.out.size _).grown hg4.out (by have := HB2.out.size; simp; omega) (ownBlock_of_own HO2.out))
        have HC4 : Hid ((cat xs [X]).length ≤ 15) := by refine Lib.hid ?_; rw [cat_length]; have := HK.out; have e : [X].length = 1 := rfl; omega
        clear hn4 hg4 HO2 HB2
        refine (plain35_any _ _ (by have := hn2.out; omega)).mono ?_; rintro e w5 ⟨⟨Y, rfl, hY⟩, hb5⟩
        have HO5 := Lib.hid (own_kept ho4.out hb5)
        have HB5 := Lib.hid (HB4.out.trans (hb5.mono HB4.out.size))
        clear hb5 ho4 HB4
        go_wp2_with (at_builtin; refine wpList_append_slice _ rfl _ _ 23 rfl w.heap.size 27 .u32 4 Try.underlying23 info27u _ (cat xs [X]) rfl (own_kept HO5.out ((Below.refl _ _).alloc (Nat.le_refl _) _)) _ _ _ [Y] rfl (Nums.new _ .u32 _ _ [Y] rfl) (Nat.le_trans (by have := HC4.out; omega : _ ≤ 100) (by decide)) (by have := HC4.out; omega) (by have := HB5.out.size; simp; omega) ?_; intro a6 c6 w6 ho6 hn6 hg6)
        go_ret
        exact blocks_end rfl ho6.out HX.out HK.out HXX.out hY ((HB5.out.alloc HB5.out.size _).grown hg6.out (by have := HB5.out.size; simp; omega) (ownBlock_of_own HO5.out))
      · go_wp2_with fail
        refine (place_any v 16777216 _ HV.out (by decide)).mono ?_; rintro e w1 ⟨rfl, rfl⟩; rw [hn.out]
        go_wp2_with fail
        refine (word18_leap _ _ _ _ _ _ _ (by decide) (m8 _) z32 (m8 _) z32 z64 (leaps_G _ (by decide) (m8n _) (m8n _))).mono ?_; rintro e w2 ⟨⟨X, rfl, hX⟩, hb2⟩
        have HXX := Lib.hid hX
        have HO2 := Lib.hid (own_kept HO.out hb2)
        have HB2 := Lib.hid (HB.out.trans (hb2.mono HB.out.size))
        clear hb2 hX HO HB
        go_wp2_with (at_builtin; refine wpList_append_slice _ rfl _ _ 23 rfl w.heap.size 27 .u32 4 Try.underlying23 info27u _ xs rfl (own_kept HO2.out ((Below.refl _ _).alloc (Nat.le_refl _) _)) _ _ _ [X] rfl (Nums.new _ .u32 _ _ [X] rfl) (Nat.le_trans (by have := HK.out; omega : _ ≤ 100) (by decide)) (by have := HK.out; omega) (by have := HB2.out.size; simp; omega) ?_; intro a4 c4 w4 ho4 hn4 hg4)
        have HB4 := Lib.hid ((HB2.out.alloc HB2.out.size _).grown hg4.out (by have := HB2.out.size; simp; omega) (ownBlock_of_own HO2.out))
        have HC4 : Hid ((cat xs [X]).length ≤ 15) := by refine Lib.hid ?_; rw [cat_length]; have := HK.out; have e : [X].length = 1 := rfl; omega
        clear hn4 hg4 HO2 HB2
        refine (plain35_any _ _ (by have := hn2.out; omega)).mono ?_; rintro e w5 ⟨⟨Y, rfl, hY⟩, hb5⟩
        have HO5 := Lib.hid (own_kept ho4.out hb5)
        have HB5 := Lib.hid (HB4.out.trans (hb5.mono HB4.out.size))
        clear hb5 ho4 HB4
        go_wp2_with (at_builtin; refine wpList_append_slice _ rfl _ _ 23 rfl w.heap.size 27 .u32 4 Try.underlying23 info27u _ (cat xs [X]) rfl (own_kept HO5.out ((Below.refl _ _).alloc (Nat.le_refl _) _)) _ _ _ [Y] rfl (Nums.new _ .u32 _ _ [Y] rfl) (Nat.le_trans (by have := HC4.out; omega : _ ≤ 100) (by decide)) (by have := HC4.out; omega) (by have := HB5.out.size; simp; omega) ?_; intro a6 c6 w6 ho6 hn6 hg6)
        go_ret
        exact blocks_end rfl ho6.out HX.out HK.out HXX.out hY ((HB5.out.alloc HB5.out.size _).grown hg6.out (by have := HB5.out.size; simp; omega) (ownBlock_of_own HO5.out))
set_option maxRecDepth 100000 in
set_option maxHeartbeats 2000000 in
theorem blocks9_4 (a0 : Option Addr) (len0 cap0 : Nat) (zs : List Int) (v : Int) (n : Nat) (w : World) (hz : IntsAt w a0 len0 zs) (hlen : len0 ≤ 9223372036854775807) (hv : -9223372036854775808 ≤ v ∧ v ≤ 9223372036854775807) (hn : Hid (v % 16777216 = (n : Int))) (hn2 : Hid (n < 16777216)) (hr : (n : Int) % 9 = 4) :
    Calls Try.prog 9 #[.slice a0 len0 cap0, .int .i64 v] w (BlocksPost w) := by
  have HZ := Lib.hid hz
  have HL := Lib.hid hlen
  have HV := Lib.hid hv
  have HR := Lib.hid hr
  clear hz hlen hv hr
  go_enter Try.func9, Try.ntmps9
  go_wp2_with fail
  go_loopw [5, 6] (fun s i wr => ∃ (k : Nat) (xs : List Nat), i = .int .i64 k ∧ k ≤ 14 ∧ k ≤ len0 ∧ Hid (xs.length = k) ∧ Hid (∀ x ∈ xs, Goes x) ∧ Hid (wr.ownsRow w.heap.size 27 1 s xs.length (nums .u32 xs)) ∧ Hid (Below w.heap.size w wr)) (fun _ i _ => 14 - (intOf i).toNat)
  case atStart => exact ⟨0, [], rfl, by omega, by omega, rfl, Lib.hid (fun x h => by cases h), World.ownsRow_nil _ _ _ _, Below.refl _ _⟩
  case round =>
    obtain ⟨k, xs, rfl, hk, hkl, HXL, HX, HO, HB⟩ := hrel
    by_cases hlt : k < len0 ∧ k < 14
    · have i1 : (k : Int) < (len0 : Int) := by omega
      have i2 : (k : Int) < 14 := by omega
      obtain ⟨b, off, rfl, hbl, hc0, hzb⟩ := HZ.out k hlt.1
      have hc := (HB.out.cell (p := ⟨b, off + k, none⟩) hbl).trans hc0
      clear hc0 hbl
      have HZB := Lib.hid hzb
      clear hzb
      generalize zs.getD k 0 = z at hc HZB
      go_wp2_with (first
        | (go_at_call 35; refine (plain35_any z _ HZB.out).mono ?_; rintro e w2 ⟨⟨x, rfl, hx⟩, hb2⟩)
        | (at_builtin; refine wpList_append_nums _ rfl _ _ 23 rfl w.heap.size 27 .u32 4 Try.underlying23 info27u _ xs rfl (own_kept (own_kept HO.out hb2) ((Below.refl _ _).alloc (Nat.le_refl _) _)) _ _ _ [x] rfl (Nums.new _ .u32 _ _ [x] rfl) (Nat.le_trans (by have := HXL.out; omega : _ ≤ 100) (by decide)) (by have := HXL.out; omega) (by have := HB.out.size; have := hb2.size; simp; omega) ?_; intro v4 w4 ho4 hg4))
      have hb4 : Below w.heap.size w w4 := ((HB.out.trans (hb2.mono HB.out.size)).alloc (Nat.le_trans HB.out.size hb2.size) _).grown hg4 (by have := HB.out.size; have := hb2.size; simp; omega) (ownBlock_of_own HO.out)
      go_roundw
      case rel => exact ⟨k + 1, cat xs [x], by go_num, by omega, by omega, by refine Lib.hid ?_; rw [cat_length, HXL.out]; rfl, Lib.hid (goes_cat HX.out hx), Lib.hid ho4, Lib.hid hb4⟩
      case measure => simp [intOf]; omega
    · have HK : Hid (xs.length ≤ 14) := by refine Lib.hid ?_; rw [HXL.out]; exact hk
      obtain ⟨a, c, rfl, hN⟩ := Nums.of_own HO.out
      clear hN
      have hstop : (¬ (k : Int) < (len0 : Int)) ∨ ((k : Int) < (len0 : Int) ∧ ¬ (k : Int) < 14) := by omega
      have hr := HR.out
      rcases hstop with i1 | ⟨i1, i2⟩
      · go_wp2_with fail
        refine (place_any v 16777216 _ HV.out (by decide)).mono ?_; rintro e w1 ⟨rfl, rfl⟩; rw [hn.out]
        go_wp2_with fail
        refine (word18_leap _ _ _ _ _ _ _ (by decide) (m8 _) (m8 _) z32 z32 (i32 _) (leaps_B _ (by decide) (m8n _) (m8n _))).mono ?_; rintro e w2 ⟨⟨X, rfl, hX⟩, hb2⟩
        have HXX := Lib.hid hX
        have HO2 := Lib.hid (own_kept HO.out hb2)
        have HB2 := Lib.hid (HB.out.trans (hb2.mono HB.out.size))
        clear hb2 hX HO HB
        go_wp2_with (at_builtin; refine wpList_append_slice _ rfl _ _ 23 rfl w.heap.size 27 .u32 4 Try.underlying23 info27u _ xs rfl (own_kept HO2.out ((Below.refl _ _).alloc (Nat.le_refl _) _)) _ _ _ [X] rfl (Nums.new _ .u32 _ _ [X] rfl) (Nat.le_trans (by have := HK.out; omega : _ ≤ 100) (by decide)) (by have := HK.out; omega) (by have := HB2.out.size; simp; omega) ?_; intro a4 c4 w4 ho4 hn4 hg4)
        have HB4 := Lib.hid ((HB2.out.alloc HB2.out.size _).grown hg4.out (by have := HB2.out.size; simp; omega) (ownBlock_of_own HO2.out))
        have HC4 : Hid ((cat xs [X]).length ≤ 15) := by refine Lib.hid ?_; rw [cat_length]; have := HK.out; have e : [X].length = 1 := rfl; omega
        clear hn4 hg4 HO2 HB2
        refine (plain35_any _ _ (by have := hn2.out; omega)).mono ?_; rintro e w5 ⟨⟨Y, rfl, hY⟩, hb5⟩
        have HO5 := Lib.hid (own_kept ho4.out hb5)
        have HB5 := Lib.hid (HB4.out.trans (hb5.mono HB4.out.size))
        clear hb5 ho4 HB4
        go_wp2_with (at_builtin; refine wpList_append_slice _ rfl _ _ 23 rfl w.heap.size 27 .u32 4 Try.underlying23 info27u _ (cat xs [X]) rfl (own_kept HO5.out ((Below.refl _ _).alloc (Nat.le_refl _) _)) _ _ _ [Y] rfl (Nums.new _ .u32 _ _ [Y] rfl) (Nat.le_trans (by have := HC4.out; omega : _ ≤ 100) (by decide)) (by have := HC4.out; omega) (by have := HB5.out.size; simp; omega) ?_; intro a6 c6 w6 ho6 hn6 hg6)
        go_ret
        exact blocks_end rfl ho6.out HX.out HK.out HXX.out hY ((HB5.out.alloc HB5.out.size _).grown hg6.out (by have := HB5.out.size; simp; omega) (ownBlock_of_own HO5.out))
      · go_wp2_with fail
        refine (place_any v 16777216 _ HV.out (by decide)).mono ?_; rintro e w1 ⟨rfl, rfl⟩; rw [hn.out]
        go_wp2_with fail
        refine (word18_leap _ _ _ _ _ _ _ (by decide) (m8 _) (m8 _) z32 z32 (i32 _) (leaps_B _ (by decide) (m8n _) (m8n _))).mono ?_; rintro e w2 ⟨⟨X, rfl, hX⟩, hb2⟩
        have HXX := Lib.hid hX
        have HO2 := Lib.hid (own_kept HO.out hb2)
        have HB2 := Lib.hid (HB.out.trans (hb2.mono HB.out.size))
        clear hb2 hX HO HB
        go_wp2_with (at_builtin; refine wpList_append_slice _ rfl _ _ 23 rfl w.heap.size 27 .u32 4 Try.underlying23 info27u _ xs rfl (own_kept HO2.out ((Below.refl _ _).alloc (Nat.le_refl _) _)) _ _ _ [X] rfl (Nums.new _ .u32 _ _ [X] rfl) (Nat.le_trans (by have := HK.out; omega : _ ≤ 100) (by decide)) (by have := HK.out; omega) (by have := HB2.out.size; simp; omega) ?_; intro a4 c4 w4 ho4 hn4 hg4)
        have HB4 := Lib.hid ((HB2.out.alloc HB2.out.size _).grown hg4.out (by have := HB2.out.size; simp; omega) (ownBlock_of_own HO2.out))
        have HC4 : Hid ((cat xs [X]).length ≤ 15) := by refine Lib.hid ?_; rw [cat_length]; have := HK.out; have e : [X].length = 1 := rfl; omega
        clear hn4 hg4 HO2 HB2
        refine (plain35_any _ _ (by have := hn2.out; omega)).mono ?_; rintro e w5 ⟨⟨Y, rfl, hY⟩, hb5⟩
        have HO5 := Lib.hid (own_kept ho4.out hb5)
        have HB5 := Lib.hid (HB4.out.trans (hb5.mono HB4.out.size))
        clear hb5 ho4 HB4
        go_wp2_with (at_builtin; refine wpList_append_slice _ rfl _ _ 23 rfl w.heap.size 27 .u32 4 Try.underlying23 info27u _ (cat xs [X]) rfl (own_kept HO5.out ((Below.refl _ _).alloc (Nat.le_refl _) _)) _ _ _ [Y] rfl (Nums.new _ .u32 _ _ [Y] rfl) (Nat.le_trans (by have := HC4.out; omega : _ ≤ 100) (by decide)) (by have := HC4.out; omega) (by have := HB5.out.size; simp; omega) ?_; intro a6 c6 w6 ho6 hn6 hg6)
        go_ret
        exact blocks_end rfl ho6.out HX.out HK.out HXX.out hY ((HB5.out.alloc HB5.out.size _).grown hg6.out (by have := HB5.out.size; simp; omega) (ownBlock_of_own HO5.out))
set_option maxRecDepth 100000 in
set_option maxHeartbeats 2000000 in
theorem blocks9_5 (a0 : Option Addr) (len0 cap0 : Nat) (zs : List Int) (v : Int) (n : Nat) (w : World) (hz : IntsAt w a0 len0 zs) (hlen : len0 ≤ 9223372036854775807) (hv : -9223372036854775808 ≤ v ∧ v ≤ 9223372036854775807) (hn : Hid (v % 16777216 = (n : Int))) (hn2 : Hid (n < 16777216)) (hr : (n : Int) % 9 = 5) :
    Calls Try.prog 9 #[.slice a0 len0 cap0, .int .i64 v] w (BlocksPost w) := by
  have HZ := Lib.hid hz
  have HL := Lib.hid hlen
  have HV := Lib.hid hv
  have HR := Lib.hid hr
  clear hz hlen hv hr
  go_enter Try.func9, Try.ntmps9
  go_wp2_with fail
  go_loopw [5, 6] (fun s i wr => ∃ (k : Nat) (xs : List Nat), i = .int .i64 k ∧ k ≤ 14 ∧ k ≤ len0 ∧ Hid (xs.length = k) ∧ Hid (∀ x ∈ xs, Goes x) ∧ Hid (wr.ownsRow w.heap.size 27 1 s xs.length (nums .u32 xs)) ∧ Hid (Below w.heap.size w wr)) (fun _ i _ => 14 - (intOf i).toNat)
  case atStart => exact ⟨0, [], rfl, by omega, by omega, rfl, Lib.hid (fun x h => by cases h), World.ownsRow_nil _ _ _ _, Below.refl _ _⟩
  case round =>
    obtain ⟨k, xs, rfl, hk, hkl, HXL, HX, HO, HB⟩ := hrel
    by_cases hlt : k < len0 ∧ k < 14
    · have i1 : (k : Int) < (len0 : Int) := by omega
      have i2 : (k : Int) < 14 := by omega
      obtain ⟨b, off, rfl, hbl, hc0, hzb⟩ := HZ.out k hlt.1
      have hc := (HB.out.cell (p := ⟨b, off + k, none⟩) hbl).trans hc0
      clear hc0 hbl
      have HZB := Lib.hid hzb
      clear hzb
      generalize zs.getD k 0 = z at hc HZB
      go_wp2_with (first
        | (go_at_call 35; refine (plain35_any z _ HZB.out).mono ?_; rintro e w2 ⟨⟨x, rfl, hx⟩, hb2⟩)
        | (at_builtin; refine wpList_append_nums _ rfl _ _ 23 rfl w.heap.size 27 .u32 4 Try.underlying23 info27u _ xs rfl (own_kept (own_kept HO.out hb2) ((Below.refl _ _).alloc (Nat.le_refl _) _)) _ _ _ [x] rfl (Nums.new _ .u32 _ _ [x] rfl) (Nat.le_trans (by have := HXL.out; omega : _ ≤ 100) (by decide)) (by have := HXL.out; omega) (by have := HB.out.size; have := hb2.size; simp; omega) ?_; intro v4 w4 ho4 hg4))
      have hb4 : Below w.heap.size w w4 := ((HB.out.trans (hb2.mono HB.out.size)).alloc (Nat.le_trans HB.out.size hb2.size) _).grown hg4 (by have := HB.out.size; have := hb2.size; simp; omega) (ownBlock_of_own HO.out)
      go_roundw
      case rel => exact ⟨k + 1, cat xs [x], by go_num, by omega, by omega, by refine Lib.hid ?_; rw [cat_length, HXL.out]; rfl, Lib.hid (goes_cat HX.out hx), Lib.hid ho4, Lib.hid hb4⟩
      case measure => simp [intOf]; omega
    · have HK : Hid (xs.length ≤ 14) := by refine Lib.hid ?_; rw [HXL.out]; exact hk
      obtain ⟨a, c, rfl, hN⟩ := Nums.of_own HO.out
      clear hN
      have hstop : (¬ (k : Int) < (len0 : Int)) ∨ ((k : Int) < (len0 : Int) ∧ ¬ (k : Int) < 14) := by omega
      have hr := HR.out
      rcases hstop with i1 | ⟨i1, i2⟩
      · go_wp2_with fail
        refine (place_any v 16777216 _ HV.out (by decide)).mono ?_; rintro e w1 ⟨rfl, rfl⟩; rw [hn.out]
        go_wp2_with fail
        refine (word18_leap _ _ _ _ _ _ _ (by decide) (m8 _) (m8 _) z32 z32 (i32 _) (leaps_B _ (by decide) (m8n _) (m8n _))).mono ?_; rintro e w2 ⟨⟨X, rfl, hX⟩, hb2⟩
        have HXX := Lib.hid hX
        have HO2 := Lib.hid (own_kept HO.out hb2)
        have HB2 := Lib.hid (HB.out.trans (hb2.mono HB.out.size))
        clear hb2 hX HO HB
        go_wp2_with (at_builtin; refine wpList_append_slice _ rfl _ _ 23 rfl w.heap.size 27 .u32 4 Try.underlying23 info27u _ xs rfl (own_kept HO2.out ((Below.refl _ _).alloc (Nat.le_refl _) _)) _ _ _ [X] rfl (Nums.new _ .u32 _ _ [X] rfl) (Nat.le_trans (by have := HK.out; omega : _ ≤ 100) (by decide)) (by have := HK.out; omega) (by have := HB2.out.size; simp; omega) ?_; intro a4 c4 w4 ho4 hn4 hg4)
        have HB4 := Lib.hid ((HB2.out.alloc HB2.out.size _).grown hg4.out (by have := HB2.out.size; simp; omega) (ownBlock_of_own HO2.out))
        have HC4 : Hid ((cat xs [X]).length ≤ 15) := by refine Lib.hid ?_; rw [cat_length]; have := HK.out; have e : [X].length = 1 := rfl; omega
        clear hn4 hg4 HO2 HB2
        refine (plain35_any _ _ (by have := hn2.out; omega)).mono ?_; rintro e w5 ⟨⟨Y, rfl, hY⟩, hb5⟩
        have HO5 := Lib.hid (own_kept ho4.out hb5)
        have HB5 := Lib.hid (HB4.out.trans (hb5.mono HB4.out.size))
        clear hb5 ho4 HB4
        go_wp2_with (at_builtin; refine wpList_append_slice _ rfl _ _ 23 rfl w.heap.size 27 .u32 4 Try.underlying23 info27u _ (cat xs [X]) rfl (own_kept HO5.out ((Below.refl _ _).alloc (Nat.le_refl _) _)) _ _ _ [Y] rfl (Nums.new _ .u32 _ _ [Y] rfl) (Nat.le_trans (by have := HC4.out; omega : _ ≤ 100) (by decide)) (by have := HC4.out; omega) (by have := HB5.out.size; simp; omega) ?_; intro a6 c6 w6 ho6 hn6 hg6)
        go_ret
        exact blocks_end rfl ho6.out HX.out HK.out HXX.out hY ((HB5.out.alloc HB5.out.size _).grown hg6.out (by have := HB5.out.size; simp; omega) (ownBlock_of_own HO5.out))
      · go_wp2_with fail
        refine (place_any v 16777216 _ HV.out (by decide)).mono ?_; rintro e w1 ⟨rfl, rfl⟩; rw [hn.out]
        go_wp2_with fail
        refine (word18_leap _ _ _ _ _ _ _ (by decide) (m8 _) (m8 _) z32 z32 (i32 _) (leaps_B _ (by decide) (m8n _) (m8n _))).mono ?_; rintro e w2 ⟨⟨X, rfl, hX⟩, hb2⟩
        have HXX := Lib.hid hX
        have HO2 := Lib.hid (own_kept HO.out hb2)
        have HB2 := Lib.hid (HB.out.trans (hb2.mono HB.out.size))
        clear hb2 hX HO HB
        go_wp2_with (at_builtin; refine wpList_append_slice _ rfl _ _ 23 rfl w.heap.size 27 .u32 4 Try.underlying23 info27u _ xs rfl (own_kept HO2.out ((Below.refl _ _).alloc (Nat.le_refl _) _)) _ _ _ [X] rfl (Nums.new _ .u32 _ _ [X] rfl) (Nat.le_trans (by have := HK.out; omega : _ ≤ 100) (by decide)) (by have := HK.out; omega) (by have := HB2.out.size; simp; omega) ?_; intro a4 c4 w4 ho4 hn4 hg4)
        have HB4 := Lib.hid ((HB2.out.alloc HB2.out.size _).grown hg4.out (by have := HB2.out.size; simp; omega) (ownBlock_of_own HO2.out))
        have HC4 : Hid ((cat xs [X]).length ≤ 15) := by refine Lib.hid ?_; rw [cat_length]; have := HK.out; have e : [X].length = 1 := rfl; omega
        clear hn4 hg4 HO2 HB2
        refine (plain35_any _ _ (by have := hn2.out; omega)).mono ?_; rintro e w5 ⟨⟨Y, rfl, hY⟩, hb5⟩
        have HO5 := Lib.hid (own_kept ho4.out hb5)
        have HB5 := Lib.hid (HB4.out.trans (hb5.mono HB4.out.size))
        clear hb5 ho4 HB4
        go_wp2_with (at_builtin; refine wpList_append_slice _ rfl _ _ 23 rfl w.heap.size 27 .u32 4 Try.underlying23 info27u _ (cat xs [X]) rfl (own_kept HO5.out ((Below.refl _ _).alloc (Nat.le_refl _) _)) _ _ _ [Y] rfl (Nums.new _ .u32 _ _ [Y] rfl) (Nat.le_trans (by have := HC4.out; omega : _ ≤ 100) (by decide)) (by have := HC4.out; omega) (by have := HB5.out.size; simp; omega) ?_; intro a6 c6 w6 ho6 hn6 hg6)
        go_ret
        exact blocks_end rfl ho6.out HX.out HK.out HXX.out hY ((HB5.out.alloc HB5.out.size _).grown hg6.out (by have := HB5.out.size; simp; omega) (ownBlock_of_own HO5.out))
set_option maxRecDepth 100000 in
set_option maxHeartbeats 2000000 in
theorem blocks9_6 (a0 : Option Addr) (len0 cap0 : Nat) (zs : List Int) (v : Int) (n : Nat) (w : World) (hz : IntsAt w a0 len0 zs) (hlen : len0 ≤ 9223372036854775807) (hv : -9223372036854775808 ≤ v ∧ v ≤ 9223372036854775807) (hn : Hid (v % 16777216 = (n : Int))) (hn2 : Hid (n < 16777216)) (hr : (n : Int) % 9 = 6) :
    Calls Try.prog 9 #[.slice a0 len0 cap0, .int .i64 v] w (BlocksPost w) := by
  have HZ := Lib.hid hz
  have HL := Lib.hid hlen
  have HV := Lib.hid hv
  have HR := Lib.hid hr
  clear hz hlen hv hr
  go_enter Try.func9, Try.ntmps9
  go_wp2_with fail
  go_loopw [5, 6] (fun s i wr => ∃ (k : Nat) (xs : List Nat), i = .int .i64 k ∧ k ≤ 14 ∧ k ≤ len0 ∧ Hid (xs.length = k) ∧ Hid (∀ x ∈ xs, Goes x) ∧ Hid (wr.ownsRow w.heap.size 27 1 s xs.length (nums .u32 xs)) ∧ Hid (Below w.heap.size w wr)) (fun _ i _ => 14 - (intOf i).toNat)
  case atStart => exact ⟨0, [], rfl, by omega, by omega, rfl, Lib.hid (fun x h => by cases h), World.ownsRow_nil _ _ _ _, Below.refl _ _⟩
  case round =>
    obtain ⟨k, xs, rfl, hk, hkl, HXL, HX, HO, HB⟩ := hrel
    by_cases hlt : k < len0 ∧ k < 14
    · have i1 : (k : Int) < (len0 : Int) := by omega
      have i2 : (k : Int) < 14 := by omega
      obtain ⟨b, off, rfl, hbl, hc0, hzb⟩ := HZ.out k hlt.1
      have hc := (HB.out.cell (p := ⟨b, off + k, none⟩) hbl).trans hc0
      clear hc0 hbl
      have HZB := Lib.hid hzb
      clear hzb
      generalize zs.getD k 0 = z at hc HZB
      go_wp2_with (first
        | (go_at_call 35; refine (plain35_any z _ HZB.out).mono ?_; rintro e w2 ⟨⟨x, rfl, hx⟩, hb2⟩)
        | (at_builtin; refine wpList_append_nums _ rfl _ _ 23 rfl w.heap.size 27 .u32 4 Try.underlying23 info27u _ xs rfl (own_kept (own_kept HO.out hb2) ((Below.refl _ _).alloc (Nat.le_refl _) _)) _ _ _ [x] rfl (Nums.new _ .u32 _ _ [x] rfl) (Nat.le_trans (by have := HXL.out; omega : _ ≤ 100) (by decide)) (by have := HXL.out; omega) (by have := HB.out.size; have := hb2.size; simp; omega) ?_; intro v4 w4 ho4 hg4))
      have hb4 : Below w.heap.size w w4 := ((HB.out.trans (hb2.mono HB.out.size)).alloc (Nat.le_trans HB.out.size hb2.size) _).grown hg4 (by have := HB.out.size; have := hb2.size; simp; omega) (ownBlock_of_own HO.out)
      go_roundw
      case rel => exact ⟨k + 1, cat xs [x], by go_num, by omega, by omega, by refine Lib.hid ?_; rw [cat_length, HXL.out]; rfl, Lib.hid (goes_cat HX.out hx), Lib.hid ho4, Lib.hid hb4⟩
      case measure => simp [intOf]; omega
    · have HK : Hid (xs.length ≤ 14) := by refine Lib.hid ?_; rw [HXL.out]; exact hk
      obtain ⟨a, c, rfl, hN⟩ := Nums.of_own HO.out
      clear hN
      have hstop : (¬ (k : Int) < (len0 : Int)) ∨ ((k : Int) < (len0 : Int) ∧ ¬ (k : Int) < 14) := by omega
      have hr := HR.out
      rcases hstop with i1 | ⟨i1, i2⟩
      · go_wp2_with fail
        refine (place_any v 16777216 _ HV.out (by decide)).mono ?_; rintro e w1 ⟨rfl, rfl⟩; rw [hn.out]
        go_wp2_with fail
        refine (word18_leap _ _ _ _ _ _ _ (opb 62 6 _ (by decide) (by decide) (by decide)) (m8 _) z32 z32 z32 (i32 _) (leaps_62 _ ⟨(opn 62 6 _ (by decide) (by decide)).1, (opn 62 6 _ (by decide) (by decide)).2⟩ (m8n _))).mono ?_; rintro e w2 ⟨⟨X, rfl, hX⟩, hb2⟩
        have HXX := Lib.hid hX
        have HO2 := Lib.hid (own_kept HO.out hb2)
        have HB2 := Lib.hid (HB.out.trans (hb2.mono HB.out.size))
        clear hb2 hX HO HB
        go_wp2_with (at_builtin; refine wpList_append_slice _ rfl _ _ 23 rfl w.heap.size 27 .u32 4 Try.underlying23 info27u _ xs rfl (own_kept HO2.out ((Below.refl _ _).alloc (Nat.le_refl _) _)) _ _ _ [X] rfl (Nums.new _ .u32 _ _ [X] rfl) (Nat.le_trans (by have := HK.out; omega : _ ≤ 100) (by decide)) (by have := HK.out; omega) (by have := HB2.out.size; simp; omega) ?_; intro a4 c4 w4 ho4 hn4 hg4)
        have HB4 := Lib.hid ((HB2.out.alloc HB2.out.size _).grown hg4.out (by have := HB2.out.size; simp; omega) (ownBlock_of_own HO2.out))
        have HC4 : Hid ((cat xs [X]).length ≤ 15) := by refine Lib.hid ?_; rw [cat_length]; have := HK.out; have e : [X].length = 1 := rfl; omega
        clear hn4 hg4 HO2 HB2
        refine (plain35_any _ _ (by have := hn2.out; omega)).mono ?_; rintro e w5 ⟨⟨Y, rfl, hY⟩, hb5⟩
        have HO5 := Lib.hid (own_kept ho4.out hb5)
        have HB5 := Lib.hid (HB4.out.trans (hb5.mono HB4.out.size))
        clear hb5 ho4 HB4
        go_wp2_with (at_builtin; refine wpList_append_slice _ rfl _ _ 23 rfl w.heap.size 27 .u32 4 Try.underlying23 info27u _ (cat xs [X]) rfl (own_kept HO5.out ((Below.refl _ _).alloc (Nat.le_refl _) _)) _ _ _ [Y] rfl (Nums.new _ .u32 _ _ [Y] rfl) (Nat.le_trans (by have := HC4.out; omega : _ ≤ 100) (by decide)) (by have := HC4.out; omega) (by have := HB5.out.size; simp; omega) ?_; intro a6 c6 w6 ho6 hn6 hg6)
        go_ret
        exact blocks_end rfl ho6.out HX.out HK.out HXX.out hY ((HB5.out.alloc HB5.out.size _).grown hg6.out (by have := HB5.out.size; simp; omega) (ownBlock_of_own HO5.out))
      · go_wp2_with fail
        refine (place_any v 16777216 _ HV.out (by decide)).mono ?_; rintro e w1 ⟨rfl, rfl⟩; rw [hn.out]
        go_wp2_with fail
        refine (word18_leap _ _ _ _ _ _ _ (opb 62 6 _ (by decide) (by decide) (by decide)) (m8 _) z32 z32 z32 (i32 _) (leaps_62 _ ⟨(opn 62 6 _ (by decide) (by decide)).1, (opn 62 6 _ (by decide) (by decide)).2⟩ (m8n _))).mono ?_; rintro e w2 ⟨⟨X, rfl, hX⟩, hb2⟩
        have HXX := Lib.hid hX
        have HO2 := Lib.hid (own_kept HO.out hb2)
        have HB2 := Lib.hid (HB.out.trans (hb2.mono HB.out.size))
        clear hb2 hX HO HB
        go_wp2_with (at_builtin; refine wpList_append_slice _ rfl _ _ 23 rfl w.heap.size 27 .u32 4 Try.underlying23 info27u _ xs rfl (own_kept HO2.out ((Below.refl _ _).alloc (Nat.le_refl _) _)) _ _ _ [X] rfl (Nums.new _ .u32 _ _ [X] rfl) (Nat.le_trans (by have := HK.out; omega : _ ≤ 100) (by decide)) (by have := HK.out; omega) (by have := HB2.out.size; simp; omega) ?_; intro a4 c4 w4 ho4 hn4 hg4)
        have HB4 := Lib.hid ((HB2.out.alloc HB2.out.size _).grown hg4.out (by have := HB2.out.size; simp; omega) (ownBlock_of_own HO2.out))
        have HC4 : Hid ((cat xs [X]).length ≤ 15) := by refine Lib.hid ?_; rw [cat_length]; have := HK.out; have e : [X].length = 1 := rfl; omega
        clear hn4 hg4 HO2 HB2
        refine (plain35_any _ _ (by have := hn2.out; omega)).mono ?_; rintro e w5 ⟨⟨Y, rfl, hY⟩, hb5⟩
        have HO5 := Lib.hid (own_kept ho4.out hb5)
        have HB5 := Lib.hid (HB4.out.trans (hb5.mono HB4.out.size))
        clear hb5 ho4 HB4
        go_wp2_with (at_builtin; refine wpList_append_slice _ rfl _ _ 23 rfl w.heap.size 27 .u32 4 Try.underlying23 info27u _ (cat xs [X]) rfl (own_kept HO5.out ((Below.refl _ _).alloc (Nat.le_refl _) _)) _ _ _ [Y] rfl (Nums.new _ .u32 _ _ [Y] rfl) (Nat.le_trans (by have := HC4.out; omega : _ ≤ 100) (by decide)) (by have := HC4.out; omega) (by have := HB5.out.size; simp; omega) ?_; intro a6 c6 w6 ho6 hn6 hg6)
        go_ret
        exact blocks_end rfl ho6.out HX.out HK.out HXX.out hY ((HB5.out.alloc HB5.out.size _).grown hg6.out (by have := HB5.out.size; simp; omega) (ownBlock_of_own HO5.out))
set_option maxRecDepth 100000 in
set_option maxHeartbeats 2000000 in
theorem blocks9_7 (a0 : Option Addr) (len0 cap0 : Nat) (zs : List Int) (v : Int) (n : Nat) (w : World) (hz : IntsAt w a0 len0 zs) (hlen : len0 ≤ 9223372036854775807) (hv : -9223372036854775808 ≤ v ∧ v ≤ 9223372036854775807) (hn : Hid (v % 16777216 = (n : Int))) (hn2 : Hid (n < 16777216)) (hr : (n : Int) % 9 = 7) :
    Calls Try.prog 9 #[.slice a0 len0 cap0, .int .i64 v] w (BlocksPost w) := by
  have HZ := Lib.hid hz
  have HL := Lib.hid hlen
  have HV := Lib.hid hv
  have HR := Lib.hid hr
  clear hz hlen hv hr
  go_enter Try.func9, Try.ntmps9
  go_wp2_with fail
  go_loopw [5, 6] (fun s i wr => ∃ (k : Nat) (xs : List Nat), i = .int .i64 k ∧ k ≤ 14 ∧ k ≤ len0 ∧ Hid (xs.length = k) ∧ Hid (∀ x ∈ xs, Goes x) ∧ Hid (wr.ownsRow w.heap.size 27 1 s xs.length (nums .u32 xs)) ∧ Hid (Below w.heap.size w wr)) (fun _ i _ => 14 - (intOf i).toNat)
  case atStart => exact ⟨0, [], rfl, by omega, by omega, rfl, Lib.hid (fun x h => by cases h), World.ownsRow_nil _ _ _ _, Below.refl _ _⟩
  case round =>
    obtain ⟨k, xs, rfl, hk, hkl, HXL, HX, HO, HB⟩ := hrel
    by_cases hlt : k < len0 ∧ k < 14
    · have i1 : (k : Int) < (len0 : Int) := by omega
      have i2 : (k : Int) < 14 := by omega
      obtain ⟨b, off, rfl, hbl, hc0, hzb⟩ := HZ.out k hlt.1
      have hc := (HB.out.cell (p := ⟨b, off + k, none⟩) hbl).trans hc0
      clear hc0 hbl
      have HZB := Lib.hid hzb
      clear hzb
      generalize zs.getD k 0 = z at hc HZB
      go_wp2_with (first
        | (go_at_call 35; refine (plain35_any z _ HZB.out).mono ?_; rintro e w2 ⟨⟨x, rfl, hx⟩, hb2⟩)
        | (at_builtin; refine wpList_append_nums _ rfl _ _ 23 rfl w.heap.size 27 .u32 4 Try.underlying23 info27u _ xs rfl (own_kept (own_kept HO.out hb2) ((Below.refl _ _).alloc (Nat.le_refl _) _)) _ _ _ [x] rfl (Nums.new _ .u32 _ _ [x] rfl) (Nat.le_trans (by have := HXL.out; omega : _ ≤ 100) (by decide)) (by have := HXL.out; omega) (by have := HB.out.size; have := hb2.size; simp; omega) ?_; intro v4 w4 ho4 hg4))
      have hb4 : Below w.heap.size w w4 := ((HB.out.trans (hb2.mono HB.out.size)).alloc (Nat.le_trans HB.out.size hb2.size) _).grown hg4 (by have := HB.out.size; have := hb2.size; simp; omega) (ownBlock_of_own HO.out)
      go_roundw
      case rel => exact ⟨k + 1, cat xs [x], by go_num, by omega, by omega, by refine Lib.hid ?_; rw [cat_length, HXL.out]; rfl, Lib.hid (goes_cat HX.out hx), Lib.hid ho4, Lib.hid hb4⟩
      case measure => simp [intOf]; omega
    · have HK : Hid (xs.length ≤ 14) := by refine Lib.hid ?_; rw [HXL.out]; exact hk
      obtain ⟨a, c, rfl, hN⟩ := Nums.of_own HO.out
      clear hN
      have hstop : (¬ (k : Int) < (len0 : Int)) ∨ ((k : Int) < (len0 : Int) ∧ ¬ (k : Int) < 14) := by omega
      have hr := HR.out
      rcases hstop with i1 | ⟨i1, i2⟩
      · go_wp2_with fail
        refine (place_any v 16777216 _ HV.out (by decide)).mono ?_; rintro e w1 ⟨rfl, rfl⟩; rw [hn.out]
        go_wp2_with fail
        refine (word18_leap _ _ _ _ _ _ _ (opb 62 6 _ (by decide) (by decide) (by decide)) (m8 _) z32 z32 z32 (i32 _) (leaps_62 _ ⟨(opn 62 6 _ (by decide) (by decide)).1, (opn 62 6 _ (by decide) (by decide)).2⟩ (m8n _))).mono ?_; rintro e w2 ⟨⟨X, rfl, hX⟩, hb2⟩
        have HXX := Lib.hid hX
        have HO2 := Lib.hid (own_kept HO.out hb2)
        have HB2 := Lib.hid (HB.out.trans (hb2.mono HB.out.size))
        clear hb2 hX HO HB
        go_wp2_with (at_builtin; refine wpList_append_slice _ rfl _ _ 23 rfl w.heap.size 27 .u32 4 Try.underlying23 info27u _ xs rfl (own_kept HO2.out ((Below.refl _ _).alloc (Nat.le_refl _) _)) _ _ _ [X] rfl (Nums.new _ .u32 _ _ [X] rfl) (Nat.le_trans (by have := HK.out; omega : _ ≤ 100) (by decide)) (by have := HK.out; omega) (by have := HB2.out.size; simp; omega) ?_; intro a4 c4 w4 ho4 hn4 hg4)
        have HB4 := Lib.hid ((HB2.out.alloc HB2.out.size _).grown hg4.out (by have := HB2.out.size; simp; omega) (ownBlock_of_own HO2.out))
        have HC4 : Hid ((cat xs [X]).length ≤ 15) := by refine Lib.hid ?_; rw [cat_length]; have := HK.out; have e : [X].length = 1 := rfl; omega
        clear hn4 hg4 HO2 HB2
        refine (plain35_any _ _ (by have := hn2.out; omega)).mono ?_; rintro e w5 ⟨⟨Y, rfl, hY⟩, hb5⟩
        have HO5 := Lib.hid (own_kept ho4.out hb5)
        have HB5 := Lib.hid (HB4.out.trans (hb5.mono HB4.out.size))
        clear hb5 ho4 HB4
        go_wp2_with (at_builtin; refine wpList_append_slice _ rfl _ _ 23 rfl w.heap.size 27 .u32 4 Try.underlying23 info27u _ (cat xs [X]) rfl (own_kept HO5.out ((Below.refl _ _).alloc (Nat.le_refl _) _)) _ _ _ [Y] rfl (Nums.new _ .u32 _ _ [Y] rfl) (Nat.le_trans (by have := HC4.out; omega : _ ≤ 100) (by decide)) (by have := HC4.out; omega) (by have := HB5.out.size; simp; omega) ?_; intro a6 c6 w6 ho6 hn6 hg6)
        go_ret
        exact blocks_end rfl ho6.out HX.out HK.out HXX.out hY ((HB5.out.alloc HB5.out.size _).grown hg6.out (by have := HB5.out.size; simp; omega) (ownBlock_of_own HO5.out))
      · go_wp2_with fail
        refine (place_any v 16777216 _ HV.out (by decide)).mono ?_; rintro e w1 ⟨rfl, rfl⟩; rw [hn.out]
        go_wp2_with fail
        refine (word18_leap _ _ _ _ _ _ _ (opb 62 6 _ (by decide) (by decide) (by decide)) (m8 _) z32 z32 z32 (i32 _) (leaps_62 _ ⟨(opn 62 6 _ (by decide) (by decide)).1, (opn 62 6 _ (by decide) (by decide)).2⟩ (m8n _))).mono ?_; rintro e w2 ⟨⟨X, rfl, hX⟩, hb2⟩
        have HXX := Lib.hid hX
        have HO2 := Lib.hid (own_kept HO.out hb2)
        have HB2 := Lib.hid (HB.out.trans (hb2.mono HB.out.size))
        clear hb2 hX HO HB
        go_wp2_with (at_builtin; refine wpList_append_slice _ rfl _ _ 23 rfl w.heap.size 27 .u32 4 Try.underlying23 info27u _ xs rfl (own_kept HO2.out ((Below.refl _ _).alloc (Nat.le_refl _) _)) _ _ _ [X] rfl (Nums.new _ .u32 _ _ [X] rfl) (Nat.le_trans (by have := HK.out; omega : _ ≤ 100) (by decide)) (by have := HK.out; omega) (by have := HB2.out.size; simp; omega) ?_; intro a4 c4 w4 ho4 hn4 hg4)
        have HB4 := Lib.hid ((HB2.out.alloc HB2.out.size _).grown hg4.out (by have := HB2.out.size; simp; omega) (ownBlock_of_own HO2.out))
        have HC4 : Hid ((cat xs [X]).length ≤ 15) := by refine Lib.hid ?_; rw [cat_length]; have := HK.out; have e : [X].length = 1 := rfl; omega
        clear hn4 hg4 HO2 HB2
        refine (plain35_any _ _ (by have := hn2.out; omega)).mono ?_; rintro e w5 ⟨⟨Y, rfl, hY⟩, hb5⟩
        have HO5 := Lib.hid (own_kept ho4.out hb5)
        have HB5 := Lib.hid (HB4.out.trans (hb5.mono HB4.out.size))
        clear hb5 ho4 HB4
        go_wp2_with (at_builtin; refine wpList_append_slice _ rfl _ _ 23 rfl w.heap.size 27 .u32 4 Try.underlying23 info27u _ (cat xs [X]) rfl (own_kept HO5.out ((Below.refl _ _).alloc (Nat.le_refl _) _)) _ _ _ [Y] rfl (Nums.new _ .u32 _ _ [Y] rfl) (Nat.le_trans (by have := HC4.out; omega : _ ≤ 100) (by decide)) (by have := HC4.out; omega) (by have := HB5.out.size; simp; omega) ?_; intro a6 c6 w6 ho6 hn6 hg6)
        go_ret
        exact blocks_end rfl ho6.out HX.out HK.out HXX.out hY ((HB5.out.alloc HB5.out.size _).grown hg6.out (by have := HB5.out.size; simp; omega) (ownBlock_of_own HO5.out))
set_option maxRecDepth 100000 in
set_option maxHeartbeats 2000000 in
theorem blocks9_8 (a0 : Option Addr) (len0 cap0 : Nat) (zs : List Int) (v : Int) (n : Nat) (w : World) (hz : IntsAt w a0 len0 zs) (hlen : len0 ≤ 9223372036854775807) (hv : -9223372036854775808 ≤ v ∧ v ≤ 9223372036854775807) (hn : Hid (v % 16777216 = (n : Int))) (hn2 : Hid (n < 16777216)) (hr : (n : Int) % 9 = 8) :
    Calls Try.prog 9 #[.slice a0 len0 cap0, .int .i64 v] w (BlocksPost w) := by
  have HZ := Lib.hid hz
  have HL := Lib.hid hlen
  have HV := Lib.hid hv
  have HR := Lib.hid hr
  clear hz hlen hv hr
  go_enter Try.func9, Try.ntmps9
  go_wp2_with fail
  go_loopw [5, 6] (fun s i wr => ∃ (k : Nat) (xs : List Nat), i = .int .i64 k ∧ k ≤ 14 ∧ k ≤ len0 ∧ Hid (xs.length = k) ∧ Hid (∀ x ∈ xs, Goes x) ∧ Hid (wr.ownsRow w.heap.size 27 1 s xs.length (nums .u32 xs)) ∧ Hid (Below w.heap.size w wr)) (fun _ i _ => 14 - (intOf i).toNat)
  case atStart => exact ⟨0, [], rfl, by omega, by omega, rfl, Lib.hid (fun x h => by cases h), World.ownsRow_nil _ _ _ _, Below.refl _ _⟩
  case round =>
    obtain ⟨k, xs, rfl, hk, hkl, HXL, HX, HO, HB⟩ := hrel
    by_cases hlt : k < len0 ∧ k < 14
    · have i1 : (k : Int) < (len0 : Int) := by omega
      have i2 : (k : Int) < 14 := by omega
      obtain ⟨b, off, rfl, hbl, hc0, hzb⟩ := HZ.out k hlt.1
      have hc := (HB.out.cell (p := ⟨b, off + k, none⟩) hbl).trans hc0
      clear hc0 hbl
      have HZB := Lib.hid hzb
      clear hzb
      generalize zs.getD k 0 = z at hc HZB
      go_wp2_with (first
        | (go_at_call 35; refine (plain35_any z _ HZB.out).mono ?_; rintro e w2 ⟨⟨x, rfl, hx⟩, hb2⟩)
        | (at_builtin; refine wpList_append_nums _ rfl _ _ 23 rfl w.heap.size 27 .u32 4 Try.underlying23 info27u _ xs rfl (own_kept (own_kept HO.out hb2) ((Below.refl _ _).alloc (Nat.le_refl _) _)) _ _ _ [x] rfl (Nums.new _ .u32 _ _ [x] rfl) (Nat.le_trans (by have := HXL.out; omega : _ ≤ 100) (by decide)) (by have := HXL.out; omega) (by have := HB.out.size; have := hb2.size; simp; omega) ?_; intro v4 w4 ho4 hg4))
      have hb4 : Below w.heap.size w w4 := ((HB.out.trans (hb2.mono HB.out.size)).alloc (Nat.le_trans HB.out.size hb2.size) _).grown hg4 (by have := HB.out.size; have := hb2.size; simp; omega) (ownBlock_of_own HO.out)
      go_roundw
      case rel => exact ⟨k + 1, cat xs [x], by go_num, by omega, by omega, by refine Lib.hid ?_; rw [cat_length, HXL.out]; rfl, Lib.hid (goes_cat HX.out hx), Lib.hid ho4, Lib.hid hb4⟩
      case measure => simp [intOf]; omega
    · have HK : Hid (xs.length ≤ 14) := by refine Lib.hid ?_; rw [HXL.out]; exact hk
      obtain ⟨a, c, rfl, hN⟩ := Nums.of_own HO.out
      clear hN
      have hstop : (¬ (k : Int) < (len0 : Int)) ∨ ((k : Int) < (len0 : Int) ∧ ¬ (k : Int) < 14) := by omega
      have hr := HR.out
      rcases hstop with i1 | ⟨i1, i2⟩
      · go_wp2_with fail
        refine (place_any v 16777216 _ HV.out (by decide)).mono ?_; rintro e w1 ⟨rfl, rfl⟩; rw [hn.out]
        by_cases h0 : xs.length = 0
        · have h02 : (xs.length : Int) = 0 := by omega
          obtain rfl := List.eq_nil_of_length_eq_zero h0
          go_wp2_with (at_builtin; refine wpList_append_slice _ rfl _ _ 23 rfl w.heap.size 27 .u32 4 Try.underlying23 info27u _ [] rfl (own_kept HO.out ((Below.refl _ _).alloc (Nat.le_refl _) _)) _ _ _ [0] rfl (Nums.new _ .u32 _ _ [0] rfl) (by decide) (by decide) (by have := HB.out.size; simp; omega) ?_; intro a6 c6 w6 ho6 hn6 hg6)
          go_ret
          exact ⟨_, _, _, [0], rfl, ho6.out, .inl ⟨fun x hx => by rw [List.mem_singleton] at hx; rw [hx]; exact goes_zero, by decide, by decide⟩, (HB.out.alloc HB.out.size _).grown hg6.out (by have := HB.out.size; simp; omega) (ownBlock_of_own HO.out)⟩
        · have h02 : ¬ (xs.length : Int) = 0 := by omega
          go_wp2_with fail
          go_ret
          exact ⟨_, _, _, xs, rfl, HO.out, .inl ⟨HX.out, by omega, HK.out⟩, HB.out⟩
      · go_wp2_with fail
        refine (place_any v 16777216 _ HV.out (by decide)).mono ?_; rintro e w1 ⟨rfl, rfl⟩; rw [hn.out]
        by_cases h0 : xs.length = 0
        · have h02 : (xs.length : Int) = 0 := by omega
          obtain rfl := List.eq_nil_of_length_eq_zero h0
          go_wp2_with (at_builtin; refine wpList_append_slice _ rfl _ _ 23 rfl w.heap.size 27 .u32 4 Try.underlying23 info27u _ [] rfl (own_kept HO.out ((Below.refl _ _).alloc (Nat.le_refl _) _)) _ _ _ [0] rfl (Nums.new _ .u32 _ _ [0] rfl) (by decide) (by decide) (by have := HB.out.size; simp; omega) ?_; intro a6 c6 w6 ho6 hn6 hg6)
          go_ret
          exact ⟨_, _, _, [0], rfl, ho6.out, .inl ⟨fun x hx => by rw [List.mem_singleton] at hx; rw [hx]; exact goes_zero, by decide, by decide⟩, (HB.out.alloc HB.out.size _).grown hg6.out (by have := HB.out.size; simp; omega) (ownBlock_of_own HO.out)⟩
        · have h02 : ¬ (xs.length : Int) = 0 := by omega
          go_wp2_with fail
          go_ret
          exact ⟨_, _, _, xs, rfl, HO.out, .inl ⟨HX.out, by omega, HK.out⟩, HB.out⟩
/-- 'calquelaw00.Blocks'. -/
theorem blocks9_any (a0 : Option Addr) (len0 cap0 : Nat) (zs : List Int) (v : Int) (w : World) (hz : IntsAt w a0 len0 zs) (hlen : len0 ≤ 9223372036854775807) (hv : -9223372036854775808 ≤ v ∧ v ≤ 9223372036854775807) :
    Calls Try.prog 9 #[.slice a0 len0 cap0, .int .i64 v] w (BlocksPost w) := by
  obtain ⟨n, hn, hn2⟩ : ∃ n : Nat, v % 16777216 = (n : Int) ∧ n < 16777216 := ⟨(v % 16777216).toNat, by omega, by omega⟩
  have h : n % 9 = 0 ∨ n % 9 = 1 ∨ n % 9 = 2 ∨ n % 9 = 3 ∨ n % 9 = 4 ∨ n % 9 = 5 ∨ n % 9 = 6 ∨ n % 9 = 7 ∨ n % 9 = 8 := by omega
  rcases h with h | h | h | h | h | h | h | h | h
  · exact blocks9_0 a0 len0 cap0 zs v n w hz hlen hv hn hn2 (by omega)
  · exact blocks9_1 a0 len0 cap0 zs v n w hz hlen hv hn hn2 (by omega)
  · exact blocks9_2 a0 len0 cap0 zs v n w hz hlen hv hn hn2 (by omega)
  · exact blocks9_3 a0 len0 cap0 zs v n w hz hlen hv hn hn2 (by omega)
  · exact blocks9_4 a0 len0 cap0 zs v n w hz hlen hv hn hn2 (by omega)
  · exact blocks9_5 a0 len0 cap0 zs v n w hz hlen hv hn hn2 (by omega)
  · exact blocks9_6 a0 len0 cap0 zs v n w hz hlen hv hn hn2 (by omega)
  · exact blocks9_7 a0 len0 cap0 zs v n w hz hlen hv hn hn2 (by omega)
  · exact blocks9_8 a0 len0 cap0 zs v n w hz hlen hv hn hn2 (by omega)
end Go.Proofs.Ytjoaenfibkgplaa
