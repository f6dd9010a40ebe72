import Derived.Test.YtjoaenfibkgplaaB5
namespace Go.Proofs.Ytjoaenfibkgplaa
set_option linter.unusedSimpArgs false
open Go.RowKit Go.Cq
set_option linter.unusedVariables false

theorem tmod_neg (v n : Int) (hn : 1 ≤ n) (h : v.tmod n < 0) : v.tmod n + n = v % n := by
  have h1 := Int.tmod_eq_emod (a := v) (b := n)
  have h2 := Int.emod_nonneg v (show n ≠ 0 by omega)
  have h3 := Int.emod_lt_of_pos v (show 0 < n by omega)
  split at h1 <;> omega
theorem tmod_pos (v n : Int) (hn : 1 ≤ n) (h : 0 ≤ v.tmod n) : v.tmod n = v % n := by
  have h1 := Int.tmod_eq_emod (a := v) (b := n)
  have h2 := Int.emod_nonneg v (show n ≠ 0 by omega)
  have h3 := Int.emod_lt_of_pos v (show 0 < n by omega)
  split at h1 <;> omega
theorem ret_i64 {a b : Int} (h : a = b) : Ending.returned (.int .i64 a) = .returned (.int .i64 b) := by rw [h]

/-- 'calquelaw00.Place'. -/
theorem place_any (v n : Int) (w : World) (hv : -9223372036854775808 ≤ v ∧ v ≤ 9223372036854775807) (hn : 1 ≤ n ∧ n ≤ 9223372036854775807) :
    Calls Try.prog 12 #[.int .i64 v, .int .i64 n] w fun e w' => e = .returned (.int .i64 (v % n)) ∧ w = w' := by
  go_enter Try.func12, Try.ntmps12
  go_wp2
  · have h := tmod_neg v n hn.1 ‹_›
    have h3 := Int.emod_lt_of_pos v (show 0 < n by omega)
    have h2 := Int.emod_nonneg v (show n ≠ 0 by omega)
    go_ret
    exact ⟨ret_i64 (by rw [h]; exact IntWalk.wrap64_in _ (by omega)), rfl⟩
  · have h := tmod_pos v n hn.1 ‹_›
    go_ret
    exact ⟨ret_i64 h, rfl⟩


theorem take_succ_eq {xs ys : List Nat} {k : Nat} (h : xs.take k = ys.take k) (h1 : k < xs.length) (h2 : k < ys.length) (e : xs.getD k 0 = ys.getD k 0) : xs.take (k + 1) = ys.take (k + 1) := by
  rw [List.take_add_one, List.take_add_one, h]
  congr 1
  simp only [List.getD, List.getElem?_eq_getElem h1, List.getElem?_eq_getElem h2, Option.getD_some] at e ⊢
  rw [e]
/-- 'calquelaw00.SameWords'. -/
theorem same_any {a b : Option Addr} {la lb ca cb : Nat} {xs ys : List Nat} (w : World) (h1 : Nums w .u32 a la ca xs) (h2 : Nums w .u32 b lb cb ys) (hl : la ≤ 4294967296) :
    Calls Try.prog 16 #[.slice a la ca, .slice b lb cb] w fun e w' => e = .returned (.bool (decide (xs = ys))) ∧ ∃ n, w' = w.drewN n := by
  have H1 := Lib.hid h1
  have H2 := Lib.hid h2
  clear h1 h2
  by_cases he : la = lb
  · subst he
    go_enter Try.func16, Try.ntmps16
    go_wp2
    go_loopw [5] (fun i wr => ∃ k : Nat, k ≤ la ∧ i = .int .i64 (k : Int) ∧ xs.take k = ys.take k ∧ ∃ n, wr = w.drewN n) (fun i _ => la - (intOf i).toNat)
    case atStart => exact ⟨0, by omega, rfl, rfl, 0, rfl⟩
    case round =>
      obtain ⟨k, hk, rfl, ht, n, rfl⟩ := hrel
      have HT := Lib.hid ht
      clear ht
      by_cases hlt : k < la
      · obtain ⟨b1, o1, rfl, -, c1⟩ := H1.out.2.2.2 k hlt
        obtain ⟨b2, o2, rfl, -, c2⟩ := H2.out.2.2.2 k hlt
        have hx1 : xs.length = la := H1.out.1
        have hx2 : ys.length = la := H2.out.1
        have HL := Lib.hid (And.intro hx1 hx2)
        clear hx1 hx2
        generalize hu : xs.getD k 0 = u at c1
        generalize hv : ys.getD k 0 = v at c2
        have HU := Lib.hid hu
        have HV := Lib.hid hv
        clear hu hv
        by_cases huv : u = v
        · subst huv
          go_wp2
          go_quiet (fail)
          go_wp2
          go_roundw
          case rel => exact ⟨k + 1, by omega, by go_num, take_succ_eq HT.out (by rw [HL.out.1]; exact hlt) (by rw [HL.out.2]; exact hlt) (by rw [HU.out, HV.out]), _, rfl⟩
          case measure => simp [intOf]; omega
        · have hne : ((u : Int) == (v : Int)) = false := by simp; omega
          have hne2 : ¬ ((u : Int) = (v : Int)) := by omega
          go_wp2
          go_quiet (fail)
          go_wp2
          go_ret
          exact ⟨by rw [decide_eq_false (fun e => huv (by rw [← HU.out, ← HV.out, e]))]; rfl, _, World.drewN_drewN _ _ _⟩
      · obtain rfl : k = la := by omega
        have hd : xs = ys := by
          have h1 := H1.out.1
          have h2 := H2.out.1
          have h3 := HT.out
          rwa [List.take_of_length_le (by omega), List.take_of_length_le (by omega)] at h3
        go_wp2
        go_ret
        exact ⟨by rw [decide_eq_true hd]; rfl, _, rfl⟩
  · have hne : ¬ ((la : Int) = (lb : Int)) := by omega
    have hd : xs ≠ ys := fun e => he (by rw [← H1.out.1, ← H2.out.1, e])
    go_enter Try.func16, Try.ntmps16
    go_wp2
    go_ret
    exact ⟨by rw [decide_eq_false hd]; rfl, 0, rfl⟩
end Go.Proofs.Ytjoaenfibkgplaa

namespace Go.Proofs.Ytjoaenfibkgplaa
set_option linter.unusedSimpArgs false
open Go.RowKit Go.Cq
set_option linter.unusedVariables false

/-- May a word stand at a place of a block? -/
def okAt (xs : List Nat) (i : Nat) : Bool := plainW (xs.getD i 0) || (decide (i + 2 = xs.length) && jumpsW (xs.getD i 0))
def rightN (xs : List Nat) : Bool := decide (0 < xs.length) && decide (xs.length ≤ 16) && (List.range xs.length).all (okAt xs)

set_option maxHeartbeats 1000000 in
/-- 'block.Right'. -/
theorem right_any {a : Option Addr} {la ca : Nat} {xs : List Nat} (w : World) (h1 : Nums w .u32 a la ca xs) (hx : ∀ x ∈ xs, x < 4294967296) (hl : la ≤ 4294967296) :
    Calls Try.prog 14 #[.slice a la ca] w fun e w' => e = .returned (.bool (rightN xs)) ∧ Below w.heap.size w w' := by
  have H1 := Lib.hid h1
  have HX := Lib.hid hx
  clear h1 hx
  by_cases hs : 1 ≤ la ∧ la ≤ 16
  · have g1 : ¬ ((la : Int) < 1) := by omega
    have g2 : ¬ ((16 : Int) < (la : Int)) := by omega
    go_enter Try.func14, Try.ntmps14
    go_wp2
    go_loopw [3, 4, 15] (fun _ _ i wr => ∃ k : Nat, k ≤ la ∧ i = .int .i64 (k : Int) ∧ (∀ i, i < k → okAt xs i = true) ∧ Below w.heap.size w wr) (fun _ _ i _ => la - (intOf i).toNat)
    case atStart => exact ⟨0, by omega, rfl, fun _ h => absurd h (Nat.not_lt_zero _), Below.refl _ _⟩
    case round =>
      obtain ⟨k, hk, rfl, ht, hb⟩ := hrel
      have HT := Lib.hid ht
      have HB := Lib.hid hb
      by_cases hlt : k < la
      · obtain ⟨b1, o1, rfl, -, c1⟩ := (H1.out.kept hb).2.2.2 k hlt
        clear ht hb
        have HLN : Hid (xs.length = la) := H1.out.1
        have HU2 : Hid (xs.getD k 0 < 4294967296) := HX.out _ (getD_mem _ _ (by rw [H1.out.1]; exact hlt))
        have HOK : Hid (okAt xs k = (plainW (xs.getD k 0) || (decide (k + 2 = xs.length) && jumpsW (xs.getD k 0)))) := rfl
        generalize xs.getD k 0 = u at c1 HU2 HOK
        have hcont : okAt xs k = true → Hid (∀ i, i < k + 1 → okAt xs i = true) := fun ho => Lib.hid fun i hi => by
          rcases Nat.lt_succ_iff_lt_or_eq.1 hi with h | rfl
          · exact HT.out i h
          · exact ho
        have HC := Lib.hid hcont
        clear hcont
        have hstop : okAt xs k = false → rightN xs = false := fun ho => by
          unfold rightN
          rw [Bool.and_eq_false_iff]; right
          rw [List.all_eq_false]
          exact ⟨k, List.mem_range.2 (by rw [HLN.out]; exact hlt), by rw [ho]; simp⟩
        have HS := Lib.hid hstop
        clear hstop
        cases hpw : plainW u with
        | true =>
          have HPW := Lib.hid hpw
          clear hpw
          go_wp2_with (go_at_call 42; refine (plainw_any u _ HU2.out).mono ?_; rintro e w1 ⟨rfl, hb1⟩; rw [HPW.out]; have HB1 := Lib.hid (HB.out.trans (hb1.mono HB.out.size)); clear hb1)
          go_roundw
          case rel => exact ⟨k + 1, by omega, by go_num, (HC.out (by rw [HOK.out, HPW.out]; rfl)).out, HB1.out⟩
          case measure => simp [intOf]; omega
        | false =>
          have HPW := Lib.hid hpw
          clear hpw
          by_cases hk2 : k + 2 = la
          · have hk3 : (la : Int) - 2 = (k : Int) := by omega
            have hk4 : wrap64 ((la : Int) - 2) = (k : Int) := by rw [IntWalk.wrap64_in _ ⟨by omega, by omega⟩]; omega
            clear hk2
            have HK2 : Hid (k + 2 = la) := by refine Lib.hid ?_; omega
            cases hjw : jumpsW u with
            | true =>
              have HJW := Lib.hid hjw
              clear hjw
              go_wp2_with (first
                | (go_at_call 42; refine (plainw_any u _ HU2.out).mono ?_; rintro e w1 ⟨rfl, hb1⟩; rw [HPW.out]; have HB1 := Lib.hid (HB.out.trans (hb1.mono HB.out.size)); clear hb1)
                | (go_at_call 43; refine (jumpsw_any u _ HU2.out).mono ?_; rintro e w2 ⟨rfl, hb2⟩; rw [HJW.out]; have HB2 := Lib.hid (HB1.out.trans (hb2.mono HB1.out.size)); clear hb2))
              go_roundw
              case rel => exact ⟨k + 1, by omega, by go_num, (HC.out (by rw [HOK.out, HPW.out, HJW.out, HLN.out, decide_eq_true HK2.out]; rfl)).out, HB2.out⟩
              case measure => simp [intOf]; omega
            | false =>
              have HJW := Lib.hid hjw
              clear hjw
              go_wp2_with (first
                | (go_at_call 42; refine (plainw_any u _ HU2.out).mono ?_; rintro e w1 ⟨rfl, hb1⟩; rw [HPW.out]; have HB1 := Lib.hid (HB.out.trans (hb1.mono HB.out.size)); clear hb1)
                | (go_at_call 43; refine (jumpsw_any u _ HU2.out).mono ?_; rintro e w2 ⟨rfl, hb2⟩; rw [HJW.out]; have HB2 := Lib.hid (HB1.out.trans (hb2.mono HB1.out.size)); clear hb2))
              go_ret
              exact ⟨by rw [HS.out (by rw [HOK.out, HPW.out, HJW.out]; simp)]; rfl, HB2.out⟩
          · have hk3 : ¬ (k : Int) = (la : Int) - 2 := by omega
            go_wp2_with (go_at_call 42; refine (plainw_any u _ HU2.out).mono ?_; rintro e w1 ⟨rfl, hb1⟩; rw [HPW.out]; have HB1 := Lib.hid (HB.out.trans (hb1.mono HB.out.size)); clear hb1)
            go_ret
            exact ⟨by rw [HS.out (by rw [HOK.out, HPW.out, HLN.out]; simp [hk2])]; rfl, HB1.out⟩
      · obtain rfl : k = la := by omega
        have hr : rightN xs = true := by
          have hlx := H1.out.1
          unfold rightN
          rw [decide_eq_true (by omega : 0 < xs.length), decide_eq_true (by omega : xs.length ≤ 16), Bool.true_and, Bool.true_and, List.all_eq_true]
          intro i hi
          exact HT.out i (by have := List.mem_range.1 hi; omega)
        clear ht hb
        go_wp2
        go_ret
        exact ⟨by rw [hr]; rfl, HB.out⟩
  · have hr : rightN xs = false := by
      have hlx := H1.out.1
      unfold rightN
      rw [Bool.and_eq_false_iff]; left
      rw [Bool.and_eq_false_iff]
      by_cases h0 : 0 < xs.length
      · right; exact decide_eq_false (by omega)
      · left; exact decide_eq_false h0
    by_cases h0 : la < 1
    · go_enter Try.func14, Try.ntmps14
      go_wp2
      go_ret
      exact ⟨by first | rfl | (rw [hr]; rfl), Below.refl _ _⟩
    · have h3 : ¬ ((la : Int) < 1) := by omega
      have h4 : ((16 : Int) < (la : Int)) := by omega
      go_enter Try.func14, Try.ntmps14
      go_wp2
      go_ret
      exact ⟨by first | rfl | (rw [hr]; rfl), Below.refl _ _⟩
end Go.Proofs.Ytjoaenfibkgplaa

namespace Go.Proofs.Ytjoaenfibkgplaa
set_option linter.unusedSimpArgs false
open Go.RowKit Go.Cq
set_option linter.unusedVariables false

/-- 'calqueref01.Put'. -/
def putN (x : Nat) : List Nat := [x / 16777216, x / 65536 % 256, x / 256 % 256, x % 256]
theorem heap_new (w : World) (o : Obj) : (w.alloc o).heap[w.heap.size]? = some o := by
  show (w.heap.push o)[w.heap.size]? = _
  rw [Array.getElem?_push, if_pos rfl]
theorem put_any (x : Nat) (w : World) (hx : x < 4294967296) :
    Calls Try.prog 40 #[.int .u32 (x : Int)] w fun e w' => ∃ v, e = .returned v ∧ w'.ownsRow w.heap.size 5 1 v 4 (nums .u8 (putN x)) ∧ Below w.heap.size w w' := by
  go_enter Try.func40, Try.ntmps40
  go_wp2
  go_ret
  refine ⟨_, rfl, ⟨rfl, .inr ⟨w.heap.size, 4, _, rfl, Nat.le_refl _, heap_new w _, Nat.le_refl _, by decide, rfl, ?_⟩⟩, (Below.refl _ _).alloc (Nat.le_refl _) _⟩
  simp [putN, nums]
end Go.Proofs.Ytjoaenfibkgplaa

namespace Go.Proofs.Ytjoaenfibkgplaa
set_option linter.unusedSimpArgs false
open Go.RowKit Go.Cq
set_option linter.unusedVariables false

theorem info5u : (Try.prog.info? 5).map (fun i => (i.zero, i.size, i.bytes)) = some (some (.int .u8 0), 1, 1) := by kernel_rfl
def codeN (ys : List Nat) : List Nat := ys.flatMap putN
theorem codeN_length (ys : List Nat) : (codeN ys).length = 4 * ys.length := by
  induction ys with
  | nil => rfl
  | cons y r ih => rw [codeN, List.flatMap_cons, List.length_append]; unfold codeN at ih; rw [ih]; simp [putN]; omega
theorem codeN_step (ys : List Nat) (j : Nat) (h : j < ys.length) : codeN (ys.take (j + 1)) = cat (codeN (ys.take j)) (putN (ys.getD j 0)) := by
  unfold codeN cat
  rw [List.take_add_one, List.flatMap_append, List.getElem?_eq_getElem h]
  simp [List.getD, h]

set_option maxHeartbeats 1000000 in
/-- 'calquelaw00.Code'. -/
theorem code_any {a : Option Addr} {len cap : Nat} {ys : List Nat} (w : World) (hN : Nums w .u32 a len cap ys) (hy : ∀ y ∈ ys, y < 4294967296) (hl : len ≤ 1000) :
    Calls Try.prog 11 #[.slice a len cap] w fun e w' => ∃ v, e = .returned v ∧ w'.ownsRow w.heap.size 5 1 v (codeN ys).length (nums .u8 (codeN ys)) ∧ Below w.heap.size w w' := by
  have HM := Lib.hid hN
  have HY := Lib.hid hy
  clear hN hy
  go_enter Try.func11, Try.ntmps11
  go_wp2_with fail
  go_loopw [3, 4] (fun v i wr => ∃ j : Nat, j ≤ len ∧ i = .int .i64 j ∧ wr.ownsRow w.heap.size 5 1 v (codeN (ys.take j)).length (nums .u8 (codeN (ys.take j))) ∧ Below w.heap.size w wr) (fun _ i _ => len - (intOf i).toNat)
  case atStart => exact ⟨0, by omega, rfl, World.ownsRow_nil _ _ _ _, Below.refl _ _⟩
  case round =>
    obtain ⟨j, hj, rfl, hown, hbr⟩ := hrel
    by_cases hlt : j < len
    · obtain ⟨b, off, rfl, hbl, hc⟩ := HM.out.2.2.2 j hlt
      have hlen : j < ys.length := by rw [HM.out.1]; exact hlt
      obtain ⟨x, hxb, HXk⟩ : ∃ x : Nat, x < 4294967296 ∧ Hid (x = ys.getD j 0) := ⟨_, HY.out _ (getD_mem ys j hlen), rfl⟩
      have hc' : wr.cell? ⟨b, off + j, none⟩ = some (.int .u32 (x : Nat)) := by
        rw [HXk.out]
        exact (hbr.cell (p := ⟨b, off + j, none⟩) hbl).trans hc
      clear hc
      have hpl : (codeN (ys.take j)).length ≤ 4000 := by rw [codeN_length, List.length_take]; omega
      have HO := Lib.hid hown
      clear hown
      go_wp2_with (first
        | (go_at_call 40; refine (put_any x _ hxb).mono ?_; rintro e w2 ⟨v2, rfl, ho2, hb2⟩; obtain ⟨a3, c2, rfl, hn2⟩ := Nums.of_own (xs := putN x) ho2; have ho3 := Lib.hid (own_kept HO.out hb2))
        | (at_builtin; refine wpList_append_nums _ rfl _ _ 28 rfl w.heap.size 5 .u8 1 Try.underlying28 info5u _ (codeN (ys.take j)) rfl ho3.out _ _ _ (putN x) rfl hn2 (by have e : (putN x).length = 4 := rfl; rw [e]; exact Nat.le_trans (by omega : _ ≤ 5000) (by decide)) (by have e : (putN x).length = 4 := rfl; rw [e]; omega) (Nat.le_trans hbr.size hb2.size) ?_; intro v4 w4 ho4 hg4))
      have hb4 : Below w.heap.size w w4 := (hbr.trans (hb2.mono hbr.size)).grown hg4 (Nat.le_trans hbr.size hb2.size) (ownBlock_of_own ho3.out)
      go_roundw
      case rel => exact ⟨j + 1, by omega, by go_num, by rw [codeN_step ys j hlen, ← HXk.out]; exact ho4, hb4⟩
      case measure => simp [intOf]; omega
    · obtain rfl : j = ys.length := by rw [HM.out.1]; omega
      rw [List.take_length] at hown
      go_wp2
      go_ret
      exact ⟨_, rfl, hown, hbr⟩
end Go.Proofs.Ytjoaenfibkgplaa

namespace Go.Proofs.Ytjoaenfibkgplaa
set_option linter.unusedSimpArgs false
open Go.RowKit Go.Cq
set_option linter.unusedVariables false

/-- 'calqueref01.Field'. -/
theorem rfield_any (x a n : Nat) (w : World) (hx : x < 4294967296) (ha : a ≤ 31) (hn : n + a ≤ 32) (hn1 : 1 ≤ n) :
    Calls Try.prog 94 #[.int .u32 (x : Int), .int .i64 (a : Int), .int .i64 (n : Int)] w fun e w' => e = .returned (.int .u32 (fld x a n : Nat)) ∧ Below w.heap.size w w' := by
  have hp : (0 : Int) < n := by omega
  by_cases h0 : a = 0
  · subst h0
    have h := fld_eq x 0 n hx (by omega)
    have H := Lib.hid h
    clear h
    go_enter Try.func94, Try.ntmps94
    go_wp2
    go_ret
    refine ⟨ret_u32 ?_, Below.refl _ _⟩
    rw [← H.out]; simp
  · have hp2 : (0 : Int) < a := by omega
    have H := Lib.hid (fld_eq x a n hx (by omega))
    go_enter Try.func94, Try.ntmps94
    go_wp2
    go_ret
    exact ⟨ret_u32 H.out, Below.refl _ _⟩
/-- 'calqueref01.Sext', of 16 bits. -/
theorem rsext_any (v : Nat) (w : World) (hv : v < 4294967296) :
    Calls Try.prog 95 #[.int .u32 (v : Int), .int .i64 16] w fun e w' => e = .returned (.int .u32 (sx (v % 65536) : Nat)) ∧ w = w' := by
  go_enter Try.func95, Try.ntmps95
  go_wp2
  go_ret
  refine ⟨ret_u32 ?_, rfl⟩
  unfold wrap32 sx
  split <;> omega
end Go.Proofs.Ytjoaenfibkgplaa
