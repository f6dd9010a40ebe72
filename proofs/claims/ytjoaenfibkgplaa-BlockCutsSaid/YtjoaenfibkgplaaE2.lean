import Derived.Test.YtjoaenfibkgplaaE1
namespace Go.Proofs.Ytjoaenfibkgplaa
set_option linter.unusedSimpArgs false
open Go.RowKit Go.Cq
set_option linter.unusedVariables false

/-- May a word stand at a place of a block? -/
def okAt (xs : List Nat) (i : Nat) : Bool := plainW (xs.getD i 0) || (decide (i + 2 = xs.length) && jumpsW (xs.getD i 0))
def rightN (xs : List Nat) : Bool := decide (0 < xs.length) && decide (xs.length ≤ 16) && (List.range xs.length).all (okAt xs)

set_option maxHeartbeats 1000000 in
/-- 'block.Right'. -/
theorem right_any {a : Option Addr} {la ca : Nat} {xs : List Nat} (w : World) (h1 : Nums w .u32 a la ca xs) (hx : ∀ x ∈ xs, x < 4294967296) (hl : la ≤ 4294967296) :
    Calls Try.prog 14 #[.slice a la ca] w fun e w' => e = .returned (.bool (rightN xs)) ∧ Below w.heap.size w w' := by
  have H1 := Lib.hid h1
  have HX := Lib.hid hx
  clear h1 hx
  by_cases hs : 1 ≤ la ∧ la ≤ 16
  · have g1 : ¬ ((la : Int) < 1) := by omega
    have g2 : ¬ ((16 : Int) < (la : Int)) := by omega
    go_enter Try.func14, Try.ntmps14
    go_wp2
    go_loopw [3, 4, 15] (fun _ _ i wr => ∃ k : Nat, k ≤ la ∧ i = .int .i64 (k : Int) ∧ (∀ i, i < k → okAt xs i = true) ∧ Below w.heap.size w wr) (fun _ _ i _ => la - (intOf i).toNat)
    case atStart => exact ⟨0, by omega, rfl, fun _ h => absurd h (Nat.not_lt_zero _), Below.refl _ _⟩
    case round =>
      obtain ⟨k, hk, rfl, ht, hb⟩ := hrel
      have HT := Lib.hid ht
      have HB := Lib.hid hb
      by_cases hlt : k < la
      · obtain ⟨b1, o1, rfl, -, c1⟩ := (H1.out.kept hb).2.2.2 k hlt
        clear ht hb
        have HLN : Hid (xs.length = la) := H1.out.1
        have HU2 : Hid (xs.getD k 0 < 4294967296) := HX.out _ (getD_mem _ _ (by rw [H1.out.1]; exact hlt))
        have HOK : Hid (okAt xs k = (plainW (xs.getD k 0) || (decide (k + 2 = xs.length) && jumpsW (xs.getD k 0)))) := rfl
        generalize xs.getD k 0 = u at c1 HU2 HOK
        have hcont : okAt xs k = true → Hid (∀ i, i < k + 1 → okAt xs i = true) := fun ho => Lib.hid fun i hi => by
          rcases Nat.lt_succ_iff_lt_or_eq.1 hi with h | rfl
          · exact HT.out i h
          · exact ho
        have HC := Lib.hid hcont
        clear hcont
        have hstop : okAt xs k = false → rightN xs = false := fun ho => by
          unfold rightN
          rw [Bool.and_eq_false_iff]; right
          rw [List.all_eq_false]
          exact ⟨k, List.mem_range.2 (by rw [HLN.out]; exact hlt), by rw [ho]; simp⟩
        have HS := Lib.hid hstop
        clear hstop
        cases hpw : plainW u with
        | true =>
          have HPW := Lib.hid hpw
          clear hpw
          go_wp2_with (go_at_call 42; refine (plainw_any u _ HU2.out).mono ?_; rintro e w1 ⟨rfl, hb1⟩; rw [HPW.out]; have HB1 := Lib.hid (HB.out.trans (hb1.mono HB.out.size)); clear hb1)
          go_roundw
          case rel => exact ⟨k + 1, by omega, by go_num, (HC.out (by rw [HOK.out, HPW.out]; rfl)).out, HB1.out⟩
          case measure => simp [intOf]; omega
        | false =>
          have HPW := Lib.hid hpw
          clear hpw
          by_cases hk2 : k + 2 = la
          · have hk3 : (la : Int) - 2 = (k : Int) := by omega
            have hk4 : wrap64 ((la : Int) - 2) = (k : Int) := by rw [IntWalk.wrap64_in _ ⟨by omega, by omega⟩]; omega
            clear hk2
            have HK2 : Hid (k + 2 = la) := by refine Lib.hid ?_; omega
            cases hjw : jumpsW u with
            | true =>
              have HJW := Lib.hid hjw
              clear hjw
              go_wp2_with (first
                | (go_at_call 42; refine (plainw_any u _ HU2.out).mono ?_; rintro e w1 ⟨rfl, hb1⟩; rw [HPW.out]; have HB1 := Lib.hid (HB.out.trans (hb1.mono HB.out.size)); clear hb1)
                | (go_at_call 43; refine (jumpsw_any u _ HU2.out).mono ?_; rintro e w2 ⟨rfl, hb2⟩; rw [HJW.out]; have HB2 := Lib.hid (HB1.out.trans (hb2.mono HB1.out.size)); clear hb2))
              go_roundw
              case rel => exact ⟨k + 1, by omega, by go_num, (HC.out (by rw [HOK.out, HPW.out, HJW.out, HLN.out, decide_eq_true HK2.out]; rfl)).out, HB2.out⟩
              case measure => simp [intOf]; omega
            | false =>
              have HJW := Lib.hid hjw
              clear hjw
              go_wp2_with (first
                | (go_at_call 42; refine (plainw_any u _ HU2.out).mono ?_; rintro e w1 ⟨rfl, hb1⟩; rw [HPW.out]; have HB1 := Lib.hid (HB.out.trans (hb1.mono HB.out.size)); clear hb1)
                | (go_at_call 43; refine (jumpsw_any u _ HU2.out).mono ?_; rintro e w2 ⟨rfl, hb2⟩; rw [HJW.out]; have HB2 := Lib.hid (HB1.out.trans (hb2.mono HB1.out.size)); clear hb2))
              go_ret
              exact ⟨by rw [HS.out (by rw [HOK.out, HPW.out, HJW.out]; simp)]; rfl, HB2.out⟩
          · have hk3 : ¬ (k : Int) = (la : Int) - 2 := by omega
            go_wp2_with (go_at_call 42; refine (plainw_any u _ HU2.out).mono ?_; rintro e w1 ⟨rfl, hb1⟩; rw [HPW.out]; have HB1 := Lib.hid (HB.out.trans (hb1.mono HB.out.size)); clear hb1)
            go_ret
            exact ⟨by rw [HS.out (by rw [HOK.out, HPW.out, HLN.out]; simp [hk2])]; rfl, HB1.out⟩
      · obtain rfl : k = la := by omega
        have hr : rightN xs = true := by
          have hlx := H1.out.1
          unfold rightN
          rw [decide_eq_true (by omega : 0 < xs.length), decide_eq_true (by omega : xs.length ≤ 16), Bool.true_and, Bool.true_and, List.all_eq_true]
          intro i hi
          exact HT.out i (by have := List.mem_range.1 hi; omega)
        clear ht hb
        go_wp2
        go_ret
        exact ⟨by rw [hr]; rfl, HB.out⟩
  · have hr : rightN xs = false := by
      have hlx := H1.out.1
      unfold rightN
      rw [Bool.and_eq_false_iff]; left
      rw [Bool.and_eq_false_iff]
      by_cases h0 : 0 < xs.length
      · right; exact decide_eq_false (by omega)
      · left; exact decide_eq_false h0
    by_cases h0 : la < 1
    · go_enter Try.func14, Try.ntmps14
      go_wp2
      go_ret
      exact ⟨by first | rfl | (rw [hr]; rfl), Below.refl _ _⟩
    · have h3 : ¬ ((la : Int) < 1) := by omega
      have h4 : ((16 : Int) < (la : Int)) := by omega
      go_enter Try.func14, Try.ntmps14
      go_wp2
      go_ret
      exact ⟨by first | rfl | (rw [hr]; rfl), Below.refl _ _⟩
end Go.Proofs.Ytjoaenfibkgplaa
