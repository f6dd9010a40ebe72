import Derived.Test.YtjoaenfibkgplaaB5
namespace Go.Proofs.Ytjoaenfibkgplaa
set_option linter.unusedSimpArgs false
open Go.RowKit Go.Cq
set_option linter.unusedVariables false

theorem tmod_neg (v n : Int) (hn : 1 ≤ n) (h : v.tmod n < 0) : v.tmod n + n = v % n := by
  have h1 := Int.tmod_eq_emod (a := v) (b := n)
  have h2 := Int.emod_nonneg v (show n ≠ 0 by omega)
  have h3 := Int.emod_lt_of_pos v (show 0 < n by omega)
  split at h1 <;> omega
theorem tmod_pos (v n : Int) (hn : 1 ≤ n) (h : 0 ≤ v.tmod n) : v.tmod n = v % n := by
  have h1 := Int.tmod_eq_emod (a := v) (b := n)
  have h2 := Int.emod_nonneg v (show n ≠ 0 by omega)
  have h3 := Int.emod_lt_of_pos v (show 0 < n by omega)
  split at h1 <;> omega
theorem ret_i64 {a b : Int} (h : a = b) : Ending.returned (.int .i64 a) = .returned (.int .i64 b) := by rw [h]

/-- 'calquelaw00.Place'. -/
theorem place_any (v n : Int) (w : World) (hv : -9223372036854775808 ≤ v ∧ v ≤ 9223372036854775807) (hn : 1 ≤ n ∧ n ≤ 9223372036854775807) :
    Calls Try.prog 12 #[.int .i64 v, .int .i64 n] w fun e w' => e = .returned (.int .i64 (v % n)) ∧ w = w' := by
  go_enter Try.func12, Try.ntmps12
  go_wp2
  · have h := tmod_neg v n hn.1 ‹_›
    have h3 := Int.emod_lt_of_pos v (show 0 < n by omega)
    have h2 := Int.emod_nonneg v (show n ≠ 0 by omega)
    go_ret
    exact ⟨ret_i64 (by rw [h]; exact IntWalk.wrap64_in _ (by omega)), rfl⟩
  · have h := tmod_pos v n hn.1 ‹_›
    go_ret
    exact ⟨ret_i64 h, rfl⟩


theorem take_succ_eq {xs ys : List Nat} {k : Nat} (h : xs.take k = ys.take k) (h1 : k < xs.length) (h2 : k < ys.length) (e : xs.getD k 0 = ys.getD k 0) : xs.take (k + 1) = ys.take (k + 1) := by
  rw [List.take_add_one, List.take_add_one, h]
  congr 1
  simp only [List.getD, List.getElem?_eq_getElem h1, List.getElem?_eq_getElem h2, Option.getD_some] at e ⊢
  rw [e]
/-- 'calquelaw00.SameWords'. -/
theorem same_any {a b : Option Addr} {la lb ca cb : Nat} {xs ys : List Nat} (w : World) (h1 : Nums w .u32 a la ca xs) (h2 : Nums w .u32 b lb cb ys) (hl : la ≤ 4294967296) :
    Calls Try.prog 16 #[.slice a la ca, .slice b lb cb] w fun e w' => e = .returned (.bool (decide (xs = ys))) ∧ ∃ n, w' = w.drewN n := by
  have H1 := Lib.hid h1
  have H2 := Lib.hid h2
  clear h1 h2
  by_cases he : la = lb
  · subst he
    go_enter Try.func16, Try.ntmps16
    go_wp2
    go_loopw [5] (fun i wr => ∃ k : Nat, k ≤ la ∧ i = .int .i64 (k : Int) ∧ xs.take k = ys.take k ∧ ∃ n, wr = w.drewN n) (fun i _ => la - (intOf i).toNat)
    case atStart => exact ⟨0, by omega, rfl, rfl, 0, rfl⟩
    case round =>
      obtain ⟨k, hk, rfl, ht, n, rfl⟩ := hrel
      have HT := Lib.hid ht
      clear ht
      by_cases hlt : k < la
      · obtain ⟨b1, o1, rfl, -, c1⟩ := H1.out.2.2.2 k hlt
        obtain ⟨b2, o2, rfl, -, c2⟩ := H2.out.2.2.2 k hlt
        have hx1 : xs.length = la := H1.out.1
        have hx2 : ys.length = la := H2.out.1
        have HL := Lib.hid (And.intro hx1 hx2)
        clear hx1 hx2
        generalize hu : xs.getD k 0 = u at c1
        generalize hv : ys.getD k 0 = v at c2
        have HU := Lib.hid hu
        have HV := Lib.hid hv
        clear hu hv
        by_cases huv : u = v
        · subst huv
          go_wp2
          go_quiet (fail)
          go_wp2
          go_roundw
          case rel => exact ⟨k + 1, by omega, by go_num, take_succ_eq HT.out (by rw [HL.out.1]; exact hlt) (by rw [HL.out.2]; exact hlt) (by rw [HU.out, HV.out]), _, rfl⟩
          case measure => simp [intOf]; omega
        · have hne : ((u : Int) == (v : Int)) = false := by simp; omega
          have hne2 : ¬ ((u : Int) = (v : Int)) := by omega
          go_wp2
          go_quiet (fail)
          go_wp2
          go_ret
          exact ⟨by rw [decide_eq_false (fun e => huv (by rw [← HU.out, ← HV.out, e]))]; rfl, _, World.drewN_drewN _ _ _⟩
      · obtain rfl : k = la := by omega
        have hd : xs = ys := by
          have h1 := H1.out.1
          have h2 := H2.out.1
          have h3 := HT.out
          rwa [List.take_of_length_le (by omega), List.take_of_length_le (by omega)] at h3
        go_wp2
        go_ret
        exact ⟨by rw [decide_eq_true hd]; rfl, _, rfl⟩
  · have hne : ¬ ((la : Int) = (lb : Int)) := by omega
    have hd : xs ≠ ys := fun e => he (by rw [← H1.out.1, ← H2.out.1, e])
    go_enter Try.func16, Try.ntmps16
    go_wp2
    go_ret
    exact ⟨by rw [decide_eq_false hd]; rfl, 0, rfl⟩
end Go.Proofs.Ytjoaenfibkgplaa
