/- The library's sort at uint32: the small ones. -/
import Derived.Test.YtjoaenfibkgplaaZC
import Derived.Sort.WalkA
import Derived.WalkKit
import Derived.BigGuard
import Derived.BigCall
import Derived.CellFam
import Derived.Deep.Draws
namespace Go.Proofs.Ytjoaenfibkgplaa
set_option linter.unusedSimpArgs false
open Go.RowKit Go.Cq Go.Sort
set_option linter.unusedVariables false
theorem nan_any (x : Int) (w : World) : Calls Try.prog 144 #[.int .u32 x] w fun e w' => e = .returned (.bool false) ∧ w' = w := by
  go_enter Try.func144, Try.ntmps144
  go_wp2
  go_ret
  exact ⟨by simp, rfl⟩
/-- 'cmp.Less'. -/
theorem less_any (x y : Int) (w : World) : Calls Try.prog 134 #[.int .u32 x, .int .u32 y] w fun e w' => e = .returned (.bool (ltInt x y)) ∧ w' = w := by
  go_enter Try.func134, Try.ntmps134
  go_wp2_with (go_at_call 144; refine (nan_any _ _).mono ?_; rintro e w' ⟨rfl, rfl⟩)
  go_ret
  exact ⟨rfl, rfl⟩
/-- Numbers in a row, as the sort sees them. -/
abbrev encU : Int → Value := Value.int .u32
/-- The world behind n draws, the row rewritten. -/
def rowW (w : World) (n b off : Nat) (d : Array Int) : World := putRow encU (Sort.ahead w n) b off d
theorem rowW_drewN (w : World) (n q b off : Nat) (d : Array Int) : (rowW w n b off d).drewN q = rowW w (n + q) b off d := putRow_drewN _ _ _ _ _ _ _
theorem rowW_self {w : World} {b off : Nat} {d : Array Int} (h : Holds encU w b off d) : rowW w 0 b off d = w := putRow_self _ _ _ _ _ h
theorem rowW_cell {w : World} {n b off : Nat} {d e : Array Int} (h : Holds encU w b off d) (hs : e.size = d.size) (t : Nat) (ht : t < d.size) : (rowW w n b off e).cell? ⟨b, off + t, none⟩ = some (encU e[t]!) :=
  cell?_putRow _ _ _ _ d e (holds_ahead _ _ _ _ _ _ h) hs t (by omega)
theorem rowW_frozen {w : World} {n b off : Nat} {d e : Array Int} (h : Holds encU w b off d) (t : Nat) (ht : t < d.size) : (rowW w n b off e).frozen? ⟨b, off + t, none⟩ = false := by
  unfold rowW
  rw [frozen?_putRow]; exact ((holds_ahead _ _ n _ _ _ h) t ht).2
theorem rowW_holds {w : World} {n b off : Nat} {d e : Array Int} (h : Holds encU w b off d) (hs : e.size = d.size) : Holds encU (rowW w n b off e) b off e :=
  holds_putRow _ _ _ _ d e (holds_ahead _ _ _ _ _ _ h) hs
theorem rowW_rowW {w : World} {n m b off : Nat} {d e : Array Int} (h : e.size = d.size) : rowW (rowW w n b off d) m b off e = rowW w (n + m) b off e := by
  unfold rowW
  rw [← putRow_ahead, ahead_ahead]
  exact putRow_putRow _ _ _ _ _ _ h
theorem rowW_swap (w : World) (n q b off : Nat) (d : Array Int) (j k : Nat) (hj : j < d.size) (hk : k < d.size) :
    (((rowW w n b off d).drewN q).setCell ⟨b, off + j, none⟩ (encU d[k]!)).setCell ⟨b, off + k, none⟩ (encU d[j]!) = rowW w (n + q) b off (swp d j k) := swap_worldA _ _ _ _ _ _ _ _ _ hj hk
end Go.Proofs.Ytjoaenfibkgplaa

namespace Go.Proofs.Ytjoaenfibkgplaa
set_option linter.unusedSimpArgs false
open Go.RowKit Go.Cq Go.Sort
set_option linter.unusedVariables false

/-- What a walk reads of a row, under names of its own. -/
structure Row (w wr : World) (n b off : Nat) (d e : Array Int) (G : Nat → Int) : Prop where
  eqn : wr = rowW w n b off e
  size : e.size = d.size
  val : ∀ t, G t = e[t]!
theorem Row.cells {w wr : World} {n b off : Nat} {d e : Array Int} {G : Nat → Int} (h : Row w wr n b off d e G) (hH : Holds encU w b off d) : ∀ t, t < d.size → wr.cell? ⟨b, off + t, none⟩ = some (.int .u32 (G t)) := fun t ht => by
  rw [h.eqn, h.val]; exact rowW_cell hH h.size t ht
theorem Row.free {w wr : World} {n b off : Nat} {d e : Array Int} {G : Nat → Int} (h : Row w wr n b off d e G) (hH : Holds encU w b off d) : ∀ t, t < d.size → wr.frozen? ⟨b, off + t, none⟩ = false := fun t ht => by
  rw [h.eqn]; exact rowW_frozen hH t ht
theorem row_of {w wr : World} {n b off : Nat} {d e : Array Int} (h : wr = rowW w n b off e) (hs : e.size = d.size) : ∃ G, Row w wr n b off d e G := ⟨fun t => e[t]!, h, hs, fun _ => rfl⟩
theorem swapped {w wr : World} {n b off : Nat} {d e : Array Int} {G : Nat → Int} (h : Row w wr n b off d e G) (q j k : Nat) (hj : j < d.size) (hk : k < d.size) :
    ((wr.drewN q).setCell ⟨b, off + j, none⟩ (.int .u32 (G k))).setCell ⟨b, off + k, none⟩ (.int .u32 (G j)) = rowW w (n + q) b off (swp e j k) := by
  rw [h.eqn, h.val, h.val]
  exact rowW_swap w n q b off e j k (by rw [h.size]; exact hj) (by rw [h.size]; exact hk)

set_option maxHeartbeats 2000000 in
set_option maxRecDepth 100000 in
/-- 'slices.insertionSortOrdered', at uint32. -/
theorem ins_any (b off cap lo hi : Nat) (d : Array Int) (w : World) (hH : Holds encU w b off d) (hab : lo ≤ hi) (hb : hi ≤ d.size) (hsz : d.size < 4611686018427387904) :
    Calls Try.prog 128 #[.slice (some ⟨b, off, none⟩) d.size cap, .int .i64 (lo : Int), .int .i64 (hi : Int)] w fun e w' => e = .returned (.tuple #[]) ∧ ∃ n, w' = rowW w n b off (insertionSort ltInt d lo hi) := by
  have HH := Lib.hid hH
  clear hH
  go_enter Try.func128, Try.ntmps128
  go_wp2
  go_loopw [6] (fun vi wr => ∃ (i n : Nat) (dk : Array Int), vi = .int .i64 i ∧ lo < i ∧ i ≤ hi + 1 ∧ Hid (dk.size = d.size) ∧ Hid (wr = rowW w n b off dk) ∧ Hid (insOuter ltInt lo hi i dk = insertionSort ltInt d lo hi)) (fun vi _ => hi + 1 - (intOf vi).toNat)
  case atStart => exact ⟨lo + 1, 0, d, by go_num, by omega, by omega, rfl, (rowW_self HH.out).symm, rfl⟩
  case round =>
    obtain ⟨i, n, dk, rfl, hli, hih, HS, HW, HO⟩ := hrel
    by_cases hlt : i < hi
    · have hlt2 : (i : Int) < (hi : Int) := by omega
      go_wp2
      go_loopw [7] (fun vj wr2 => ∃ (j m : Nat) (dj : Array Int), vj = .int .i64 j ∧ lo ≤ j ∧ j ≤ i ∧ Hid (dj.size = d.size) ∧ Hid (wr2 = rowW w m b off dj) ∧ Hid (insInner ltInt lo j dj = insInner ltInt lo i dk)) (fun vj _ => (intOf vj).toNat)
      case atStart => exact ⟨i, n, dk, rfl, by omega, Nat.le_refl _, HS, HW, rfl⟩
      case round =>
        obtain ⟨j, m, dj, rfl, hlj, hji, HSj, HWj, HI⟩ := hrel
        obtain ⟨G, hG⟩ := row_of HWj.out HSj.out
        have hcw := hG.cells HH.out
        have hfw := hG.free HH.out
        have HG := Lib.hid hG
        clear hG
        have hout : (j ≤ lo ∨ ltInt (G j) (G (j - 1)) = false) → ∀ q, ∃ i' n' dk', Value.int .i64 ((i : Int) + 1) = .int .i64 (i' : Nat) ∧ lo < i' ∧ i' ≤ hi + 1 ∧ Hid (dk'.size = d.size) ∧ Hid (wr.drewN q = rowW w n' b off dk') ∧ Hid (insOuter ltInt lo hi i' dk' = insertionSort ltInt d lo hi) := fun hs q =>
          ⟨i + 1, m + q, dj, by go_num, by omega, by omega, HSj, by refine Lib.hid ?_; rw [HWj.out]; exact rowW_drewN _ _ _ _ _ _,
            by refine Lib.hid ?_; rw [← HO.out, insOuter_go _ _ _ _ _ hlt, ← HI.out, insInner_stop _ _ _ _ (by rw [← HG.out.val, ← HG.out.val]; exact hs)]⟩
        have OUT := Lib.hid hout
        clear hout
        by_cases hja : lo < j
        · have hja2 : (lo : Int) < (j : Int) := by omega
          have e1 : IntKind.i64.wrap ((j : Int) - 1) = ((j - 1 : Nat) : Int) := by rw [IntWalk.i64_in _ ⟨by omega, by omega⟩]; omega
          have c0 := hcw j (by omega)
          have c1 := hcw (j - 1) (by omega)
          have f0 := hfw j (by omega)
          have f1 := hfw (j - 1) (by omega)
          go_wp2_with fail
          go_quiet ((go_at_call 134; exact Calls.quiet_of_same (less_any _ _ _)))
          cases hl : ltInt (G j) (G (j - 1)) with
          | true =>
            have HLT := Lib.hid hl
            go_wp2
            go_region
            all_goals go_wp2
            go_roundw
            case rel =>
              refine ⟨j - 1, m + (nq + 1), swp dj j (j - 1), by first | rfl | (congr 1; omega), by omega, by omega, by refine Lib.hid ?_; rw [size_swp]; exact HSj.out, ?_, ?_⟩
              · exact Lib.hid (swapped HG.out (nq + 1) j (j - 1) (by omega) (by omega))
              · refine Lib.hid ?_; rw [← HI.out, insInner_go ltInt lo j dj hja (by rw [← HG.out.val, ← HG.out.val]; exact HLT.out)]
            case measure => simp [intOf]; omega
          | false =>
            have HLT := Lib.hid hl
            go_wp2
            go_roundw
            case rel => exact OUT.out (Or.inr HLT.out) nq
            case measure => simp [intOf]; omega
        · have hja2 : ¬ (lo : Int) < (j : Int) := by omega
          go_wp2_with fail
          go_quiet ((go_at_call 134; exact Calls.quiet_of_same (less_any _ _ _)))
          go_wp2
          go_roundw
          case rel => exact OUT.out (Or.inl (by omega)) nq
          case measure => simp [intOf]; omega
    · have hlt2 : ¬ (i : Int) < (hi : Int) := by omega
      go_wp2
      go_end0
      exact ⟨rfl, n, by rw [HW.out, ← HO.out, insOuter_stop _ _ _ _ _ hlt]⟩
end Go.Proofs.Ytjoaenfibkgplaa

namespace Go.Proofs.Ytjoaenfibkgplaa
set_option linter.unusedSimpArgs false
open Go.RowKit Go.Cq Go.Sort
set_option linter.unusedVariables false
section
variable {α : Type} [Inhabited α] (lt : α → α → Bool)
theorem sift_end {hi first r : Nat} {d : Array α} (h : hi ≤ 2 * r + 1) : siftDown lt hi first r d = d := by rw [siftDown, dif_pos h]
theorem sift_right {hi first r : Nat} {d : Array α} (h1 : 2 * r + 2 < hi) (h2 : lt d[first + (2 * r + 1)]! d[first + (2 * r + 2)]! = true) :
    siftDown lt hi first r d = if lt d[first + r]! d[first + (2 * r + 2)]! then siftDown lt hi first (2 * r + 2) (swp d (first + r) (first + (2 * r + 2))) else d := by
  have e : first + (2 * r + 1) + 1 = first + (2 * r + 2) := by omega
  rw [siftDown, dif_neg (by omega), e, h2, if_pos (by simp; omega), dif_pos h1]
  cases lt d[first + r]! d[first + (2 * r + 2)]! <;> rfl
theorem sift_left {hi first r : Nat} {d : Array α} (h : 2 * r + 1 < hi) (h2 : ¬ 2 * r + 2 < hi ∨ lt d[first + (2 * r + 1)]! d[first + (2 * r + 2)]! = false) :
    siftDown lt hi first r d = if lt d[first + r]! d[first + (2 * r + 1)]! then siftDown lt hi first (2 * r + 1) (swp d (first + r) (first + (2 * r + 1))) else d := by
  have e : first + (2 * r + 1) + 1 = first + (2 * r + 2) := by omega
  have hf : ¬ (2 * r + 1 + 1 < hi && lt d[first + (2 * r + 1)]! d[first + (2 * r + 2)]!) = true := by
    rcases h2 with h2 | h2
    · simp; intro h3; omega
    · rw [h2]; simp
  rw [siftDown, dif_neg (by omega), e, if_neg hf]
  cases lt d[first + r]! d[first + (2 * r + 1)]! <;> rfl
end
set_option maxHeartbeats 4000000 in
set_option maxRecDepth 100000 in
/-- 'slices.siftDownOrdered', at uint32. -/
theorem sift_any (b off cap root hi first : Nat) (d : Array Int) (w : World) (hH : Holds encU w b off d) (hf : first + hi ≤ d.size) (hr : root ≤ d.size) (hsz : d.size < 1152921504606846976) :
    Calls Try.prog 139 #[.slice (some ⟨b, off, none⟩) d.size cap, .int .i64 (root : Int), .int .i64 (hi : Int), .int .i64 (first : Int)] w fun e w' => e = .returned (.tuple #[]) ∧ ∃ n, w' = rowW w n b off (siftDown ltInt hi first root d) := by
  have HH := Lib.hid hH
  clear hH
  go_enter Try.func139, Try.ntmps139
  go_wp2
  go_loopw [8, 9] (fun vi v9 wr => ∃ (r n : Nat) (dk : Array Int), vi = .int .i64 r ∧ r ≤ d.size ∧ Hid (dk.size = d.size) ∧ Hid (wr = rowW w n b off dk) ∧ Hid (siftDown ltInt hi first r dk = siftDown ltInt hi first root d)) (fun vi _ _ => hi - (intOf vi).toNat)
  case atStart => exact ⟨root, 0, d, rfl, hr, rfl, (rowW_self HH.out).symm, rfl⟩
  case round =>
    obtain ⟨r, n, dk, rfl, hrd, HS, HW, HO⟩ := hrel
    by_cases hlt : 2 * r + 1 < hi
    · obtain ⟨G, hG⟩ := row_of HW.out HS.out
      have hcw := hG.cells HH.out
      have hfw := hG.free HH.out
      have HG := Lib.hid hG
      clear hG
      obtain ⟨c, kc⟩ : ∃ c, 2 * r + 1 = c := ⟨_, rfl⟩
      obtain ⟨e, ke⟩ : ∃ e, 2 * r + 2 = e := ⟨_, rfl⟩
      obtain ⟨p0, k0⟩ : ∃ p, first + r = p := ⟨_, rfl⟩
      obtain ⟨p1, k1⟩ : ∃ p, first + (2 * r + 1) = p := ⟨_, rfl⟩
      obtain ⟨p2, k2⟩ : ∃ p, first + (2 * r + 2) = p := ⟨_, rfl⟩
      have q1 : 2 * (r : Int) + 1 = (c : Int) := by omega
      have q2 : (c : Int) + 1 = (e : Int) := by omega
      have q3 : (first : Int) + (c : Int) = (p1 : Int) := by omega
      have q4 : (p1 : Int) + 1 = (p2 : Int) := by omega
      have q5 : (first : Int) + (r : Int) = (p0 : Int) := by omega
      have q6 : (first : Int) + (e : Int) = (p2 : Int) := by omega
      have w1 : IntKind.i64.wrap (e : Int) = (e : Int) := IntWalk.i64_in _ ⟨by omega, by omega⟩
      have w2 : IntKind.i64.wrap (p1 : Int) = (p1 : Int) := IntWalk.i64_in _ ⟨by omega, by omega⟩
      have w3 : IntKind.i64.wrap (p2 : Int) = (p2 : Int) := IntWalk.i64_in _ ⟨by omega, by omega⟩
      have w4 : IntKind.i64.wrap (p0 : Int) = (p0 : Int) := IntWalk.i64_in _ ⟨by omega, by omega⟩
      have b0 : p0 < d.size := by omega
      have b1 : p1 < d.size := by omega
      have b2 : e < hi → p2 < d.size := by omega
      have i1 : ¬ (hi : Int) ≤ (c : Int) := by omega
      have hrc : r < c ∧ c < e := by omega
      have KC := Lib.hid kc
      have KE := Lib.hid ke
      have K0 := Lib.hid k0
      have K1 := Lib.hid k1
      have K2 := Lib.hid k2
      have HLT := Lib.hid hlt
      clear kc ke k0 k1 k2 hlt
      have c1 := hcw p1 b1
      have c3 := hcw p0 b0
      have f1 := hfw p1 b1
      have f3 := hfw p0 b0
      by_cases h2 : e < hi
      · have i2 : (e : Int) < (hi : Int) := by omega
        have H2 : Hid (2 * r + 2 < hi) := by refine Lib.hid ?_; rw [KE.out]; exact h2
        have c2 := hcw p2 (b2 h2)
        have f2 := hfw p2 (b2 h2)
        have hp2 := b2 h2
        clear hcw hfw b2
        cases hl : ltInt (G p1) (G p2) with
        | true =>
          have HL := Lib.hid hl
          have HE : Hid (siftDown ltInt hi first r dk = if ltInt dk[first + r]! dk[first + (2 * r + 2)]! then siftDown ltInt hi first (2 * r + 2) (swp dk (first + r) (first + (2 * r + 2))) else dk) := Lib.hid (sift_right ltInt H2.out (by rw [K1.out, K2.out, ← HG.out.val, ← HG.out.val]; exact HL.out))
          rw [K0.out, K2.out, KE.out] at HE
          go_wp2_with fail
          go_quiet ((go_at_call 134; exact Calls.quiet_of_same (less_any _ _ _)))
          go_wp2_with fail
          go_quiet ((go_at_call 134; refine (less_any _ _ _).mono ?_; rintro e w'' ⟨rfl, rfl⟩; exact ⟨rfl, _, rfl⟩))
          cases hm : ltInt (G p0) (G p2) with
          | true =>
            have HM := Lib.hid hm
            go_wp2
            go_region
            all_goals go_wp2
            go_roundw
            case rel => exact ⟨e, _, swp dk p0 p2, rfl, by omega, by refine Lib.hid ?_; rw [size_swp]; exact HS.out, Lib.hid (swapped HG.out _ p0 p2 (by omega) (by omega)), by refine Lib.hid ?_; rw [← HO.out, HE.out, ← HG.out.val, ← HG.out.val, HM.out, if_pos rfl]⟩
            case measure => simp [intOf]; omega
          | false =>
            have HM := Lib.hid hm
            go_wp2
          
            refine bodyPost_ret (results_none rfl _ _ _) rfl ?_
            exact ⟨rfl, _, by rw [← HO.out, HE.out, ← HG.out.val, ← HG.out.val, HM.out, if_neg Bool.false_ne_true, HW.out, rowW_drewN, rowW_drewN]⟩
        | false =>
          have HL := Lib.hid hl
          have HE : Hid (siftDown ltInt hi first r dk = if ltInt dk[first + r]! dk[first + (2 * r + 1)]! then siftDown ltInt hi first (2 * r + 1) (swp dk (first + r) (first + (2 * r + 1))) else dk) := Lib.hid (sift_left ltInt HLT.out (.inr (by rw [K1.out, K2.out, ← HG.out.val, ← HG.out.val]; exact HL.out)))
          rw [K0.out, K1.out, KC.out] at HE
          go_wp2_with fail
          go_quiet ((go_at_call 134; exact Calls.quiet_of_same (less_any _ _ _)))
          go_wp2_with fail
          go_quiet ((go_at_call 134; refine (less_any _ _ _).mono ?_; rintro e w'' ⟨rfl, rfl⟩; exact ⟨rfl, _, rfl⟩))
          cases hm : ltInt (G p0) (G p1) with
          | true =>
            have HM := Lib.hid hm
            go_wp2
            go_region
            all_goals go_wp2
            go_roundw
            case rel => exact ⟨c, _, swp dk p0 p1, rfl, by omega, by refine Lib.hid ?_; rw [size_swp]; exact HS.out, Lib.hid (swapped HG.out _ p0 p1 (by omega) (by omega)), by refine Lib.hid ?_; rw [← HO.out, HE.out, ← HG.out.val, ← HG.out.val, HM.out, if_pos rfl]⟩
            case measure => simp [intOf]; omega
          | false =>
            have HM := Lib.hid hm
            go_wp2
          
            refine bodyPost_ret (results_none rfl _ _ _) rfl ?_
            exact ⟨rfl, _, by rw [← HO.out, HE.out, ← HG.out.val, ← HG.out.val, HM.out, if_neg Bool.false_ne_true, HW.out, rowW_drewN, rowW_drewN]⟩
      · have i2 : ¬ (e : Int) < (hi : Int) := by omega
        have H2 : Hid (¬ 2 * r + 2 < hi) := by refine Lib.hid ?_; rw [KE.out]; exact h2
        clear hcw hfw b2
        have HE : Hid (siftDown ltInt hi first r dk = if ltInt dk[first + r]! dk[first + (2 * r + 1)]! then siftDown ltInt hi first (2 * r + 1) (swp dk (first + r) (first + (2 * r + 1))) else dk) := Lib.hid (sift_left ltInt HLT.out (.inl H2.out))
        rw [K0.out, K1.out, KC.out] at HE
        go_wp2_with fail
        go_quiet ((go_at_call 134; exact Calls.quiet_of_same (less_any _ _ _)))
        go_wp2_with fail
        go_quiet ((go_at_call 134; refine (less_any _ _ _).mono ?_; rintro e w'' ⟨rfl, rfl⟩; exact ⟨rfl, _, rfl⟩))
        cases hm : ltInt (G p0) (G p1) with
        | true =>
          have HM := Lib.hid hm
          go_wp2
          go_region
          all_goals go_wp2
          go_roundw
          case rel => exact ⟨c, _, swp dk p0 p1, rfl, by omega, by refine Lib.hid ?_; rw [size_swp]; exact HS.out, Lib.hid (swapped HG.out _ p0 p1 (by omega) (by omega)), by refine Lib.hid ?_; rw [← HO.out, HE.out, ← HG.out.val, ← HG.out.val, HM.out, if_pos rfl]⟩
          case measure => simp [intOf]; omega
        | false =>
          have HM := Lib.hid hm
          go_wp2
        
          refine bodyPost_ret (results_none rfl _ _ _) rfl ?_
          exact ⟨rfl, _, by rw [← HO.out, HE.out, ← HG.out.val, ← HG.out.val, HM.out, if_neg Bool.false_ne_true, HW.out, rowW_drewN, rowW_drewN]⟩
    · have i1 : (hi : Int) ≤ 2 * (r : Int) + 1 := by omega
      go_wp2
      first | go_end0 | refine bodyPost_ret (results_none rfl _ _ _) rfl ?_
      exact ⟨rfl, n, by rw [HW.out, ← HO.out, sift_end ltInt (by omega)]⟩
end Go.Proofs.Ytjoaenfibkgplaa

namespace Go.Proofs.Ytjoaenfibkgplaa
set_option linter.unusedSimpArgs false
open Go.RowKit Go.Cq Go.Sort
set_option linter.unusedVariables false
theorem sift_size {α : Type} [Inhabited α] (lt : α → α → Bool) (hi first : Nat) (n : Nat) : ∀ (r : Nat) (d : Array α), hi - r ≤ n → (siftDown lt hi first r d).size = d.size := by
  induction n with
  | zero =>
    intro r d h
    rw [siftDown, dif_pos (by omega)]
  | succ n ih =>
    intro r d h
    rw [siftDown]
    repeat' split
    all_goals first | rfl | (rw [ih _ _ (by omega), size_swp])
/-- A contract's slice, its length under another name. -/
theorem sift_at {b off cap root hi first n N : Nat} {d e : Array Int} {w wr : World} (hH : Holds encU w b off d) (hw : Hid (wr = rowW w n b off e)) (hs : Hid (e.size = d.size)) (hN : N = d.size) (hf : first + hi ≤ d.size) (hr : root ≤ d.size) (hsz : d.size < 1152921504606846976) :
    Calls Try.prog 139 #[.slice (some ⟨b, off, none⟩) N cap, .int .i64 (root : Int), .int .i64 (hi : Int), .int .i64 (first : Int)] wr fun e' w' => e' = .returned (.tuple #[]) ∧ ∃ m, w' = rowW w m b off (siftDown ltInt hi first root e) := by
  subst hN
  have h := sift_any b off cap root hi first e wr (by rw [hw.out]; exact rowW_holds hH hs.out) (by rw [hs.out]; exact hf) (by rw [hs.out]; exact hr) (by rw [hs.out]; exact hsz)
  rw [hs.out] at h
  refine h.mono ?_
  rintro e' w' ⟨rfl, m, rfl⟩
  refine ⟨rfl, n + m, ?_⟩
  rw [hw.out]
  exact rowW_rowW (sift_size _ _ _ _ _ _ (Nat.le_refl _))

set_option maxHeartbeats 2000000 in
set_option maxRecDepth 100000 in
/-- 'slices.heapSortOrdered', at uint32. -/
theorem heap_any (b off cap lo hi : Nat) (d : Array Int) (w : World) (hH : Holds encU w b off d) (hab : lo ≤ hi) (hb : hi ≤ d.size) (hsz : d.size < 1152921504606846976) :
    Calls Try.prog 129 #[.slice (some ⟨b, off, none⟩) d.size cap, .int .i64 (lo : Int), .int .i64 (hi : Int)] w fun e w' => e = .returned (.tuple #[]) ∧ ∃ n, w' = rowW w n b off (heapSort ltInt d lo hi) := by
  have HH := Lib.hid hH
  clear hH
  obtain ⟨L, hL⟩ : ∃ L, hi - lo = L := ⟨_, rfl⟩
  have HD : Hid (heapSort ltInt d lo hi = heapPop ltInt lo L (heapBuild ltInt L lo ((L - 1) / 2 + 1) d)) := by refine Lib.hid ?_; rw [← hL]; rfl
  have hL2 : (hi : Int) - (lo : Int) = (L : Int) := by omega
  have hLd : lo + L ≤ d.size := by omega
  have hq : ((L : Int) - 1).tdiv 2 = ((((L - 1) / 2 + 1 : Nat) : Int) - 1) := by
    by_cases h0 : L = 0
    · subst h0; decide
    · rw [Int.tdiv_eq_ediv_of_nonneg (by omega)]; omega
  clear hL
  obtain ⟨K, hK⟩ : ∃ K, (L - 1) / 2 + 1 = K := ⟨_, rfl⟩
  have hKL : K ≤ L / 2 + 1 := by omega
  rw [hK] at HD hq
  clear hK
  go_enter Try.func129, Try.ntmps129
  go_wp2
  go_loopw [9] (fun v9 wr => ∃ (z : Int) (k n : Nat) (dk : Array Int), v9 = .int .i64 z ∧ z + 1 = (k : Int) ∧ k ≤ K ∧ Hid (dk.size = d.size) ∧ Hid (wr = rowW w n b off dk) ∧ Hid (heapPop ltInt lo L (heapBuild ltInt L lo k dk) = heapSort ltInt d lo hi)) (fun v9 _ => (intOf v9 + 1).toNat)
  case atStart => exact ⟨_, K, 0, d, rfl, by omega, Nat.le_refl _, rfl, (rowW_self HH.out).symm, Lib.hid HD.out.symm⟩
  case round =>
    obtain ⟨z, k, n, dk, rfl, hz, hk, HS, HW, HO⟩ := hrel
    by_cases h0 : k = 0
    · subst h0
      obtain rfl : z = -1 := by omega
      have HO2 : Hid (heapPop ltInt lo L dk = heapSort ltInt d lo hi) := HO
      clear HO HD
      go_wp2
      go_loopw [10] (fun v9 wr => ∃ (z : Int) (k n : Nat) (dk : Array Int), v9 = .int .i64 z ∧ z + 1 = (k : Int) ∧ k ≤ L ∧ Hid (dk.size = d.size) ∧ Hid (wr = rowW w n b off dk) ∧ Hid (heapPop ltInt lo k dk = heapSort ltInt d lo hi)) (fun v9 _ => (intOf v9 + 1).toNat)
      case atStart => exact ⟨_, L, n, dk, rfl, by omega, Nat.le_refl _, HS, HW, HO2⟩
      case round =>
        clear HS HW HO2
        obtain ⟨z, k, n, dk, rfl, hz, hk, HS, HW, HO⟩ := hrel
        by_cases h0 : k = 0
        · subst h0
          obtain rfl : z = -1 := by omega
          go_wp2
          go_end0
          exact ⟨rfl, n, by rw [HW.out, ← HO.out]; rfl⟩
        · obtain ⟨j, rfl⟩ : ∃ j, k = j + 1 := ⟨k - 1, by omega⟩
          obtain rfl : z = (j : Int) := by omega
          obtain ⟨G, hG⟩ := row_of HW.out HS.out
          obtain ⟨p, kp⟩ : ∃ p, lo + j = p := ⟨_, rfl⟩
          have KP := Lib.hid kp
          have q1 : (lo : Int) + (j : Int) = (p : Int) := by omega
          have w1 : IntKind.i64.wrap (p : Int) = (p : Int) := IntWalk.i64_in _ ⟨by omega, by omega⟩
          have b1 : p < d.size := by omega
          have b2 : lo < d.size := by omega
          clear kp
          have c1 := hG.cells HH.out p b1
          have c2 := hG.cells HH.out lo b2
          have f1 := hG.free HH.out p b1
          have f2 := hG.free HH.out lo b2
          have HG := Lib.hid hG
          clear hG
          by_cases hj0 : j = 0
          · subst hj0
            obtain rfl : lo = p := by omega
            go_wp2_with fail
            go_region
            all_goals
              have HW3 := Lib.hid (swapped HG.out 1 lo lo b2 b2)
              have HS3 : Hid ((swp dk lo lo).size = d.size) := by refine Lib.hid ?_; rw [size_swp]; exact HS.out
              go_wp2_with fail
              refine (sift_at (root := 0) (hi := 0) HH.out HW3 HS3 rfl (by omega) (by omega) hsz).mono ?_; rintro e w2 ⟨rfl, m, rfl⟩
              go_wp2_with fail
              go_roundw
              case rel => exact ⟨_, 0, m, siftDown ltInt 0 lo 0 (swp dk lo lo), rfl, by omega, by omega, by refine Lib.hid ?_; rw [sift_size _ _ _ _ _ _ (Nat.le_refl _)]; exact HS3.out, Lib.hid rfl, by refine Lib.hid ?_; rw [← HO.out, ← KP.out]; rfl⟩
              case measure => simp [intOf]
          · have hne : lo < p := by omega
            go_wp2_with fail
            go_region
            all_goals
              have HW3 := Lib.hid (swapped HG.out 1 lo p b2 b1)
              have HS3 : Hid ((swp dk lo p).size = d.size) := by refine Lib.hid ?_; rw [size_swp]; exact HS.out
              go_wp2_with fail
              refine (sift_at (root := 0) (hi := j) HH.out HW3 HS3 rfl (by omega) (by omega) hsz).mono ?_; rintro e w2 ⟨rfl, m, rfl⟩
              go_wp2_with fail
              go_roundw
              case rel => exact ⟨_, j, m, siftDown ltInt j lo 0 (swp dk lo p), rfl, by omega, by omega, by refine Lib.hid ?_; rw [sift_size _ _ _ _ _ _ (Nat.le_refl _)]; exact HS3.out, Lib.hid rfl, by refine Lib.hid ?_; rw [← HO.out, ← KP.out]; rfl⟩
              case measure => simp [intOf]
    · obtain ⟨j, rfl⟩ : ∃ j, k = j + 1 := ⟨k - 1, by omega⟩
      obtain rfl : z = (j : Int) := by omega
      go_wp2_with (go_at_call 139; refine (sift_at HH.out HW HS rfl hLd (by omega) hsz).mono ?_; rintro e w2 ⟨rfl, m, hw2⟩)
      go_roundw
      case rel => exact ⟨_, j, m, siftDown ltInt L lo j dk, rfl, by omega, by omega, by refine Lib.hid ?_; rw [sift_size _ _ _ _ _ _ (Nat.le_refl _)]; exact HS.out, Lib.hid rfl, HO⟩
      case measure => simp [intOf]
end Go.Proofs.Ytjoaenfibkgplaa

namespace Go.Proofs.Ytjoaenfibkgplaa
set_option linter.unusedSimpArgs false
open Go.RowKit Go.Cq Go.Sort
set_option linter.unusedVariables false
theorem rev_size {α : Type} [Inhabited α] (n : Nat) : ∀ (i j : Nat) (d : Array α), j - i ≤ n → (reverseLoop i j d).size = d.size := by
  induction n with
  | zero => intro i j d h; rw [reverseLoop, if_neg (by omega)]
  | succ n ih =>
    intro i j d h
    rw [reverseLoop]
    split
    · rw [ih _ _ _ (by omega), size_swp]
    · rfl
theorem rev_step {α : Type} [Inhabited α] {i j : Nat} {d : Array α} (h : i < j) : reverseLoop i j d = reverseLoop (i + 1) (j - 1) (swp d i j) := by rw [reverseLoop, if_pos h]
set_option maxHeartbeats 2000000 in
set_option maxRecDepth 100000 in
/-- 'slices.reverseRangeOrdered', at uint32. -/
theorem rev_any (b off cap lo hi : Nat) (d : Array Int) (w : World) (hH : Holds encU w b off d) (hab : lo < hi) (hb : hi ≤ d.size) (hsz : d.size < 1152921504606846976) :
    Calls Try.prog 132 #[.slice (some ⟨b, off, none⟩) d.size cap, .int .i64 (lo : Int), .int .i64 (hi : Int)] w fun e w' => e = .returned (.tuple #[]) ∧ ∃ n, w' = rowW w n b off (reverseRange d lo hi) := by
  have HH := Lib.hid hH
  clear hH
  obtain ⟨h1, kh⟩ : ∃ h1, hi = h1 + 1 := ⟨hi - 1, by omega⟩
  have HD : Hid (reverseRange d lo hi = reverseLoop lo h1 d) := by refine Lib.hid ?_; rw [kh]; rfl
  have q1 : (hi : Int) - 1 = (h1 : Int) := by omega
  have hh1 : h1 < d.size ∧ lo ≤ h1 := by omega
  clear kh
  go_enter Try.func132, Try.ntmps132
  go_wp2
  go_loopw [6, 7] (fun v6 v7 wr => ∃ (i j n : Nat) (dk : Array Int), v6 = .int .i64 i ∧ v7 = .int .i64 j ∧ i ≤ j + 1 ∧ j < d.size ∧ Hid (dk.size = d.size) ∧ Hid (wr = rowW w n b off dk) ∧ Hid (reverseLoop i j dk = reverseRange d lo hi)) (fun v6 v7 _ => (intOf v7 + 1 - intOf v6).toNat)
  case atStart => exact ⟨lo, h1, 0, d, rfl, rfl, by omega, by omega, rfl, (rowW_self HH.out).symm, Lib.hid HD.out.symm⟩
  case round =>
    obtain ⟨i, j, n, dk, rfl, rfl, hij, hj, HS, HW, HO⟩ := hrel
    clear HD q1
    by_cases hlt : i < j
    · obtain ⟨m, rfl⟩ : ∃ m, j = m + 1 := ⟨j - 1, by omega⟩
      have q2 : ((m + 1 : Nat) : Int) - 1 = (m : Int) := by omega
      have i1 : (i : Int) < ((m + 1 : Nat) : Int) := by omega
      obtain ⟨G, hG⟩ := row_of HW.out HS.out
      have c1 := hG.cells HH.out i (by omega)
      have c2 := hG.cells HH.out (m + 1) hj
      have f1 := hG.free HH.out i (by omega)
      have f2 := hG.free HH.out (m + 1) hj
      have HG := Lib.hid hG
      clear hG
      go_wp2_with fail
      go_region
      all_goals go_wp2
      go_roundw
      case rel => exact ⟨i + 1, m, _, swp dk i (m + 1), by go_num, rfl, by omega, by omega, by refine Lib.hid ?_; rw [size_swp]; exact HS.out, Lib.hid (swapped HG.out 1 i (m + 1) (by omega) hj), by refine Lib.hid ?_; rw [← HO.out]; exact (rev_step hlt).symm⟩
      case measure => simp [intOf]; omega
    · have i1 : ¬ (i : Int) < (j : Int) := by omega
      go_wp2
      go_end0
      exact ⟨rfl, n, by rw [HW.out, ← HO.out, reverseLoop, if_neg hlt]⟩
end Go.Proofs.Ytjoaenfibkgplaa
