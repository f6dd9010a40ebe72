/- reach.places in plain words: the multiples of four, rising, each once. -/
import Derived.Test.YtjoaenfibkgplaaZK
import Derived.Deep.LoopGhost
import Derived.Test.YtjoaenfibkgplaaC2
import Derived.Test.YtjoaenfibkgplaaZG
namespace Go.Proofs.Ytjoaenfibkgplaa
set_option linter.unusedSimpArgs false
open Go.RowKit Go.Cq Go.Shelf Go.Maps
set_option linter.unusedVariables false
theorem comp_step (d : Array Nat) (hs : ∀ i j, i < j → j < d.size → d[i]! ≤ d[j]!) : ∀ m, m ≤ d.size →
    (Lib.compactUpTo d m).Pairwise (· < ·) ∧ (∀ x ∈ Lib.compactUpTo d m, ∃ j, j < m ∧ d[j]! = x) ∧ (∀ j, j < m → d[j]! ∈ Lib.compactUpTo d m) := by
  intro m
  induction m with
  | zero => intro _; exact ⟨List.Pairwise.nil, by simp [Lib.compactUpTo], fun j h => absurd h (Nat.not_lt_zero _)⟩
  | succ m ih =>
    intro hm
    obtain ⟨h1, h2, h3⟩ := ih (by omega)
    rw [Lib.compactUpTo_succ]
    cases hk : Lib.keeps d m with
    | true =>
      rw [if_pos rfl]
      have hlt : ∀ x ∈ Lib.compactUpTo d m, x < d[m]! := by
        intro x hx
        obtain ⟨j, hj, rfl⟩ := h2 x hx
        have hk2 : m = 0 ∨ d[m]! ≠ d[m - 1]! := by simpa [Lib.keeps] using hk
        have a1 := hs (m - 1) m (by omega) (by omega)
        rcases hk2 with h | h
        · omega
        · rcases Nat.lt_or_ge j (m - 1) with h4 | h4
          · have := hs j (m - 1) h4 (by omega); omega
          · have : j = m - 1 := by omega
            subst this; omega
      refine ⟨List.pairwise_append.2 ⟨h1, List.pairwise_singleton _ _, fun a ha b hb => by rw [List.mem_singleton] at hb; rw [hb]; exact hlt a ha⟩, ?_, ?_⟩
      · intro x hx
        rcases List.mem_append.1 hx with h | h
        · obtain ⟨j, hj, e⟩ := h2 x h; exact ⟨j, by omega, e⟩
        · rw [List.mem_singleton] at h; exact ⟨m, by omega, h.symm⟩
      · intro j hj
        rcases Nat.lt_or_ge j m with h | h
        · exact List.mem_append_left _ (h3 j h)
        · obtain rfl : j = m := by omega
          exact List.mem_append_right _ (by simp)
    | false =>
      rw [if_neg Bool.false_ne_true, List.append_nil]
      refine ⟨h1, fun x hx => ?_, fun j hj => ?_⟩
      · obtain ⟨j, hj, e⟩ := h2 x hx; exact ⟨j, by omega, e⟩
      · rcases Nat.lt_or_ge j m with h | h
        · exact h3 j h
        · obtain rfl : j = m := by omega
          have hk2 : 0 < j ∧ d[j]! = d[j - 1]! := by
            have := hk
            simp [Lib.keeps] at this
            exact ⟨by omega, this.2⟩
          rw [hk2.2]
          exact h3 _ (by omega)
theorem sortN_sorted (xs : List Nat) : (sortN xs).Pairwise (· ≤ ·) := by
  have tr : ∀ a b c : Nat, decide (a ≤ b) = true → decide (b ≤ c) = true → decide (a ≤ c) = true := fun a b c h1 h2 => by simp only [decide_eq_true_eq] at *; omega
  have tot : ∀ a b : Nat, (decide (a ≤ b) || decide (b ≤ a)) = true := fun a b => by simp only [Bool.or_eq_true, decide_eq_true_eq]; omega
  have := List.pairwise_mergeSort tr tot xs
  simpa [sortN] using this
theorem compN_of {ys : List Nat} (h : ys.Pairwise (· ≤ ·)) : (compN ys).Pairwise (· < ·) ∧ ∀ x, x ∈ compN ys ↔ x ∈ ys := by
  have hg : ∀ j, j < ys.length → ys.toArray[j]! = ys.getD j 0 := fun j hj => by simp [List.getD, hj]
  have hs : ∀ i j, i < j → j < ys.toArray.size → ys.toArray[i]! ≤ ys.toArray[j]! := by
    intro i j hij hj
    have hj2 : j < ys.length := by simpa using hj
    rw [hg i (by omega), hg j hj2]
    have := List.pairwise_iff_getElem.1 h i j (by omega) hj2 hij
    simpa [List.getD, hj2, show i < ys.length by omega] using this
  obtain ⟨h1, h2, h3⟩ := comp_step ys.toArray hs ys.toArray.size (Nat.le_refl _)
  refine ⟨h1, fun x => ⟨fun hx => ?_, fun hx => ?_⟩⟩
  · obtain ⟨j, hj, rfl⟩ := h2 x hx
    have hj2 : j < ys.length := by simpa using hj
    rw [hg j hj2]
    exact getD_mem ys j hj2
  · obtain ⟨j, hj, rfl⟩ := List.mem_iff_getElem.1 hx
    have := h3 j (by simpa using hj)
    rw [hg j hj] at this
    simpa [List.getD, hj, compN] using this
theorem placesN_spec (xs : List Nat) : (placesN xs).Pairwise (· < ·) ∧ ∀ x, x ∈ placesN xs ↔ x ∈ xs ∧ x % 4 = 0 := by
  obtain ⟨h1, h2⟩ := compN_of (sortN_sorted (delN odd4 xs))
  refine ⟨h1, fun x => ?_⟩
  rw [placesN, h2, (sortN_perm _).mem_iff, delN, List.mem_filter]
  simp [odd4]
theorem placesN_lt {xs : List Nat} (h : ∀ x ∈ xs, x < 4294967296) : ∀ x ∈ placesN xs, x < 4294967296 := fun x hx => h x (((placesN_spec xs).2 x).1 hx).1
theorem placesN_len (xs : List Nat) : (placesN xs).length ≤ xs.length := by
  have h1 : (compN (sortN (delN odd4 xs))).length ≤ (sortN (delN odd4 xs)).length := by
    have := List.length_filter_le (Lib.keeps (sortN (delN odd4 xs)).toArray) (List.range (sortN (delN odd4 xs)).toArray.size)
    simpa [compN, Lib.compactUpTo] using this
  have h2 := delN_le odd4 xs
  rw [sortN_length] at h1
  exact Nat.le_trans h1 h2
theorem rising_ext {xs ys : List Nat} (hx : xs.Pairwise (· < ·)) (hy : ys.Pairwise (· < ·)) (h : ∀ x, x ∈ xs ↔ x ∈ ys) : xs = ys := by
  have hp : xs.Perm ys := (List.perm_ext_iff_of_nodup (hx.imp (fun h => by omega)) (hy.imp (fun h => by omega))).2 h
  refine List.Perm.eq_of_pairwise (le := fun a b => a < b) (fun a b _ _ h1 h2 => by omega) hx hy hp
theorem placesN_ext {xs ys : List Nat} (h : ∀ x, x % 4 = 0 → (x ∈ xs ↔ x ∈ ys)) : placesN xs = placesN ys := by
  obtain ⟨h1, h2⟩ := placesN_spec xs
  obtain ⟨h3, h4⟩ := placesN_spec ys
  refine rising_ext h1 h3 fun x => ?_
  rw [h2, h4]
  constructor
  · rintro ⟨a, b⟩; exact ⟨(h x b).1 a, b⟩
  · rintro ⟨a, b⟩; exact ⟨(h x b).2 a, b⟩
end Go.Proofs.Ytjoaenfibkgplaa

namespace Go.Proofs.Ytjoaenfibkgplaa
set_option linter.unusedSimpArgs false
open Go.RowKit Go.Cq Go.Sort Go.Shelf Go.Maps Go.Lib
set_option linter.unusedVariables false
/-- Places, and whether each was looked behind, as entries. -/
def seenV (L : List (Nat × Bool)) : List (Nat × Value) := L.map fun p => (p.1, Value.bool p.2)
theorem seenV_length (L : List (Nat × Bool)) : (seenV L).length = L.length := by simp [seenV]
theorem seenV_keys (L : List (Nat × Bool)) : (seenV L).map (·.1) = L.map (·.1) := by simp [seenV, Function.comp_def]
def lookB (x : Nat) (L : List (Nat × Bool)) : Option Bool := (L.find? fun p => p.1 == x).map (·.2)
theorem aFind_seen (x : Nat) (L : List (Nat × Bool)) (i : Nat) : (aFind x (seenV L) i).map (·.2) = (lookB x L).map Value.bool := by
  induction L generalizing i with
  | nil => rfl
  | cons p r ih =>
    unfold seenV lookB at *
    rw [List.map_cons, aFind, List.find?_cons]
    by_cases h : p.1 = x
    · simp [h]
    · rw [if_neg h]
      have : (p.1 == x) = false := by simpa using h
      rw [this]
      exact ih (i + 1)
theorem aFind_seen_some (x : Nat) (L : List (Nat × Bool)) (i : Nat) : (aFind x (seenV L) i).isSome = (lookB x L).isSome := by
  have h := aFind_seen x L i
  cases h1 : aFind x (seenV L) i <;> cases h2 : lookB x L <;> simp_all
def addOne (most : Nat) (L : List (Nat × Bool)) (x : Nat) : List (Nat × Bool) := if (lookB x L).isNone && decide (L.length < most) then L ++ [(x, false)] else L
def addN (most : Nat) (L : List (Nat × Bool)) (xs : List Nat) : List (Nat × Bool) := xs.foldl (addOne most) L
theorem addOne_hit {most x : Nat} {L : List (Nat × Bool)} {v : Bool} (h : lookB x L = some v) : addOne most L x = L := by unfold addOne; rw [h]; rfl
theorem addOne_full {most x : Nat} {L : List (Nat × Bool)} (h : ¬ L.length < most) : addOne most L x = L := by unfold addOne; rw [decide_eq_false h, Bool.and_false]; rfl
theorem addOne_new {most x : Nat} {L : List (Nat × Bool)} (h : lookB x L = none) (h2 : L.length < most) : addOne most L x = L ++ [(x, false)] := by unfold addOne; rw [h, decide_eq_true h2]; rfl
theorem addN_snoc (most : Nat) (L : List (Nat × Bool)) (xs : List Nat) (k : Nat) (h : k < xs.length) : addN most L (xs.take (k + 1)) = addOne most (addN most L (xs.take k)) (xs.getD k 0) := by
  unfold addN
  rw [List.take_succ_eq_append_getElem h, List.foldl_append]
  simp [List.getD, h]
theorem addOne_length {most x : Nat} {L : List (Nat × Bool)} {n : Nat} (h : L.length ≤ n) (h2 : most ≤ n) : (addOne most L x).length ≤ n := by
  unfold addOne
  split
  · rename_i h3
    simp only [Bool.and_eq_true, decide_eq_true_eq] at h3
    simp; omega
  · exact h
theorem addN_length {most : Nat} {n : Nat} (h2 : most ≤ n) (xs : List Nat) : ∀ {L : List (Nat × Bool)}, L.length ≤ n → (addN most L xs).length ≤ n := by
  induction xs with
  | nil => exact fun h => h
  | cons x xs ih => exact fun h => ih (addOne_length h h2)
theorem seen_new {x : Nat} {L : List (Nat × Bool)} (h : lookB x L = none) : aSet x (.bool false) (seenV L) = seenV (L ++ [(x, false)]) := by
  have h1 := aFind_seen x L 0
  rw [h] at h1
  rw [aSet_miss (i := 0) (by simpa using h1)]
  simp [seenV]
theorem zero4s (w : World) : (zeroValue 4).run Try.prog w = .ok (.bool false) w := by kernel_rfl
theorem isMap_of {w : World} {b : Nat} {L : List (Nat × Value)} (h : MapC w b L) : ∀ r, some b = some r → ∃ o : Obj, w.heap[r]? = some o ∧ o.isCells = false := by
  intro r e
  cases e
  obtain ⟨es, c, h1, _⟩ := h
  exact ⟨_, h1, rfl⟩
set_option maxHeartbeats 1000000 in
/-- 'add', of 'reach.All'. -/
theorem add_any {a : Option Addr} {len cap sb tb b most : Nat} {xs : List Nat} {L : List (Nat × Bool)} (w : World) (hN : Nums w .u32 a len cap xs) (hx : ∀ x ∈ xs, x < 4294967296) (hlen : len ≤ 1000000)
    (c1 : w.cell? ⟨sb, 0, none⟩ = some (.map (some b))) (c2 : w.cell? ⟨tb, 0, none⟩ = some (.int .i64 (most : Int))) (hm : MapC w b (seenV L)) (hl : L.length ≤ 1000) (hmost : most ≤ 1000) :
    Calls Try.prog 71 #[.slice a len cap, .pointer (some ⟨sb, 0, none⟩), .pointer (some ⟨tb, 0, none⟩)] w fun e w' => e = .returned (.tuple #[]) ∧ MapC w' b (seenV (addN most L xs)) ∧ w.grownBy w' (some b) := by
  have HN := Lib.hid hN
  have HX := Lib.hid hx
  have HM := Lib.hid hm
  have HC1 := Lib.hid c1
  have HC2 := Lib.hid c2
  have HXL : Hid (xs.length = len) := hN.1
  clear hN hx hm c1 c2
  go_enter Try.func71, Try.ntmps71
  go_wp2
  go_loopw [10] (fun v wr => ∃ k : Nat, v = .int .i64 (k : Int) ∧ k ≤ len ∧ Hid (MapC wr b (seenV (addN most L (xs.take k)))) ∧ Hid (w.grownBy wr (some b))) (fun v _ => len - (intOf v).toNat)
  case atStart => exact ⟨0, rfl, by omega, HM, Lib.hid (World.grownBy.refl _ _)⟩
  case round =>
    obtain ⟨k, rfl, hk, HMR, HG⟩ := hrel
    by_cases hlt : k < len
    · have hlt2 : (k : Int) < (len : Int) := by omega
      obtain ⟨b1, o1, rfl, -, hc⟩ := (nums_own HN.out HG.out (isMap_of HM.out)).2.2.2 k hlt
      have c1 := Go.cell_kept HC1.out HG.out (isMap_of HM.out)
      have c2 := Go.cell_kept HC2.out HG.out (isMap_of HM.out)
      have HS := Lib.hid (addN_snoc most L xs k (by rw [HXL.out]; exact hlt))
      have hlen2 := addN_length hmost (xs.take k) hl
      have HU : Hid (xs.getD k 0 < 4294967296) := HX.out _ (getD_mem _ _ (by rw [HXL.out]; omega))
      generalize xs.getD k 0 = x at hc HS HU
      obtain ⟨M, hM⟩ : ∃ M, addN most L (xs.take k) = M := ⟨_, rfl⟩
      rw [hM] at HMR HS hlen2
      clear hM
      have hlk := HMR.out.lookup_ok (k := x) (P := Try.prog) Try.underlying106 Try.underlying27 zero4s
      rw [aFind_seen, aFind_seen_some] at hlk
      have hle := fun ty => HMR.out.len (P := Try.prog) Try.underlying106 ty
      rw [seenV_length] at hle
      cases hq : lookB x M with
      | some v =>
        rw [hq] at hlk
        simp only [Option.map_some, Option.getD_some, Option.isSome_some] at hlk
        have HQ := Lib.hid (addOne_hit (most := most) hq)
        clear hq hle
        go_wp2
        go_roundw
        case rel => exact ⟨k + 1, by go_num, by omega, by rw [HS.out, HQ.out]; exact HMR, HG⟩
        case measure => simp [intOf]; omega
      | none =>
        rw [hq] at hlk
        simp only [Option.map_none, Option.getD_none, Option.isSome_none] at hlk
        by_cases hf : M.length < most
        · have hf2 : (M.length : Int) < (most : Int) := by omega
          have HQ := Lib.hid (addOne_new hq hf)
          obtain ⟨w2, hu, hm2, hg2⟩ := HMR.out.update (k := x) (v := .bool false) (P := Try.prog) Try.underlying106 Try.underlying27
          rw [seen_new hq] at hm2
          have HM2 := Lib.hid hm2
          have HG2 := Lib.hid hg2
          clear hq hm2 hg2
          go_wp2
          go_roundw
          case rel => exact ⟨k + 1, by go_num, by omega, by rw [HS.out, HQ.out]; exact HM2, Lib.hid (HG.out.trans HG2.out)⟩
          case measure => simp [intOf]; omega
        · have hf2 : ¬ (M.length : Int) < (most : Int) := by omega
          have HQ := Lib.hid (addOne_full (x := x) hf)
          clear hq
          go_wp2
          go_roundw
          case rel => exact ⟨k + 1, by go_num, by omega, by rw [HS.out, HQ.out]; exact HMR, HG⟩
          case measure => simp [intOf]; omega
    · obtain rfl : k = len := by omega
      have hlt2 : ¬ (k : Int) < (k : Int) := by omega
      have HT : Hid (xs.take k = xs) := Lib.hid (List.take_of_length_le (by rw [HXL.out]; omega))
      go_wp2
      go_end0
      exact ⟨rfl, by rw [← HT.out]; exact HMR.out, HG.out⟩
end Go.Proofs.Ytjoaenfibkgplaa

namespace Go.Proofs.Ytjoaenfibkgplaa
set_option linter.unusedSimpArgs false
open Go.RowKit Go.Cq Go.Sort Go.Shelf Go.Maps Go.Lib
set_option linter.unusedVariables false
theorem find_hit (p : Nat → Bool) (xs : List Nat) : ∀ k, k < xs.length → p (xs.getD k 0) = true → (∀ j, j < k → p (xs.getD j 0) = false) → xs.find? p = some (xs.getD k 0) := by
  induction xs with
  | nil => intro k h; simp at h
  | cons x xs ih =>
    intro k hk h1 h2
    cases k with
    | zero => rw [List.find?_cons]; simp at h1; simp [h1]
    | succ k =>
      have h0 := h2 0 (by omega)
      simp only [List.getD_cons_zero] at h0
      rw [List.find?_cons, h0]
      exact ih k (by simpa using hk) (by simpa using h1) (fun j hj => by simpa using h2 (j + 1) (by omega))
theorem find_miss (p : Nat → Bool) (xs : List Nat) (h : ∀ j, j < xs.length → p (xs.getD j 0) = false) : xs.find? p = none := by
  rw [List.find?_eq_none]
  intro x hx
  obtain ⟨j, hj, rfl⟩ := List.mem_iff_getElem.1 hx
  have := h j hj
  rw [List.getD_eq_getElem?_getD, List.getElem?_eq_getElem hj] at this
  simpa using this
def lowB (L : List (Nat × Bool)) (x : Nat) : Bool := !(lookB x L).getD false
def lowN (L : List (Nat × Bool)) : Option Nat := (sortN (L.map (·.1))).find? (lowB L)
def lowV : Option Nat → Value
  | some x => .tuple #[.int .u32 (x : Int), .bool true]
  | none => .tuple #[.int .u32 0, .bool false]
theorem sortN_mem {xs : List Nat} {x : Nat} (h : x ∈ sortN xs) : x ∈ xs := (sortN_perm xs).mem_iff.1 h
set_option maxHeartbeats 1000000 in
/-- 'lowest', of 'reach.All'. -/
theorem low_any {sb b : Nat} {L : List (Nat × Bool)} (w : World) (c1 : w.cell? ⟨sb, 0, none⟩ = some (.map (some b))) (hm : MapC w b (seenV L)) (hk : ∀ p ∈ L, p.1 < 4294967296) (hl : L.length ≤ 1000) :
    Calls Try.prog 73 #[.pointer (some ⟨sb, 0, none⟩)] w fun e w' => e = .returned (lowV (lowN L)) ∧ Below w.heap.size w w' := by
  have HM := Lib.hid hm
  have HC1 := Lib.hid c1
  have HK : Hid (∀ p ∈ seenV L, p.1 < 4294967296) := by
    refine Lib.hid ?_
    intro p hp
    obtain ⟨q, hq, rfl⟩ := List.mem_map.1 hp
    exact hk q hq
  have hsb : sb < w.heap.size := cell_blk2 c1
  clear hk hm
  go_enter Try.func73, Try.ntmps73
  go_wp2_with fail
  refine (keys_any b _).mono ?_
  rintro e w1 ⟨rfl, rfl⟩
  go_wp2_with fail
  refine (sortedKeys_any w HM.out HK.out (by rw [seenV_length]; omega)).mono ?_
  rintro e w2 ⟨v, rfl, ho, hb⟩
  have hel : (seenV L).length = (sortN ((seenV L).map (·.1))).length := by rw [sortN_length, List.length_map]
  rw [hel] at ho
  obtain ⟨a, cap, rfl, hN⟩ := Nums.of_own ho
  rw [seenV_keys] at hN ⊢
  obtain ⟨ks, hks⟩ : ∃ ks, sortN (L.map (·.1)) = ks := ⟨_, rfl⟩
  have hkl : ks.length ≤ 1000 := by rw [← hks, sortN_length, List.length_map]; exact hl
  have hkx : ∀ x ∈ ks, x < 4294967296 := fun x hx => by
    rw [← hks] at hx
    obtain ⟨p, hp, rfl⟩ := List.mem_map.1 (sortN_mem hx)
    exact HK.out (p.1, .bool p.2) (List.mem_map.2 ⟨p, hp, rfl⟩)
  rw [hks] at hN ⊢
  have HKS : Hid (lowN L = ks.find? (lowB L)) := by refine Lib.hid ?_; unfold lowN; rw [hks]
  have HN := Lib.hid hN
  have HX := Lib.hid hkx
  have HB : Hid (Below w.heap.size w w2) := Lib.hid (((Below.refl _ _).alloc (Nat.le_refl _) _).trans (hb.mono (by simp)))
  have HM2 := Lib.hid (HM.out.kept HB.out HM.out.lt)
  have c2 : w2.cell? ⟨sb, 0, none⟩ = some (.map (some b)) := (HB.out.cell (p := ⟨sb, 0, none⟩) hsb).trans c1
  obtain ⟨n, hn⟩ : ∃ n, ks.length = n := ⟨_, rfl⟩
  have HLN := Lib.hid hn
  rw [hn] at HN hkl ⊢
  clear ho hb hN hkx hks c1 HC1 hel hn
  go_wp2_with fail
  go_loopw [9] (fun v wr => ∃ k : Nat, v = .int .i64 (k : Int) ∧ k ≤ n ∧ wr = w2 ∧ Hid (∀ j, j < k → lowB L (ks.getD j 0) = false)) (fun v _ => n - (intOf v).toNat)
  case atStart => exact ⟨0, rfl, by omega, rfl, Lib.hid (fun j hj => absurd hj (Nat.not_lt_zero _))⟩
  case round =>
    obtain ⟨k, rfl, hk, rfl, HA⟩ := hrel
    by_cases hlt : k < n
    · have hlt2 : (k : Int) < (n : Int) := by omega
      obtain ⟨b1, o1, rfl, -, hc⟩ := HN.out.2.2.2 k hlt
      have HF := Lib.hid (find_hit (lowB L) ks k (by rw [HLN.out]; exact hlt))
      have HS : Hid (∀ x, ks.getD k 0 = x → ∀ j, j < k + 1 → lowB L x = false → lowB L (ks.getD j 0) = false) := by
        refine Lib.hid ?_
        rintro x rfl j hj h
        rcases Nat.lt_or_ge j k with h2 | h2
        · exact HA.out j h2
        · obtain rfl : j = k := by omega
          exact h
      obtain ⟨x, hx⟩ : ∃ x, ks.getD k 0 = x := ⟨_, rfl⟩
      have HS2 := Lib.hid (HS.out x hx)
      rw [hx] at hc HF
      clear hx HS
      have hlk := HM2.out.lookup (k := x) (P := Try.prog) Try.underlying106 Try.underlying27 zero4s
      rw [aFind_seen] at hlk
      have e1 : ((lookB x L).map Value.bool).getD (.bool false) = .bool (!lowB L x) := by
        unfold lowB
        cases lookB x L <;> simp
      rw [e1] at hlk
      cases hq : lowB L x with
      | false =>
        rw [hq] at hlk
        simp only [Bool.not_false] at hlk
        have HQ := Lib.hid hq
        clear hq e1
        go_wp2
        go_roundw
        case rel => exact ⟨k + 1, by go_num, by omega, trivial, Lib.hid (fun j hj => HS2.out j hj HQ.out)⟩
        case measure => simp [intOf]; omega
      | true =>
        rw [hq] at hlk
        simp only [Bool.not_true] at hlk
        have HQ : Hid (lowN L = some x) := Lib.hid (by rw [HKS.out]; exact HF.out hq HA.out)
        clear hq e1
        go_wp2
        refine bodyPost_ret (results_tmp2 rfl _ _ _) rfl ?_
        exact ⟨by rw [HQ.out]; rfl, HB.out⟩
    · obtain rfl : k = n := by omega
      have hlt2 : ¬ (k : Int) < (k : Int) := by omega
      have HQ : Hid (lowN L = none) := Lib.hid (by rw [HKS.out]; exact find_miss _ _ (by rw [HLN.out]; exact HA.out))
      go_wp2
      refine bodyPost_ret (results_tmp2 rfl _ _ _) rfl ?_
      exact ⟨by rw [HQ.out]; rfl, HB.out⟩
end Go.Proofs.Ytjoaenfibkgplaa

namespace Go.Proofs.Ytjoaenfibkgplaa
set_option linter.unusedSimpArgs false
open Go.RowKit Go.Cq Go.Shelf Go.Maps
set_option linter.unusedVariables false
/-- A place is looked behind. -/
def markN (x : Nat) : List (Nat × Bool) → List (Nat × Bool)
  | [] => [(x, true)]
  | p :: r => if p.1 = x then (x, true) :: r else p :: markN x r
theorem aSet_seen (x : Nat) (L : List (Nat × Bool)) : aSet x (.bool true) (seenV L) = seenV (markN x L) := by
  induction L with
  | nil => rfl
  | cons p r ih =>
    unfold seenV at *
    rw [List.map_cons, aSet, markN]
    by_cases h : p.1 = x
    · rw [if_pos h, if_pos h]; rfl
    · rw [if_neg h, if_neg h, List.map_cons, ih]
def cntT (L : List (Nat × Bool)) : Nat := L.countP (·.2)
theorem cntT_le (L : List (Nat × Bool)) : cntT L ≤ L.length := List.countP_le_length
theorem cntT_addOne (most : Nat) (L : List (Nat × Bool)) (x : Nat) : cntT (addOne most L x) = cntT L := by
  unfold addOne cntT
  split
  · simp
  · rfl
theorem cntT_addN (most : Nat) (xs : List Nat) : ∀ L, cntT (addN most L xs) = cntT L := by
  induction xs with
  | nil => intro L; rfl
  | cons x xs ih => intro L; exact (ih _).trans (cntT_addOne _ _ _)
theorem lookB_mark {x : Nat} {L : List (Nat × Bool)} (h : lookB x L = some false) : cntT (markN x L) = cntT L + 1 ∧ (markN x L).length = L.length := by
  induction L with
  | nil => simp [lookB] at h
  | cons p r ih =>
    unfold lookB at h ih
    rw [List.find?_cons] at h
    rw [markN]
    by_cases hp : p.1 = x
    · have e : (p.1 == x) = true := by simpa using hp
      rw [e] at h
      simp only [Option.map_some, Option.some.injEq] at h
      rw [if_pos hp]
      unfold cntT
      rw [List.countP_cons, List.countP_cons, h]
      simp
    · have e : (p.1 == x) = false := by simpa using hp
      rw [e] at h
      obtain ⟨h1, h2⟩ := ih h
      rw [if_neg hp]
      unfold cntT at h1 ⊢
      rw [List.countP_cons, List.countP_cons, h1]
      simp only [List.length_cons, h2]
      exact ⟨by omega, trivial⟩
theorem lookB_mem {x : Nat} {L : List (Nat × Bool)} (h : x ∈ L.map (·.1)) : ∃ v, lookB x L = some v := by
  cases hq : lookB x L with
  | some v => exact ⟨v, rfl⟩
  | none =>
    unfold lookB at hq
    rw [Option.map_eq_none_iff, List.find?_eq_none] at hq
    obtain ⟨p, hp, rfl⟩ := List.mem_map.1 h
    exact absurd (by simp) (hq p hp)
theorem low_false {x : Nat} {L : List (Nat × Bool)} (h : lowN L = some x) : lookB x L = some false ∧ x ∈ L.map (·.1) := by
  unfold lowN at h
  have h1 := List.find?_some h
  have h2 := sortN_mem (List.mem_of_find?_eq_some h)
  obtain ⟨v, hv⟩ := lookB_mem h2
  unfold lowB at h1
  rw [hv] at h1
  cases v
  · exact ⟨hv, h2⟩
  · cases h1
/-- The places that are seen, so many rounds on. -/
def reachN (next : Nat → List Nat) (most : Nat) : Nat → List (Nat × Bool) → List (Nat × Bool)
  | 0, L => L
  | n + 1, L => if L.length < most then match lowN L with
      | none => L
      | some x => reachN next most n (addN most (markN x L) (next x))
    else L
theorem reachN_full {next : Nat → List Nat} {most n : Nat} {L : List (Nat × Bool)} (h : ¬ L.length < most) : reachN next most n L = L := by
  cases n with
  | zero => rfl
  | succ n => rw [reachN, if_neg h]
theorem reachN_none {next : Nat → List Nat} {most n : Nat} {L : List (Nat × Bool)} (h : lowN L = none) : reachN next most n L = L := by
  cases n with
  | zero => rfl
  | succ n => rw [reachN, h]; simp
theorem reachN_some {next : Nat → List Nat} {most n x : Nat} {L : List (Nat × Bool)} (h : L.length < most) (h2 : lowN L = some x) : reachN next most (n + 1) L = reachN next most n (addN most (markN x L) (next x)) := by
  rw [reachN, if_pos h, h2]
/-- What 'reach.All' answers. -/
def clampN (m : Int) : Nat := (max 0 (min m 1000)).toNat
def seenN (next : Nat → List Nat) (m : Int) (xs : List Nat) : List (Nat × Bool) := reachN next (clampN m) (clampN m + 1) (addN (clampN m) [] (placesN xs))
def allN (next : Nat → List Nat) (none' : Nat → Bool) (m : Int) (xs : List Nat) : List Nat := delN none' (sortN ((seenN next m xs).map (·.1)))
theorem keys_mark {x : Nat} {L : List (Nat × Bool)} : ∀ p ∈ markN x L, p.1 = x ∨ p.1 ∈ L.map (·.1) := by
  induction L with
  | nil => intro p hp; simp [markN] at hp; exact .inl (by rw [hp])
  | cons q r ih =>
    intro p hp
    rw [markN] at hp
    split at hp
    · rcases List.mem_cons.1 hp with rfl | hp
      · exact .inl rfl
      · exact .inr (List.mem_map.2 ⟨p, List.mem_cons_of_mem _ hp, rfl⟩)
    · rcases List.mem_cons.1 hp with rfl | hp
      · exact .inr (by simp)
      · rcases ih p hp with h | h
        · exact .inl h
        · exact .inr (by rw [List.map_cons]; exact List.mem_cons_of_mem _ h)
theorem keys_addOne {most x : Nat} {L : List (Nat × Bool)} : ∀ p ∈ addOne most L x, p ∈ L ∨ p.1 = x := by
  intro p hp
  unfold addOne at hp
  split at hp
  · rcases List.mem_append.1 hp with h | h
    · exact .inl h
    · rw [List.mem_singleton] at h; exact .inr (by rw [h])
  · exact .inl hp
theorem keys_addN {most : Nat} (xs : List Nat) : ∀ L, ∀ p ∈ addN most L xs, p ∈ L ∨ p.1 ∈ xs := by
  induction xs with
  | nil => intro L p hp; exact .inl hp
  | cons x xs ih =>
    intro L p hp
    rcases ih _ p hp with h | h
    · rcases keys_addOne p h with h | h
      · exact .inl h
      · exact .inr (by rw [h]; exact List.mem_cons_self)
    · exact .inr (List.mem_cons_of_mem _ h)
end Go.Proofs.Ytjoaenfibkgplaa

namespace Go.Proofs.Ytjoaenfibkgplaa
set_option linter.unusedSimpArgs false
open Go.RowKit Go.Cq Go.Shelf Go.Maps
set_option linter.unusedVariables false
theorem Fetches.one {S : MS} {a : Nat} {xs ys : List U32} (h : Fetches S a xs) (h2 : Fetches S a ys) : xs = ys := by
  induction h generalizing ys with
  | out a ha =>
    cases h2 with
    | out _ _ => rfl
    | stop _ h _ => omega
    | go _ _ _ h _ _ _ => omega
  | stop a ha hk =>
    cases h2 with
    | out _ h => omega
    | stop _ _ _ => rfl
    | go _ _ _ _ h _ _ => exact absurd h hk
  | go a x xs ha hk hx hr ih =>
    cases h2 with
    | out _ h => omega
    | stop _ _ h => exact absurd hk h
    | go _ y ys _ _ hy hr2 =>
      rw [ih hr2, Subtype.ext (hx.trans hy.symm)]
/-- What 'block.Cut' answers. -/
noncomputable def cutN (S : MS) (x : Nat) : List Nat := open Classical in if h : ∃ xs, Fetches S x xs then cutGo (h.choose.map (·.1)) [] false else []
theorem cutN_of {S : MS} {x : Nat} {xs : List U32} (h : Fetches S x xs) : cutN S x = cutGo (xs.map (·.1)) [] false := by
  have h2 : ∃ xs, Fetches S x xs := ⟨xs, h⟩
  unfold cutN
  rw [dif_pos h2, h2.choose_spec.one h]
theorem cutN_lt (S : MS) (x : Nat) : ∀ y ∈ cutN S x, y < 4294967296 := by
  intro y hy
  unfold cutN at hy
  split at hy
  · rcases cutGo_mem _ _ _ y hy with h | h
    · obtain ⟨z, _, rfl⟩ := List.mem_map.1 h
      exact z.2
    · cases h
  · cases hy
theorem cutN_any {B mb mm wm : Nat} {S : MS} (x : Nat) (w : World) (hx : x < 4294967296) (hM : MemAt w B mb mm wm S) :
    Calls Try.prog 13 #[.pointer (some ⟨mb, 0, none⟩), .int .u32 (x : Int)] w fun e w' => ∃ a cap, e = .returned (.slice a (cutN S x).length cap) ∧ Nums w' .u32 a (cutN S x).length cap (cutN S x) ∧ Below w.heap.size w w' := by
  obtain ⟨xs, hF⟩ := Fetches.ex hM x
  refine (cut_any x w hx hM xs hF).mono ?_
  rintro e w' ⟨a, len, cap, rfl, hN, hb⟩
  rw [← cutN_of hF] at hN
  obtain rfl := hN.1
  exact ⟨a, cap, rfl, hN, hb⟩
theorem cutN_len {w : World} {B mb mm wm : Nat} {S : MS} (hM : MemAt w B mb mm wm S) (x : Nat) : (cutN S x).length ≤ 16 := by
  obtain ⟨xs, hF⟩ := Fetches.ex hM x
  rw [cutN_of hF]
  rcases cutGo_right (xs.map (·.1)) [] (by intro x hx; cases hx) (by decide) with h | h
  · rw [h]; decide
  · exact (rightN_len h).2
noncomputable def noneAt (S : MS) (x : Nat) : Bool := decide ((cutN S x).length = 0)
/-- Whether there is no block. -/
theorem none_any {B mb mm wm qb : Nat} {S : MS} (x : Nat) (w : World) (hx : x < 4294967296) (hM : MemAt w B mb mm wm S) (c1 : w.cell? ⟨qb, 0, none⟩ = some (.pointer (some ⟨mb, 0, none⟩))) :
    Calls Try.prog 77 #[.int .u32 (x : Int), .pointer (some ⟨qb, 0, none⟩)] w fun e w' => e = .returned (.bool (noneAt S x)) ∧ Below w.heap.size w w' := by
  have HM := Lib.hid hM
  have hcl := cutN_len hM x
  clear hM
  have HNA : Hid (∀ n, (cutN S x).length = n → noneAt S x = decide (n = 0)) := Lib.hid (fun n h => by unfold noneAt; rw [h])
  go_enter Try.func77, Try.ntmps77
  go_wp2_with fail
  refine (cutN_any x _ hx HM.out).mono ?_
  rintro e w1 ⟨a, cap, rfl, hN, hb⟩
  have HN := Lib.hid hN
  have HB := Lib.hid hb
  clear hN hb
  obtain ⟨n, hn⟩ : ∃ n, (cutN S x).length = n := ⟨_, rfl⟩
  have HD := Lib.hid (HNA.out n hn)
  rw [hn] at hcl HN ⊢
  clear hn
  by_cases h0 : n = 0
  · subst h0
    go_wp2
    go_ret
    exact ⟨by rw [HD.out]; rfl, HB.out⟩
  · have h1 : ((n : Int) == 0) = false := beq_eq_false_iff_ne.2 (by omega)
    have HD2 : Hid (decide (n = 0) = false) := Lib.hid (decide_eq_false h0)
    clear h0
    go_wp2
    go_ret
    exact ⟨by rw [HD.out, HD2.out]; rfl, HB.out⟩
/-- Where an instruction that jumps leads to. -/
def targetN (i : Insn) (next v : Nat) : Nat := if i.op = 27 ∨ i.op = 28 then v else if i.op = 68 ∨ i.op = 69 then (next &&& 4026531840) ||| i.imm else (next + i.imm) % 4294967296
theorem ret_u32b {a b : Int} (h : a = b) : Ending.returned (.int .u32 a) = .returned (.int .u32 b) := by rw [h]
theorem target_any (i : Insn) (next v : Nat) (w : World) (hn : next < 4294967296) (hi : i.imm < 4294967296) :
    Calls Try.prog 107 #[.agg (insVals i), .int .u32 (next : Int), .int .u32 (v : Int)] w fun e w' => e = .returned (.int .u32 (targetN i next v : Nat)) ∧ Below w.heap.size w w' := by
  obtain ⟨op, s, t, d, a, imm⟩ := i
  unfold insVals
  simp only at hi
  have ha : bits .and .u32 (next : Int) 4026531840 = ((next &&& 4026531840 : Nat) : Int) := u32_and_nat next 4026531840 hn (by decide)
  have hal : next &&& 4026531840 < 4294967296 := Nat.lt_of_le_of_lt Nat.and_le_left hn
  have hb := u32_or_nat (next &&& 4026531840) imm hal hi
  obtain ⟨m, hm⟩ : ∃ m, next &&& 4026531840 = m := ⟨_, rfl⟩
  rw [hm] at ha hb hal
  have HM := Lib.hid hm
  clear hm
  have e1 : IntKind.u32.wrap ((next : Int) + (imm : Int)) = (((next + imm) % 4294967296 : Nat) : Int) := by rw [IntKind.wrap_u32]; omega
  by_cases h1 : op = 28
  · subst h1
    go_enter Try.func107, Try.ntmps107
    go_wp2
    go_ret
    exact ⟨rfl, (Below.refl _ _).alloc (Nat.le_refl _) _⟩
  · by_cases h2 : op = 27
    · subst h2
      go_enter Try.func107, Try.ntmps107
      go_wp2
      go_ret
      exact ⟨rfl, (Below.refl _ _).alloc (Nat.le_refl _) _⟩
    · by_cases h3 : op = 69
      · subst h3
        go_enter Try.func107, Try.ntmps107
        go_wp2
        go_ret
        exact ⟨ret_u32b (by rw [← HM.out]; rfl), (Below.refl _ _).alloc (Nat.le_refl _) _⟩
      · by_cases h4 : op = 68
        · subst h4
          go_enter Try.func107, Try.ntmps107
          go_wp2
          go_ret
          exact ⟨ret_u32b (by rw [← HM.out]; rfl), (Below.refl _ _).alloc (Nat.le_refl _) _⟩
        · have g1 : ¬ (op : Int) = 28 := by omega
          have g2 : ¬ (op : Int) = 27 := by omega
          have g3 : ¬ (op : Int) = 69 := by omega
          have g4 : ¬ (op : Int) = 68 := by omega
          have HT : Hid (targetN ⟨op, s, t, d, a, imm⟩ next v = (next + imm) % 4294967296) := by
            refine Lib.hid ?_
            unfold targetN
            rw [if_neg (by simp only; omega), if_neg (by simp only; omega)]
          clear h1 h2 h3 h4
          go_enter Try.func107, Try.ntmps107
          go_wp2
          go_ret
          exact ⟨by rw [HT.out]; rfl, (Below.refl _ _).alloc (Nat.le_refl _) _⟩
end Go.Proofs.Ytjoaenfibkgplaa

namespace Go.Proofs.Ytjoaenfibkgplaa
set_option linter.unusedSimpArgs false
open Go.RowKit Go.Cq Go.Shelf Go.Maps
set_option linter.unusedVariables false
theorem own_mono {w : World} {base base2 : Nat} {e : TypeId} {size : Nat} {v : Value} {n : Nat} {xs : List Value} (h : w.ownsRow base e size v n xs) (hb : base2 ≤ base) : w.ownsRow base2 e size v n xs := by
  obtain ⟨h1, h2⟩ := h
  refine ⟨h1, ?_⟩
  rcases h2 with h2 | ⟨g, cap, cur, rfl, hg, h3⟩
  · exact .inl h2
  · exact .inr ⟨g, cap, cur, rfl, Nat.le_trans hb hg, h3⟩
/-- A row of places that a call made. -/
def OwnPost (w : World) (xs : List Nat) (e : Ending) (w' : World) : Prop := ∃ v, e = .returned v ∧ w'.ownsRow w.heap.size 27 1 v xs.length (nums .u32 xs) ∧ Below w.heap.size w w'
theorem places_own {base : Nat} {v : Value} {xs : List Nat} {w0 w : World} (hb : Below w0.heap.size w0 w) (h : w.ownsRow base 27 1 v xs.length (nums .u32 xs)) (hx : ∀ x ∈ xs, x < 4294967296) (hn : xs.length ≤ 50000) :
    Calls Try.prog 72 #[v] w fun e w' => OwnPost w0 (placesN xs) e w' := by
  refine (places_any h hx hn).mono ?_
  rintro e w' ⟨v', rfl, ho, hb2⟩
  exact ⟨v', rfl, own_mono ho hb.size, hb.trans (hb2.mono hb.size)⟩
/-- Where a block that jumps leads to. -/
def afterJ (i : Insn) (e : Nat) : List Nat :=
  if i.op = 27 then [] else if i.op = 28 then [e] else if i.op = 68 then [targetN i ((e + 4294967292) % 4294967296) 0] else [targetN i ((e + 4294967292) % 4294967296) 0, e]
/-- What 'reach.Next' answers. -/
noncomputable def nextN (S : MS) (x : Nat) : List Nat :=
  if (cutN S x).length = 0 then (if fetchK S x = 0 ∧ (decN (fetchW S x)).op = 35 then placesN [(x + 4) % 4294967296] else [])
  else if jumpsN (cutN S x) then placesN (afterJ (decN ((cutN S x).getD ((cutN S x).length - 2) 0)) ((x + 4 * (cutN S x).length) % 4294967296))
  else placesN [(x + 4 * (cutN S x).length) % 4294967296]
theorem info27n : (Try.prog.info? 27).map (fun i => (i.zero, i.size, i.bytes)) = some (some (.int .u32 0), 1, 4) := Try.info27
theorem u32_end (x n : Nat) (hx : x < 4294967296) (hn : n ≤ 16) : IntKind.u32.wrap ((x : Int) + 4 * (n : Int)) = (((x + 4 * n) % 4294967296 : Nat) : Int) := by rw [IntKind.wrap_u32]; omega
theorem u32_one {x : Nat} (h : x < 4294967296) : ∀ y ∈ [x], y < 4294967296 := by intro y hy; rw [List.mem_singleton] at hy; rw [hy]; exact h
set_option maxRecDepth 100000 in
set_option maxHeartbeats 1000000 in
theorem next_sys {B mb mm wm : Nat} {S : MS} (x : Nat) (w : World) (hx : x < 4294967296) (hM : MemAt w B mb mm wm S) (hl : (cutN S x).length = 0) (hk : fetchK S x = 0) :
    Calls Try.prog 70 #[.pointer (some ⟨mb, 0, none⟩), .int .u32 (x : Int)] w fun e w' => OwnPost w (nextN S x) e w' := by
  have HM := Lib.hid hM
  have HL := Lib.hid hl
  have hfl := fetchW_lt hM x
  clear hM hl
  have e1 : IntKind.u32.wrap ((x : Int) + 4) = (((x + 4) % 4294967296 : Nat) : Int) := by rw [IntKind.wrap_u32]; omega
  have hfd := field43
  have HE : Hid (∀ op, (decN (fetchW S x)).op = op → nextN S x = if op = 35 then placesN [(x + 4) % 4294967296] else []) := by
    refine Lib.hid ?_
    rintro op rfl
    unfold nextN
    rw [if_pos HL.out]
    by_cases h : (decN (fetchW S x)).op = 35
    · rw [if_pos ⟨hk, h⟩, if_pos h]
    · rw [if_neg (fun c => h c.2), if_neg h]
  have HK := Lib.hid hk
  obtain ⟨i, hi⟩ : ∃ i, decN (fetchW S x) = i := ⟨_, rfl⟩
  have HI := Lib.hid hi
  obtain ⟨f, hf⟩ : ∃ f, fetchW S x = f := ⟨_, rfl⟩
  rw [hf] at hfl HI HE
  have HF := Lib.hid hf
  obtain ⟨op, is, it, id, ia, imm⟩ := i
  have HE2 := Lib.hid (HE.out op (by rw [HI.out]))
  clear hk hi hf HE
  by_cases ho : op = 35
  · subst ho
    have HE3 : Hid (nextN S x = placesN [(x + 4) % 4294967296]) := Lib.hid (by rw [HE2.out, if_pos rfl])
    go_enter Try.func70, Try.ntmps70
    go_wp2_with fail
    refine (cutN_any x _ hx HM.out).mono ?_
    rintro e w1 ⟨a, cap, rfl, hN, hb1⟩
    rw [HL.out]
    have HB1 := Lib.hid hb1
    clear hN hb1
    go_wp2_with fail
    refine (fetch_any x _ hx (HM.out.kept HB1.out)).mono ?_
    rintro e w2 ⟨rfl, n2, rfl⟩
    rw [HK.out, HF.out]
    have hpx : ∀ y ∈ [(x + 4) % 4294967296], y < 4294967296 := u32_one (Nat.mod_lt _ (by decide))
    have HPX := Lib.hid hpx
    clear hpx
    have HB2 := Lib.hid (below_drewN HB1.out n2)
    go_wp2_with fail
    refine (decode_any f _ hfl).mono ?_
    rintro e w3 ⟨rfl, hb3⟩
    rw [HI.out]
    unfold insVals
    have HB3 := Lib.hid (HB2.out.trans (hb3.mono HB2.out.size))
    clear hb3
    go_wp2_with (at_builtin; refine wpList_append_slice _ rfl _ _ 23 rfl w.heap.size 27 .u32 4 Try.underlying23 info27n _ [] rfl (World.ownsRow_nil _ _ _ _) _ _ _ [(x + 4) % 4294967296] rfl (Nums.new _ .u32 _ _ [(x + 4) % 4294967296] rfl) (Nat.le_trans (by decide : _ ≤ 100) (by decide)) (by decide) (by have := HB3.out.size; simp; omega) ?_; intro a4 c4 w4 ho4 hn4 hg4)
    have HB4 : Hid (Below w.heap.size w w4) := Lib.hid ((HB3.out.alloc HB3.out.size _).grown hg4.out (by have := HB3.out.size; simp; omega) (fun g hg => by cases hg))
    have HP := Lib.hid (places_own HB4.out ho4.out HPX.out (by rw [cat_length]; simp))
    refine HP.out.mono ?_
    rintro e w5 ⟨v, rfl, ho5, hb5⟩
    have HO5 := Lib.hid ho5
    have HB5 := Lib.hid hb5
    clear ho5 hb5
    go_wp2_with fail
    go_ret
    exact ⟨_, rfl, by rw [HE3.out]; exact HO5.out, HB5.out⟩
  · have ho2 : ¬ (op : Int) = 35 := by omega
    have HE3 : Hid (nextN S x = []) := Lib.hid (by rw [HE2.out, if_neg ho])
    clear ho
    go_enter Try.func70, Try.ntmps70
    go_wp2_with fail
    refine (cutN_any x _ hx HM.out).mono ?_
    rintro e w1 ⟨a, cap, rfl, hN, hb1⟩
    rw [HL.out]
    have HB1 := Lib.hid hb1
    clear hN hb1
    go_wp2_with fail
    refine (fetch_any x _ hx (HM.out.kept HB1.out)).mono ?_
    rintro e w2 ⟨rfl, n2, rfl⟩
    rw [HK.out, HF.out]
    have HB2 := Lib.hid (below_drewN HB1.out n2)
    go_wp2_with fail
    refine (decode_any f _ hfl).mono ?_
    rintro e w3 ⟨rfl, hb3⟩
    rw [HI.out]
    unfold insVals
    have HB3 := Lib.hid (HB2.out.trans (hb3.mono HB2.out.size))
    clear hb3
    go_wp2_with fail
    go_ret
    exact ⟨_, rfl, by rw [HE3.out]; exact World.ownsRow_nil _ _ _ _, HB3.out⟩
set_option maxRecDepth 100000 in
set_option maxHeartbeats 1000000 in
theorem next_no {B mb mm wm : Nat} {S : MS} (x : Nat) (w : World) (hx : x < 4294967296) (hM : MemAt w B mb mm wm S) (hl : (cutN S x).length = 0) (hk : ¬ fetchK S x = 0) :
    Calls Try.prog 70 #[.pointer (some ⟨mb, 0, none⟩), .int .u32 (x : Int)] w fun e w' => OwnPost w (nextN S x) e w' := by
  have HM := Lib.hid hM
  have HL := Lib.hid hl
  have HE : Hid (nextN S x = []) := by
    refine Lib.hid ?_
    unfold nextN
    rw [if_pos hl, if_neg (fun c => hk c.1)]
  obtain ⟨k, hkk⟩ : ∃ k, fetchK S x = k := ⟨_, rfl⟩
  rw [hkk] at hk
  have HK := Lib.hid hkk
  have hk2 : ¬ (k : Int) = 0 := by omega
  clear hM hl hk hkk
  go_enter Try.func70, Try.ntmps70
  go_wp2_with fail
  refine (cutN_any x _ hx HM.out).mono ?_
  rintro e w1 ⟨a, cap, rfl, hN, hb1⟩
  rw [HL.out]
  have HB1 := Lib.hid hb1
  clear hN hb1
  go_wp2_with fail
  refine (fetch_any x _ hx (HM.out.kept HB1.out)).mono ?_
  rintro e w2 ⟨rfl, n2, rfl⟩
  rw [HK.out]
  have HB2 := Lib.hid (below_drewN HB1.out n2)
  go_wp2_with fail
  go_ret
  exact ⟨_, rfl, by rw [HE.out]; exact World.ownsRow_nil _ _ _ _, HB2.out⟩
set_option maxRecDepth 100000 in
set_option maxHeartbeats 1000000 in
theorem next_plain {B mb mm wm : Nat} {S : MS} (x : Nat) (w : World) (hx : x < 4294967296) (hM : MemAt w B mb mm wm S) (hl : ¬ (cutN S x).length = 0) (hj : jumpsN (cutN S x) = false) :
    Calls Try.prog 70 #[.pointer (some ⟨mb, 0, none⟩), .int .u32 (x : Int)] w fun e w' => OwnPost w (nextN S x) e w' := by
  have HM := Lib.hid hM
  have hcl := cutN_len hM x
  have HCX := Lib.hid (cutN_lt S x)
  have HE : Hid (nextN S x = placesN [(x + 4 * (cutN S x).length) % 4294967296]) := by
    refine Lib.hid ?_
    unfold nextN
    rw [if_neg hl, hj]; rfl
  have HJ := Lib.hid hj
  obtain ⟨n, hn⟩ : ∃ n, (cutN S x).length = n := ⟨_, rfl⟩
  have HLN := Lib.hid hn
  rw [hn] at hl hcl HE
  have hn2 : ¬ (n : Int) = 0 := by omega
  have e1 := u32_end x n hx hcl
  have HPX := Lib.hid (u32_one (x := (x + 4 * n) % 4294967296) (Nat.mod_lt _ (by decide)))
  obtain ⟨en, hen⟩ : ∃ en, (x + 4 * n) % 4294967296 = en := ⟨_, rfl⟩
  rw [hen] at HE e1 HPX
  clear hM hj hn hl hen
  go_enter Try.func70, Try.ntmps70
  go_wp2_with fail
  refine (cutN_any x _ hx HM.out).mono ?_
  rintro e w1 ⟨a, cap, rfl, hN, hb1⟩
  rw [HLN.out] at hN ⊢
  have HN := Lib.hid hN
  have HB1 := Lib.hid hb1
  clear hN hb1
  go_wp2_with fail
  refine (jumps45_any _ HN.out HCX.out (by omega)).mono ?_
  rintro e w2 ⟨rfl, hb2⟩
  rw [HJ.out]
  have HB3 := Lib.hid (HB1.out.trans (hb2.mono HB1.out.size))
  clear hb2
  go_wp2_with (at_builtin; refine wpList_append_slice _ rfl _ _ 23 rfl w.heap.size 27 .u32 4 Try.underlying23 info27n _ [] rfl (World.ownsRow_nil _ _ _ _) _ _ _ [en] rfl (Nums.new _ .u32 _ _ [en] rfl) (Nat.le_trans (by decide : _ ≤ 100) (by decide)) (by decide) (by have := HB3.out.size; simp; omega) ?_; intro a4 c4 w4 ho4 hn4 hg4)
  have HB4 : Hid (Below w.heap.size w w4) := Lib.hid ((HB3.out.alloc HB3.out.size _).grown hg4.out (by have := HB3.out.size; simp; omega) (fun g hg => by cases hg))
  have HP := Lib.hid (places_own HB4.out ho4.out HPX.out (by rw [cat_length]; simp))
  refine HP.out.mono ?_
  rintro e w5 ⟨v, rfl, ho5, hb5⟩
  have HO5 := Lib.hid ho5
  have HB5 := Lib.hid hb5
  clear ho5 hb5
  go_wp2_with fail
  go_ret
  exact ⟨_, rfl, by rw [HE.out]; exact HO5.out, HB5.out⟩
end Go.Proofs.Ytjoaenfibkgplaa

namespace Go.Proofs.Ytjoaenfibkgplaa
set_option linter.unusedSimpArgs false
open Go.RowKit Go.Cq Go.Shelf Go.Maps
set_option linter.unusedVariables false
theorem formOf_imm (f op s t d a low n16 c10 c20 c26 : Nat) (h1 : low < 4294967296) (h2 : n16 < 4294967296) (h3 : c10 < 4294967296) (h4 : c20 < 4294967296) (h5 : c26 * 4 < 4294967296) : (formOf f op s t d a low n16 c10 c20 c26).1.imm < 4294967296 := by
  unfold formOf
  split <;> simp only <;> omega
theorem decN_imm (x : Nat) : (decN x).imm < 4294967296 := by
  unfold decN
  split
  · rename_i r hr
    unfold decOf
    simp only
    split
    · refine formOf_imm _ _ _ _ _ _ _ _ _ _ _ (fld_lt32 _ _ _ (by decide)) ?_ (fld_lt32 _ _ _ (by decide)) (fld_lt32 _ _ _ (by decide)) ?_
      · have := fld_lt x 0 16
        unfold sx
        split <;> omega
      · have := fld_lt x 0 26
        have e : (2 : Nat) ^ 26 = 67108864 := by decide
        omega
    · decide
  · decide
theorem targetN_lt (i : Insn) (next v : Nat) (hn : next < 4294967296) (hv : v < 4294967296) (hi : i.imm < 4294967296) : targetN i next v < 4294967296 := by
  unfold targetN
  split
  · exact hv
  · split
    · exact Nat.or_lt_two_pow (n := 32) (Nat.lt_of_le_of_lt Nat.and_le_left hn) hi
    · exact Nat.mod_lt _ (by decide)
theorem u32_back (e : Nat) (he : e < 4294967296) : IntKind.u32.wrap ((e : Int) - 4) = (((e + 4294967292) % 4294967296 : Nat) : Int) := by rw [IntKind.wrap_u32]; omega
theorem u32_two {x y : Nat} (h : x < 4294967296) (h2 : y < 4294967296) : ∀ z ∈ [x, y], z < 4294967296 := by
  intro z hz
  simp only [List.mem_cons, List.not_mem_nil, or_false] at hz
  rcases hz with rfl | rfl
  · exact h
  · exact h2
theorem target_z (z : Int) (op is it id ia imm next : Nat) (hz : z = (op : Int)) (w : World) (hn : next < 4294967296) (hi : imm < 4294967296) :
    Calls Try.prog 107 #[.agg #[.int .i64 z, .int .i64 (is : Int), .int .i64 (it : Int), .int .i64 (id : Int), .int .i64 (ia : Int), .int .u32 (imm : Int)], .int .u32 (next : Int), .int .u32 0] w fun e w' => e = .returned (.int .u32 (targetN ⟨op, is, it, id, ia, imm⟩ next 0 : Nat)) ∧ Below w.heap.size w w' := by
  subst hz
  exact target_any ⟨op, is, it, id, ia, imm⟩ next 0 w hn hi
theorem nums_new_at {n : Nat} (w : World) (hn : n = w.heap.size) (k : IntKind) (cs : Array Value) (t : TypeId) (xs : List Nat) (h : cs.toList = nums k xs) : Nums (w.alloc (.cells cs t)) k (some ⟨n, 0, none⟩) xs.length xs.length xs := by
  subst hn
  exact Nums.new w k cs t xs h
theorem jumpsN_len {xs : List Nat} (h : jumpsN xs = true) : 2 ≤ xs.length := by
  unfold jumpsN at h
  simp only [Bool.and_eq_true, decide_eq_true_eq] at h
  omega
set_option maxRecDepth 100000 in
set_option maxHeartbeats 2000000 in
theorem next_jr {B mb mm wm op is it id ia imm : Nat} {S : MS} (x : Nat) (w : World) (hx : x < 4294967296) (hM : MemAt w B mb mm wm S) (hj : jumpsN (cutN S x) = true) (hi : decN ((cutN S x).getD ((cutN S x).length - 2) 0) = ⟨op, is, it, id, ia, imm⟩) (ho : op = 27) :
    Calls Try.prog 70 #[.pointer (some ⟨mb, 0, none⟩), .int .u32 (x : Int)] w fun e w' => OwnPost w (nextN S x) e w' := by
  have HM := Lib.hid hM
  have hcl := cutN_len hM x
  have HCX := Lib.hid (cutN_lt S x)
  have hl2 := jumpsN_len hj
  have himm := decN_imm ((cutN S x).getD ((cutN S x).length - 2) 0)
  rw [hi] at himm
  simp only at himm
  have HE : Hid (nextN S x = placesN (afterJ ⟨op, is, it, id, ia, imm⟩ ((x + 4 * (cutN S x).length) % 4294967296))) := by
    refine Lib.hid ?_
    unfold nextN
    rw [if_neg (by omega), hj, if_pos rfl, hi]
  have HJ := Lib.hid hj
  have HI := Lib.hid hi
  obtain ⟨n, hn⟩ : ∃ n, (cutN S x).length = n + 2 := ⟨(cutN S x).length - 2, by omega⟩
  have HLN := Lib.hid hn
  rw [hn] at hcl HE HI
  rw [show n + 2 - 2 = n by omega] at HI
  have hn2 : ¬ ((n + 2 : Nat) : Int) = 0 := by omega
  have hk4 : ((n + 2 : Nat) : Int) - 2 = (n : Int) := by omega
  have hk5 : wrap64 (((n + 2 : Nat) : Int) - 2) = (n : Int) := by rw [IntWalk.wrap64_in _ ⟨by omega, by omega⟩]; omega
  have e1 : IntKind.u32.wrap ((x : Int) + 4 * ((n : Int) + 2)) = (((x + 4 * (n + 2)) % 4294967296 : Nat) : Int) := by rw [IntKind.wrap_u32]; omega
  have hel : (x + 4 * (n + 2)) % 4294967296 < 4294967296 := Nat.mod_lt _ (by decide)
  obtain ⟨en, hen⟩ : ∃ en, (x + 4 * (n + 2)) % 4294967296 = en := ⟨_, rfl⟩
  rw [hen] at HE e1 hel
  subst ho
  have HE2 : Hid (nextN S x = placesN []) := Lib.hid (by rw [HE.out]; rfl)
  have HPX : Hid (∀ y ∈ ([] : List Nat), y < 4294967296) := Lib.hid (by intro y hy; cases hy)
  have HU2 : Hid ((cutN S x).getD n 0 < 4294967296) := Lib.hid (HCX.out _ (getD_mem _ _ (by omega)))
  have hfd := field43
  clear hM hj hn hen hi
  go_enter Try.func70, Try.ntmps70
  go_wp2_with fail
  refine (cutN_any x _ hx HM.out).mono ?_
  rintro e w1 ⟨a, cap, rfl, hN, hb1⟩
  rw [HLN.out] at hN ⊢
  have HN := Lib.hid hN
  have HB1 := Lib.hid hb1
  clear hN hb1
  go_wp2_with fail
  refine (jumps45_any _ HN.out HCX.out (by omega)).mono ?_
  rintro e w2 ⟨rfl, hb2⟩
  rw [HJ.out]
  have HB2 := Lib.hid (HB1.out.trans (hb2.mono HB1.out.size))
  have HN2 := Lib.hid (HN.out.kept hb2)
  clear hb2
  obtain ⟨b1, o1, rfl, -, c1⟩ := HN2.out.2.2.2 n (by omega)
  generalize (cutN S x).getD n 0 = u at c1 HU2 HI
  go_wp2_with fail
  refine (decode_any u _ HU2.out).mono ?_
  rintro e w3 ⟨rfl, hb3⟩
  rw [HI.out]
  unfold insVals
  have HB3 := Lib.hid (HB2.out.trans (hb3.mono HB2.out.size))
  clear hb3
  go_wp2_with fail
  have HB9 := Lib.hid (HB3.out.alloc HB3.out.size (.cells #[.int .i64 27, .int .i64 (is : Int), .int .i64 (it : Int), .int .i64 (id : Int), .int .i64 (ia : Int), .int .u32 (imm : Int)] 43))
  have HP := Lib.hid (places_own HB9.out (World.ownsRow_nil _ 0 _ _) HPX.out (by decide))
  refine HP.out.mono ?_
  rintro e w9 ⟨v, rfl, ho9, hb9⟩
  have HO9 := Lib.hid ho9
  have HB10 := Lib.hid hb9
  clear ho9 hb9
  go_wp2_with fail
  go_ret
  exact ⟨_, rfl, by rw [HE2.out]; exact HO9.out, HB10.out⟩
set_option maxRecDepth 100000 in
set_option maxHeartbeats 2000000 in
theorem next_jl {B mb mm wm op is it id ia imm : Nat} {S : MS} (x : Nat) (w : World) (hx : x < 4294967296) (hM : MemAt w B mb mm wm S) (hj : jumpsN (cutN S x) = true) (hi : decN ((cutN S x).getD ((cutN S x).length - 2) 0) = ⟨op, is, it, id, ia, imm⟩) (ho : op = 28) :
    Calls Try.prog 70 #[.pointer (some ⟨mb, 0, none⟩), .int .u32 (x : Int)] w fun e w' => OwnPost w (nextN S x) e w' := by
  have HM := Lib.hid hM
  have hcl := cutN_len hM x
  have HCX := Lib.hid (cutN_lt S x)
  have hl2 := jumpsN_len hj
  have himm := decN_imm ((cutN S x).getD ((cutN S x).length - 2) 0)
  rw [hi] at himm
  simp only at himm
  have HE : Hid (nextN S x = placesN (afterJ ⟨op, is, it, id, ia, imm⟩ ((x + 4 * (cutN S x).length) % 4294967296))) := by
    refine Lib.hid ?_
    unfold nextN
    rw [if_neg (by omega), hj, if_pos rfl, hi]
  have HJ := Lib.hid hj
  have HI := Lib.hid hi
  obtain ⟨n, hn⟩ : ∃ n, (cutN S x).length = n + 2 := ⟨(cutN S x).length - 2, by omega⟩
  have HLN := Lib.hid hn
  rw [hn] at hcl HE HI
  rw [show n + 2 - 2 = n by omega] at HI
  have hn2 : ¬ ((n + 2 : Nat) : Int) = 0 := by omega
  have hk4 : ((n + 2 : Nat) : Int) - 2 = (n : Int) := by omega
  have hk5 : wrap64 (((n + 2 : Nat) : Int) - 2) = (n : Int) := by rw [IntWalk.wrap64_in _ ⟨by omega, by omega⟩]; omega
  have e1 : IntKind.u32.wrap ((x : Int) + 4 * ((n : Int) + 2)) = (((x + 4 * (n + 2)) % 4294967296 : Nat) : Int) := by rw [IntKind.wrap_u32]; omega
  have hel : (x + 4 * (n + 2)) % 4294967296 < 4294967296 := Nat.mod_lt _ (by decide)
  obtain ⟨en, hen⟩ : ∃ en, (x + 4 * (n + 2)) % 4294967296 = en := ⟨_, rfl⟩
  rw [hen] at HE e1 hel
  subst ho
  have HE2 : Hid (nextN S x = placesN [en]) := Lib.hid (by rw [HE.out]; rfl)
  have HPX := Lib.hid (u32_one hel)
  have HU2 : Hid ((cutN S x).getD n 0 < 4294967296) := Lib.hid (HCX.out _ (getD_mem _ _ (by omega)))
  have hfd := field43
  clear hM hj hn hen hi
  go_enter Try.func70, Try.ntmps70
  go_wp2_with fail
  refine (cutN_any x _ hx HM.out).mono ?_
  rintro e w1 ⟨a, cap, rfl, hN, hb1⟩
  rw [HLN.out] at hN ⊢
  have HN := Lib.hid hN
  have HB1 := Lib.hid hb1
  clear hN hb1
  go_wp2_with fail
  refine (jumps45_any _ HN.out HCX.out (by omega)).mono ?_
  rintro e w2 ⟨rfl, hb2⟩
  rw [HJ.out]
  have HB2 := Lib.hid (HB1.out.trans (hb2.mono HB1.out.size))
  have HN2 := Lib.hid (HN.out.kept hb2)
  clear hb2
  obtain ⟨b1, o1, rfl, -, c1⟩ := HN2.out.2.2.2 n (by omega)
  generalize (cutN S x).getD n 0 = u at c1 HU2 HI
  go_wp2_with fail
  refine (decode_any u _ HU2.out).mono ?_
  rintro e w3 ⟨rfl, hb3⟩
  rw [HI.out]
  unfold insVals
  have HB3 := Lib.hid (HB2.out.trans (hb3.mono HB2.out.size))
  clear hb3
  have HB4 := Lib.hid (HB3.out.alloc HB3.out.size (.cells #[.int .i64 28, .int .i64 (is : Int), .int .i64 (it : Int), .int .i64 (id : Int), .int .i64 (ia : Int), .int .u32 (imm : Int)] 43))
  go_wp2_with (at_builtin; refine wpList_append_slice _ rfl _ _ 23 rfl w.heap.size 27 .u32 4 Try.underlying23 info27n _ [] rfl (World.ownsRow_nil _ _ _ _) _ _ _ [en] rfl (nums_new_at _ (by first | rfl | simp) .u32 _ _ [en] rfl) (Nat.le_trans (by simp [cat] : _ ≤ 100) (by decide)) (by simp [cat]) (by have := HB4.out.size; simp at this ⊢; omega) ?_; intro a5 c5 w5 ho5 hn5 hg5)
  have HB9 : Hid (Below w.heap.size w w5) := Lib.hid ((HB4.out.alloc HB4.out.size _).grown hg5.out (by have := HB4.out.size; simp at this ⊢; omega) (fun g hg => by cases hg))
  have HP := Lib.hid (places_own HB9.out ho5.out HPX.out (by rw [cat_length]; simp))
  refine HP.out.mono ?_
  rintro e w9 ⟨v, rfl, ho9, hb9⟩
  have HO9 := Lib.hid ho9
  have HB10 := Lib.hid hb9
  clear ho9 hb9
  go_wp2_with fail
  go_ret
  exact ⟨_, rfl, by rw [HE2.out]; exact HO9.out, HB10.out⟩
set_option maxRecDepth 100000 in
set_option maxHeartbeats 2000000 in
theorem next_jj {B mb mm wm op is it id ia imm : Nat} {S : MS} (x : Nat) (w : World) (hx : x < 4294967296) (hM : MemAt w B mb mm wm S) (hj : jumpsN (cutN S x) = true) (hi : decN ((cutN S x).getD ((cutN S x).length - 2) 0) = ⟨op, is, it, id, ia, imm⟩) (ho : op = 68) :
    Calls Try.prog 70 #[.pointer (some ⟨mb, 0, none⟩), .int .u32 (x : Int)] w fun e w' => OwnPost w (nextN S x) e w' := by
  have HM := Lib.hid hM
  have hcl := cutN_len hM x
  have HCX := Lib.hid (cutN_lt S x)
  have hl2 := jumpsN_len hj
  have himm := decN_imm ((cutN S x).getD ((cutN S x).length - 2) 0)
  rw [hi] at himm
  simp only at himm
  have HE : Hid (nextN S x = placesN (afterJ ⟨op, is, it, id, ia, imm⟩ ((x + 4 * (cutN S x).length) % 4294967296))) := by
    refine Lib.hid ?_
    unfold nextN
    rw [if_neg (by omega), hj, if_pos rfl, hi]
  have HJ := Lib.hid hj
  have HI := Lib.hid hi
  obtain ⟨n, hn⟩ : ∃ n, (cutN S x).length = n + 2 := ⟨(cutN S x).length - 2, by omega⟩
  have HLN := Lib.hid hn
  rw [hn] at hcl HE HI
  rw [show n + 2 - 2 = n by omega] at HI
  have hn2 : ¬ ((n + 2 : Nat) : Int) = 0 := by omega
  have hk4 : ((n + 2 : Nat) : Int) - 2 = (n : Int) := by omega
  have hk5 : wrap64 (((n + 2 : Nat) : Int) - 2) = (n : Int) := by rw [IntWalk.wrap64_in _ ⟨by omega, by omega⟩]; omega
  have e1 : IntKind.u32.wrap ((x : Int) + 4 * ((n : Int) + 2)) = (((x + 4 * (n + 2)) % 4294967296 : Nat) : Int) := by rw [IntKind.wrap_u32]; omega
  have hel : (x + 4 * (n + 2)) % 4294967296 < 4294967296 := Nat.mod_lt _ (by decide)
  obtain ⟨en, hen⟩ : ∃ en, (x + 4 * (n + 2)) % 4294967296 = en := ⟨_, rfl⟩
  rw [hen] at HE e1 hel
  subst ho
  have HE2 : Hid (nextN S x = placesN [targetN ⟨68, is, it, id, ia, imm⟩ ((en + 4294967292) % 4294967296) 0]) := Lib.hid (by rw [HE.out]; rfl)
  have e2 := u32_back en hel
  have hbl : (en + 4294967292) % 4294967296 < 4294967296 := Nat.mod_lt _ (by decide)
  have HT0 : Hid (targetN ⟨68, is, it, id, ia, imm⟩ ((en + 4294967292) % 4294967296) 0 < 4294967296) := Lib.hid (targetN_lt _ _ _ hbl (by decide) himm)
  obtain ⟨bk, hbk⟩ : ∃ bk, (en + 4294967292) % 4294967296 = bk := ⟨_, rfl⟩
  rw [hbk] at e2 hbl HT0 HE2
  clear hbk
  have HTC := Lib.hid (fun W => target_z 68 68 is it id ia imm bk (by rfl) W hbl himm)
  obtain ⟨tg, htg⟩ : ∃ tg, targetN ⟨68, is, it, id, ia, imm⟩ bk 0 = tg := ⟨_, rfl⟩
  rw [htg] at HTC HE2 HT0
  clear htg
  have HPX := Lib.hid (u32_one HT0.out)
  have HU2 : Hid ((cutN S x).getD n 0 < 4294967296) := Lib.hid (HCX.out _ (getD_mem _ _ (by omega)))
  have hfd := field43
  clear hM hj hn hen hi
  go_enter Try.func70, Try.ntmps70
  go_wp2_with fail
  refine (cutN_any x _ hx HM.out).mono ?_
  rintro e w1 ⟨a, cap, rfl, hN, hb1⟩
  rw [HLN.out] at hN ⊢
  have HN := Lib.hid hN
  have HB1 := Lib.hid hb1
  clear hN hb1
  go_wp2_with fail
  refine (jumps45_any _ HN.out HCX.out (by omega)).mono ?_
  rintro e w2 ⟨rfl, hb2⟩
  rw [HJ.out]
  have HB2 := Lib.hid (HB1.out.trans (hb2.mono HB1.out.size))
  have HN2 := Lib.hid (HN.out.kept hb2)
  clear hb2
  obtain ⟨b1, o1, rfl, -, c1⟩ := HN2.out.2.2.2 n (by omega)
  generalize (cutN S x).getD n 0 = u at c1 HU2 HI
  go_wp2_with fail
  refine (decode_any u _ HU2.out).mono ?_
  rintro e w3 ⟨rfl, hb3⟩
  rw [HI.out]
  unfold insVals
  have HB3 := Lib.hid (HB2.out.trans (hb3.mono HB2.out.size))
  clear hb3
  have HB4 := Lib.hid (HB3.out.alloc HB3.out.size (.cells #[.int .i64 68, .int .i64 (is : Int), .int .i64 (it : Int), .int .i64 (id : Int), .int .i64 (ia : Int), .int .u32 (imm : Int)] 43))
  go_wp2_with fail
  with_reducible refine (HTC.out _).mono ?_
  rintro e w4 ⟨rfl, hb4⟩
  have hbox := blk_kept (heap_alloc_last w3 _) hb4
  have HBOX := Lib.hid (blk_alloc hbox (.cells #[.int .u32 (tg : Int)] 27))
  have hbl4 := blk_lt hbox
  clear hbox
  have HB5 := Lib.hid (HB4.out.trans (hb4.mono HB4.out.size))
  clear hb4
  go_wp2_with (at_builtin; refine wpList_append_slice _ rfl _ _ 23 rfl w.heap.size 27 .u32 4 Try.underlying23 info27n _ [] rfl (World.ownsRow_nil _ _ _ _) _ _ _ [tg] rfl (nums_new_at _ (by first | rfl | simp) .u32 _ _ [tg] rfl) (Nat.le_trans (by simp [cat] : _ ≤ 100) (by decide)) (by simp [cat]) (by have := HB5.out.size; simp at this ⊢; omega) ?_; intro a5 c5 w5 ho5 hn5 hg5; have hbox5 := (hg5.out.block w3.heap.size (by simp; omega) (fun c => by cases c)).trans HBOX.out; have cx0 : w5.cell? ⟨w3.heap.size, 0, none⟩ = some (.int .i64 68) := blk_cell hbox5 0; clear hbox5)
  have HB9 : Hid (Below w.heap.size w w5) := Lib.hid ((HB5.out.alloc HB5.out.size _).grown hg5.out (by have := HB5.out.size; simp; omega) (fun g hg => by cases hg))
  have HP := Lib.hid (places_own HB9.out ho5.out HPX.out (by rw [cat_length]; simp))
  refine HP.out.mono ?_
  rintro e w9 ⟨v, rfl, ho9, hb9⟩
  have HO9 := Lib.hid ho9
  have HB10 := Lib.hid hb9
  clear ho9 hb9
  go_wp2_with fail
  go_ret
  exact ⟨_, rfl, by rw [HE2.out]; exact HO9.out, HB10.out⟩
set_option maxRecDepth 100000 in
set_option maxHeartbeats 2000000 in
theorem next_jb {B mb mm wm op is it id ia imm : Nat} {S : MS} (x : Nat) (w : World) (hx : x < 4294967296) (hM : MemAt w B mb mm wm S) (hj : jumpsN (cutN S x) = true) (hi : decN ((cutN S x).getD ((cutN S x).length - 2) 0) = ⟨op, is, it, id, ia, imm⟩) (ho1 : op ≠ 27) (ho2 : op ≠ 28) (ho3 : op ≠ 68) :
    Calls Try.prog 70 #[.pointer (some ⟨mb, 0, none⟩), .int .u32 (x : Int)] w fun e w' => OwnPost w (nextN S x) e w' := by
  have HM := Lib.hid hM
  have hcl := cutN_len hM x
  have HCX := Lib.hid (cutN_lt S x)
  have hl2 := jumpsN_len hj
  have himm := decN_imm ((cutN S x).getD ((cutN S x).length - 2) 0)
  rw [hi] at himm
  simp only at himm
  have HE : Hid (nextN S x = placesN (afterJ ⟨op, is, it, id, ia, imm⟩ ((x + 4 * (cutN S x).length) % 4294967296))) := by
    refine Lib.hid ?_
    unfold nextN
    rw [if_neg (by omega), hj, if_pos rfl, hi]
  have HJ := Lib.hid hj
  have HI := Lib.hid hi
  obtain ⟨n, hn⟩ : ∃ n, (cutN S x).length = n + 2 := ⟨(cutN S x).length - 2, by omega⟩
  have HLN := Lib.hid hn
  rw [hn] at hcl HE HI
  rw [show n + 2 - 2 = n by omega] at HI
  have hn2 : ¬ ((n + 2 : Nat) : Int) = 0 := by omega
  have hk4 : ((n + 2 : Nat) : Int) - 2 = (n : Int) := by omega
  have hk5 : wrap64 (((n + 2 : Nat) : Int) - 2) = (n : Int) := by rw [IntWalk.wrap64_in _ ⟨by omega, by omega⟩]; omega
  have e1 : IntKind.u32.wrap ((x : Int) + 4 * ((n : Int) + 2)) = (((x + 4 * (n + 2)) % 4294967296 : Nat) : Int) := by rw [IntKind.wrap_u32]; omega
  have hel : (x + 4 * (n + 2)) % 4294967296 < 4294967296 := Nat.mod_lt _ (by decide)
  obtain ⟨en, hen⟩ : ∃ en, (x + 4 * (n + 2)) % 4294967296 = en := ⟨_, rfl⟩
  rw [hen] at HE e1 hel
  have g1 : ¬ (op : Int) = 27 := by omega
  have g2 : ¬ (op : Int) = 28 := by omega
  have g3 : ¬ (op : Int) = 68 := by omega
  have g4 : ((op : Int) == 27) = false := beq_eq_false_iff_ne.2 g1
  have g5 : ((op : Int) == 28) = false := beq_eq_false_iff_ne.2 g2
  have g6 : ((op : Int) == 68) = false := beq_eq_false_iff_ne.2 g3
  have g7 : ((op : Int) != 27) = true := by rw [bne, g4]; rfl
  have g8 : ((op : Int) != 28) = true := by rw [bne, g5]; rfl
  have g9 : ((op : Int) != 68) = true := by rw [bne, g6]; rfl
  have HE2 : Hid (nextN S x = placesN [targetN ⟨op, is, it, id, ia, imm⟩ ((en + 4294967292) % 4294967296) 0, en]) := Lib.hid (by rw [HE.out]; unfold afterJ; rw [if_neg ho1, if_neg ho2, if_neg ho3])
  clear ho1 ho2 ho3
  have e2 := u32_back en hel
  have hbl : (en + 4294967292) % 4294967296 < 4294967296 := Nat.mod_lt _ (by decide)
  have HT0 : Hid (targetN ⟨op, is, it, id, ia, imm⟩ ((en + 4294967292) % 4294967296) 0 < 4294967296) := Lib.hid (targetN_lt _ _ _ hbl (by decide) himm)
  obtain ⟨bk, hbk⟩ : ∃ bk, (en + 4294967292) % 4294967296 = bk := ⟨_, rfl⟩
  rw [hbk] at e2 hbl HT0 HE2
  clear hbk
  have HTC := Lib.hid (fun W => target_z (op : Int) op is it id ia imm bk (by rfl) W hbl himm)
  obtain ⟨tg, htg⟩ : ∃ tg, targetN ⟨op, is, it, id, ia, imm⟩ bk 0 = tg := ⟨_, rfl⟩
  rw [htg] at HTC HE2 HT0
  clear htg
  have HPX := Lib.hid (u32_two HT0.out hel)
  have HU2 : Hid ((cutN S x).getD n 0 < 4294967296) := Lib.hid (HCX.out _ (getD_mem _ _ (by omega)))
  have hfd := field43
  clear hM hj hn hen hi
  go_enter Try.func70, Try.ntmps70
  go_wp2_with fail
  refine (cutN_any x _ hx HM.out).mono ?_
  rintro e w1 ⟨a, cap, rfl, hN, hb1⟩
  rw [HLN.out] at hN ⊢
  have HN := Lib.hid hN
  have HB1 := Lib.hid hb1
  clear hN hb1
  go_wp2_with fail
  refine (jumps45_any _ HN.out HCX.out (by omega)).mono ?_
  rintro e w2 ⟨rfl, hb2⟩
  rw [HJ.out]
  have HB2 := Lib.hid (HB1.out.trans (hb2.mono HB1.out.size))
  have HN2 := Lib.hid (HN.out.kept hb2)
  clear hb2
  obtain ⟨b1, o1, rfl, -, c1⟩ := HN2.out.2.2.2 n (by omega)
  generalize (cutN S x).getD n 0 = u at c1 HU2 HI
  go_wp2_with fail
  refine (decode_any u _ HU2.out).mono ?_
  rintro e w3 ⟨rfl, hb3⟩
  rw [HI.out]
  unfold insVals
  have HB3 := Lib.hid (HB2.out.trans (hb3.mono HB2.out.size))
  clear hb3
  have HB4 := Lib.hid (HB3.out.alloc HB3.out.size (.cells #[.int .i64 (op : Int), .int .i64 (is : Int), .int .i64 (it : Int), .int .i64 (id : Int), .int .i64 (ia : Int), .int .u32 (imm : Int)] 43))
  go_wp2_with fail
  with_reducible refine (HTC.out _).mono ?_
  rintro e w4 ⟨rfl, hb4⟩
  have hbox := blk_kept (heap_alloc_last w3 _) hb4
  have HBOX := Lib.hid (blk_alloc hbox (.cells #[.int .u32 (tg : Int)] 27))
  have hbl4 := blk_lt hbox
  clear hbox
  have HB5 := Lib.hid (HB4.out.trans (hb4.mono HB4.out.size))
  clear hb4
  go_wp2_with (first
    | (at_builtin; refine wpList_append_slice _ rfl _ _ 23 rfl w.heap.size 27 .u32 4 Try.underlying23 info27n _ [] rfl (World.ownsRow_nil _ _ _ _) _ _ _ [tg] rfl (nums_new_at _ (by first | rfl | simp) .u32 _ _ [tg] rfl) (Nat.le_trans (by simp [cat] : _ ≤ 100) (by decide)) (by simp [cat]) (by have := HB5.out.size; simp at this ⊢; omega) ?_; intro a5 c5 w5 ho5 hn5 hg5; have hbox5 := (hg5.out.block w3.heap.size (by simp; omega) (fun c => by cases c)).trans HBOX.out; have cx0 : w5.cell? ⟨w3.heap.size, 0, none⟩ = some (.int .i64 (op : Int)) := blk_cell hbox5 0; clear hbox5; have HB6 : Hid (Below w.heap.size w w5) := Lib.hid ((HB5.out.alloc HB5.out.size _).grown hg5.out (by have := HB5.out.size; simp; omega) (fun g hg => by cases hg)); have HO6 := Lib.hid (ho5.out.alloc (.cells #[.int .u32 (en : Int)] 27)))
    | (at_builtin; refine wpList_append_slice _ rfl _ _ 23 rfl w.heap.size 27 .u32 4 Try.underlying23 info27n _ (cat [] [tg]) rfl HO6.out _ _ _ [en] rfl (nums_new_at _ (by first | rfl | simp) .u32 _ _ [en] rfl) (Nat.le_trans (by simp [cat] : _ ≤ 100) (by decide)) (by simp [cat]) (by have := HB6.out.size; simp at this ⊢; omega) ?_; intro a7 c7 w7 ho7 hn7 hg7))
  have HB9 : Hid (Below w.heap.size w w7) := Lib.hid ((HB6.out.alloc HB6.out.size _).grown hg7.out (by have := HB6.out.size; simp; omega) (fun g hg => ownBlock_of_own ho5.out g hg))
  have HP := Lib.hid (places_own HB9.out ho7.out HPX.out (by rw [cat_length, cat_length]; simp))
  refine HP.out.mono ?_
  rintro e w9 ⟨v, rfl, ho9, hb9⟩
  have HO9 := Lib.hid ho9
  have HB10 := Lib.hid hb9
  clear ho9 hb9
  go_wp2_with fail
  go_ret
  exact ⟨_, rfl, by rw [HE2.out]; exact HO9.out, HB10.out⟩
end Go.Proofs.Ytjoaenfibkgplaa

namespace Go.Proofs.Ytjoaenfibkgplaa
set_option linter.unusedSimpArgs false
open Go.RowKit Go.Cq Go.Shelf Go.Maps
set_option linter.unusedVariables false
theorem afterJ_len (i : Insn) (e : Nat) : (afterJ i e).length ≤ 2 := by
  unfold afterJ
  split
  · decide
  · split
    · simp
    · split <;> simp
theorem afterJ_lt (i : Insn) (e : Nat) (hi : i.imm < 4294967296) (he : e < 4294967296) : ∀ y ∈ afterJ i e, y < 4294967296 := by
  have ht := targetN_lt i ((e + 4294967292) % 4294967296) 0 (Nat.mod_lt _ (by decide)) (by decide) hi
  unfold afterJ
  split
  · intro y hy; cases hy
  · split
    · exact u32_one he
    · split
      · exact u32_one ht
      · exact u32_two ht he
theorem nextN_len (S : MS) (x : Nat) : (nextN S x).length ≤ 2 := by
  unfold nextN
  split
  · split
    · exact Nat.le_trans (placesN_len _) (by simp)
    · simp
  · split
    · exact Nat.le_trans (placesN_len _) (afterJ_len _ _)
    · exact Nat.le_trans (placesN_len _) (by simp)
theorem nextN_lt (S : MS) (x : Nat) : ∀ y ∈ nextN S x, y < 4294967296 := by
  unfold nextN
  split
  · split
    · exact placesN_lt (u32_one (Nat.mod_lt _ (by decide)))
    · intro y hy; cases hy
  · split
    · exact placesN_lt (afterJ_lt _ _ (decN_imm _) (Nat.mod_lt _ (by decide)))
    · exact placesN_lt (u32_one (Nat.mod_lt _ (by decide)))
/-- 'reach.Next'. -/
theorem nextp_any {B mb mm wm : Nat} {S : MS} (x : Nat) (w : World) (hx : x < 4294967296) (hM : MemAt w B mb mm wm S) :
    Calls Try.prog 70 #[.pointer (some ⟨mb, 0, none⟩), .int .u32 (x : Int)] w fun e w' => OwnPost w (nextN S x) e w' := by
  by_cases hl : (cutN S x).length = 0
  · by_cases hk : fetchK S x = 0
    · exact next_sys x w hx hM hl hk
    · exact next_no x w hx hM hl hk
  · cases hj : jumpsN (cutN S x) with
    | false => exact next_plain x w hx hM hl hj
    | true =>
      obtain ⟨i, hi⟩ : ∃ i, decN ((cutN S x).getD ((cutN S x).length - 2) 0) = i := ⟨_, rfl⟩
      obtain ⟨op, is, it, id, ia, imm⟩ := i
      by_cases h1 : op = 27
      · exact next_jr x w hx hM hj hi h1
      · by_cases h2 : op = 28
        · exact next_jl x w hx hM hj hi h2
        · by_cases h3 : op = 68
          · exact next_jj x w hx hM hj hi h3
          · exact next_jb x w hx hM hj hi h1 h2 h3
theorem clampN_le (m : Int) : clampN m ≤ 1000 := by unfold clampN; omega
theorem clamp_run (m : Int) : max 0 (min m 1000) = ((clampN m : Nat) : Int) := by unfold clampN; omega
/-- What 'reach.All' keeps between its rounds. -/
structure AllAt (w wr : World) (mb c : Nat) (L : List (Nat × Bool)) : Prop where
  b0 : wr.heap[w.heap.size]? = some (.cells #[.pointer (some ⟨mb, 0, none⟩)] 25 (0, 0))
  b1 : wr.heap[w.heap.size + 1]? = some (.cells #[.int .i64 (c : Int)] 3 (0, 0))
  b3 : wr.heap[w.heap.size + 1 + 1 + 1]? = some (.cells #[.map (some (w.heap.size + 1 + 1))] 106 (0, 0))
  mp : MapC wr (w.heap.size + 1 + 1) (seenV L)
  bl : Below w.heap.size w wr
theorem AllAt.below {w wr w' : World} {mb c : Nat} {L : List (Nat × Bool)} (h : AllAt w wr mb c L) (hb : Below wr.heap.size wr w') : AllAt w w' mb c L :=
  ⟨blk_kept h.b0 hb, blk_kept h.b1 hb, blk_kept h.b3 hb, h.mp.kept hb h.mp.lt, h.bl.trans (hb.mono h.bl.size)⟩
theorem AllAt.upd {w wr w' : World} {mb c : Nat} {L L' : List (Nat × Bool)} (h : AllAt w wr mb c L) (hg : wr.grownBy w' (some (w.heap.size + 1 + 1))) (hm : MapC w' (w.heap.size + 1 + 1) (seenV L')) : AllAt w w' mb c L' :=
  ⟨(hg.block _ (blk_lt h.b0) (by simp; omega)).trans h.b0, (hg.block _ (blk_lt h.b1) (by simp)).trans h.b1, (hg.block _ (blk_lt h.b3) (by simp)).trans h.b3, hm,
    h.bl.grown hg h.bl.size (fun k e => by cases e; omega)⟩
theorem heap_new_at (w : World) (o : Obj) (n : Nat) (h : n = w.heap.size) : (w.alloc o).heap[n]? = some o := by rw [h]; exact heap_alloc_new w o
theorem AllAt.made (w : World) (mb c : Nat) : AllAt w ((((w.alloc (.cells #[.pointer (some ⟨mb, 0, none⟩)] 25)).alloc (.cells #[.int .i64 (c : Int)] 3)).alloc (.map #[] 0)).alloc (.cells #[.map (some (w.heap.size + 1 + 1))] 106)) mb c [] := by
  refine ⟨?_, ?_, ?_, ?_, ?_⟩
  · exact blk_alloc (blk_alloc (blk_alloc (heap_alloc_new w _) _) _) _
  · exact blk_alloc (blk_alloc (heap_new_at _ _ _ (by simp)) _) _
  · exact heap_new_at _ _ _ (by simp)
  · have h := MapC.made ((w.alloc (.cells #[.pointer (some ⟨mb, 0, none⟩)] 25)).alloc (.cells #[.int .i64 (c : Int)] 3))
    have e : ((w.alloc (.cells #[.pointer (some ⟨mb, 0, none⟩)] 25)).alloc (.cells #[.int .i64 (c : Int)] 3)).heap.size = w.heap.size + 1 + 1 := by simp
    rw [e] at h
    exact h.grown (World.grownBy_alloc _ _ none) (by simp)
  · exact ((((Below.refl _ _).alloc (Nat.le_refl _) _).alloc (by simp) _).alloc (by simp; omega) _).alloc (by simp; omega) _
set_option maxHeartbeats 4000000 in
set_option maxRecDepth 100000 in
theorem all_any {B mb mm wm base : Nat} {S : MS} {v : Value} {xs : List Nat} (m : Int) (w : World) (hM : MemAt w B mb mm wm S) (ho : w.ownsRow base 27 1 v xs.length (nums .u32 xs)) (hx : ∀ x ∈ xs, x < 4294967296) (hn : xs.length ≤ 50000) :
    Calls Try.prog 33 #[.pointer (some ⟨mb, 0, none⟩), v, .int .i64 m] w fun e w' => OwnPost w (allN (nextN S) (noneAt S) m xs) e w' := by
  have HM := Lib.hid hM
  have HO := Lib.hid ho
  have HX := Lib.hid hx
  have HPL := Lib.hid (placesN_len xs)
  have hcl := clampN_le m
  have hcr := clamp_run m
  obtain ⟨c, hc⟩ : ∃ c, clampN m = c := ⟨_, rfl⟩
  rw [hc] at hcl hcr
  have HRES : Hid (∀ Lf, reachN (nextN S) c (c + 1) (addN c [] (placesN xs)) = Lf → allN (nextN S) (noneAt S) m xs = delN (noneAt S) (sortN (Lf.map (·.1)))) := by
    refine Lib.hid ?_
    rintro Lf rfl
    unfold allN seenN
    rw [hc]
  have hmm := @run_makeMap Try.prog
  have hmf : ∀ (fn : Fn) (first cap : Array Value) (w : World), (Instr.makeFunc fn first cap).run Try.prog w = .ok (.func fn first cap) w := fun _ _ _ _ => rfl
  clear hM ho hx hc
  go_enter Try.func33, Try.ntmps33
  go_wp2_with fail
  have HA0 := Lib.hid (AllAt.made w mb c)
  refine (places_any ((((HO.out.alloc _).alloc _).alloc _).alloc _) HX.out hn).mono ?_
  rintro e w1 ⟨v1, rfl, ho1, hb1⟩
  have HA1 := Lib.hid (HA0.out.below hb1)
  obtain ⟨a1, k1, rfl, hn1⟩ := Nums.of_own ho1
  have HN1 := Lib.hid hn1
  have HP1 := Lib.hid (placesN_lt HX.out)
  clear ho1 hn1 hb1 HA0
  go_wp2_with fail
  refine (add_any w1 HN1.out HP1.out (Nat.le_trans HPL.out (Nat.le_trans hn (by decide))) (blk_cell HA1.out.b3 0) (blk_cell HA1.out.b1 0) HA1.out.mp (by simp) hcl).mono ?_
  rintro e w2 ⟨rfl, hm2, hg2⟩
  have HA2 := Lib.hid (HA1.out.upd hg2 hm2)
  clear hm2 hg2
  have HL0 : Hid ((addN c [] (placesN xs)).length ≤ c) := Lib.hid (addN_length (Nat.le_refl c) _ (by simp))
  have HK0 : Hid (∀ p ∈ addN c [] (placesN xs), p.1 < 4294967296) := Lib.hid (fun p hp => by
    rcases keys_addN _ _ p hp with h | h
    · cases h
    · exact HP1.out _ h)
  have HC0 : Hid (cntT (addN c [] (placesN xs)) + (c + 1) = c + 1) := Lib.hid (by rw [cntT_addN]; simp [cntT])
  obtain ⟨L0, hL0⟩ : ∃ L0, addN c [] (placesN xs) = L0 := ⟨_, rfl⟩
  rw [hL0] at HA2 HL0 HK0 HC0 HRES
  clear hL0
  obtain ⟨Lf, hLf⟩ : ∃ Lf, reachN (nextN S) c (c + 1) L0 = Lf := ⟨_, rfl⟩
  have HR0 := Lib.hid hLf
  have HRF := Lib.hid (HRES.out Lf hLf)
  clear hLf HRES hcr
  go_wp2_with fail
  go_loopg [10, 11] (c + 1) (fun k _ _ wr => ∃ L, Hid (AllAt w wr mb c L) ∧ Hid (reachN (nextN S) c k L = Lf) ∧ Hid (cntT L + k = c + 1) ∧ Hid (L.length ≤ c) ∧ Hid (∀ p ∈ L, p.1 < 4294967296))
  case atStart => exact ⟨L0, HA2, HR0, HC0, HL0, HK0⟩
  case round =>
    obtain ⟨L, HAR, HRR, HCC, HLL, HKK⟩ := hrel
    have HK2 : Hid (∀ p ∈ seenV L, p.1 < 4294967296) := Lib.hid (fun p hp => by
      obtain ⟨q, hq, rfl⟩ := List.mem_map.1 hp
      exact HKK.out q hq)
    have HLV : Hid ((seenV L).length ≤ 100000) := Lib.hid (by rw [seenV_length]; have := HLL.out; omega)
    have HKEY : Hid ((seenV L).length = (sortN (L.map (·.1))).length ∧ (seenV L).map (·.1) = L.map (·.1)) := Lib.hid ⟨by rw [sortN_length, List.length_map, seenV_length], seenV_keys L⟩
    have HSX : Hid (∀ x ∈ sortN (L.map (·.1)), x < 4294967296) := Lib.hid (fun x hx => by
      obtain ⟨p, hp, rfl⟩ := List.mem_map.1 (sortN_mem hx)
      exact HKK.out p hp)
    have HSL : Hid ((sortN (L.map (·.1))).length ≤ 1000) := Lib.hid (by rw [sortN_length, List.length_map]; exact Nat.le_trans HLL.out hcl)
    have c3 := blk_cell HAR.out.b3 0
    have c1 := blk_cell HAR.out.b1 0
    have c0 := blk_cell HAR.out.b0 0
    have hle := fun ty => HAR.out.mp.len (P := Try.prog) Try.underlying106 ty
    rw [seenV_length] at hle
    by_cases hlt : L.length < c
    · have hlt2 : (L.length : Int) < (c : Int) := by omega
      have HLT := Lib.hid hlt
      clear hlt
      go_wp2_with fail
      refine (low_any wr c3 HAR.out.mp HKK.out (Nat.le_trans HLL.out hcl)).mono ?_
      rintro e w3 ⟨rfl, hb3⟩
      have HA3 := Lib.hid (HAR.out.below hb3)
      clear hb3 c3 c1 c0 hle
      cases hq : lowN L with
      | none =>
        have HEND : Hid (allN (nextN S) (noneAt S) m xs = delN (noneAt S) (sortN (L.map (·.1)))) := Lib.hid (by rw [HRF.out, ← HRR.out, reachN_none hq])
        have HQ := Lib.hid hq
        clear hq
        unfold lowV
        obtain ⟨wr, rfl⟩ : ∃ wr2, wr2 = w3 := ⟨_, rfl⟩
        have HAR := HA3
        have c3 := blk_cell HAR.out.b3 0
        have c0 := blk_cell HAR.out.b0 0
        go_wp2_with fail
        refine (keys_any _ wr).mono ?_
        rintro e w6 ⟨rfl, rfl⟩
        go_wp2_with fail
        refine (sortedKeys_any wr HAR.out.mp HK2.out HLV.out).mono ?_
        rintro e w7 ⟨v7, rfl, ho7, hb7⟩
        rw [HKEY.out.2, HKEY.out.1] at ho7
        have HO7 := Lib.hid ho7
        have HB7 : Hid (Below wr.heap.size wr w7) := Lib.hid (((Below.refl _ _).alloc (Nat.le_refl _) _).trans (hb7.mono (by simp)))
        have HA7 := Lib.hid (HAR.out.below HB7.out)
        have HBS : Hid (w.heap.size < wr.heap.size) := Lib.hid (blk_lt HAR.out.b0)
        clear ho7 hb7
        go_wp2_with fail
        refine (del_own 77 #[.pointer (some ⟨w.heap.size, 0, none⟩)] (noneAt S) (enters_of Try.func77 (by kernel_rfl) rfl) HO7.out HSX.out (fun W hW x hx => by
          have hb8 := HA7.out.bl.trans (hW.mono (by have := HAR.out.bl.size; omega))
          exact none_any x W hx (HM.out.kept hb8) (blk_cell ((hW.block _ (by have := HBS.out; omega)).trans HA7.out.b0) 0)) (Nat.le_trans HSL.out (by decide))).mono ?_
        rintro e w8 ⟨v8, rfl, ho8, hb8⟩
        have HO8 := Lib.hid ho8
        have HB8 := Lib.hid (HA7.out.bl.grown hb8 HA7.out.bl.size (fun k e => by have := ownBlock_of_own HO7.out k e; have := HBS.out; omega))
        clear ho8 hb8
        go_wp2_with fail
        go_ret
        exact ⟨_, rfl, by rw [HEND.out]; exact own_mono HO8.out (by have := HBS.out; omega), HB8.out⟩
      | some x =>
        have HF := Lib.hid (low_false hq)
        have HQ := Lib.hid hq
        clear hq
        unfold lowV
        have c3 := blk_cell HA3.out.b3 0
        obtain ⟨w4, hu, hm4, hg4⟩ := HA3.out.mp.update (k := x) (v := .bool true) (P := Try.prog) Try.underlying106 Try.underlying27
        rw [aSet_seen] at hm4
        have HA4 := Lib.hid (HA3.out.upd hg4 hm4)
        have HXX : Hid (x < 4294967296) := Lib.hid (by
          obtain ⟨p, hp, rfl⟩ := List.mem_map.1 HF.out.2
          exact HKK.out p hp)
        have HMK := Lib.hid (lookB_mark HF.out.1)
        have HKM : Hid (∀ p ∈ markN x L, p.1 < 4294967296) := Lib.hid (fun p hp => by
          rcases keys_mark p hp with h | h
          · rw [h]; exact HXX.out
          · obtain ⟨q, hq, e⟩ := List.mem_map.1 h
            rw [← e]; exact HKK.out q hq)
        clear hm4 hg4
        have c0 := blk_cell HA4.out.b0 0
        go_wp2_with fail
        refine (nextp_any x w4 HXX.out (HM.out.kept HA4.out.bl)).mono ?_
        rintro e w5 ⟨v5, rfl, ho5, hb5⟩
        have HA5 := Lib.hid (HA4.out.below hb5)
        obtain ⟨a5, k5, rfl, hn5⟩ := Nums.of_own ho5
        have HN5 := Lib.hid hn5
        clear ho5 hn5 hb5 hu c3 c0
        go_wp2_with fail
        refine (add_any w5 HN5.out (nextN_lt S x) (Nat.le_trans (nextN_len S x) (by decide)) (blk_cell HA5.out.b3 0) (blk_cell HA5.out.b1 0) HA5.out.mp (by rw [HMK.out.2]; exact Nat.le_trans HLL.out hcl) hcl).mono ?_
        rintro e w6 ⟨rfl, hm6, hg6⟩
        have HA6 := Lib.hid (HA5.out.upd hg6 hm6)
        clear hm6 hg6
        go_wp2_with fail
        obtain ⟨k, hk⟩ : ∃ k, gk = k + 1 := ⟨gk - 1, by have := cntT_le L; have := HCC.out; have := HLT.out; omega⟩
        subst hk
        go_roundg k
        case measure => omega
        case rel =>
          exact ⟨_, HA6, Lib.hid (by rw [← HRR.out, reachN_some HLT.out HQ.out]), Lib.hid (by rw [cntT_addN, HMK.out.1]; have := HCC.out; omega), Lib.hid (addN_length (Nat.le_refl c) _ (by rw [HMK.out.2]; exact HLL.out)), Lib.hid (fun p hp => by
            rcases keys_addN _ _ p hp with h | h
            · exact HKM.out p h
            · exact nextN_lt S x _ h)⟩
    · have hlt2 : ¬ (L.length : Int) < (c : Int) := by omega
      have HEND : Hid (allN (nextN S) (noneAt S) m xs = delN (noneAt S) (sortN (L.map (·.1)))) := Lib.hid (by rw [HRF.out, ← HRR.out, reachN_full hlt])
      clear hlt
      go_wp2_with fail
      refine (keys_any _ wr).mono ?_
      rintro e w6 ⟨rfl, rfl⟩
      go_wp2_with fail
      refine (sortedKeys_any wr HAR.out.mp HK2.out HLV.out).mono ?_
      rintro e w7 ⟨v7, rfl, ho7, hb7⟩
      rw [HKEY.out.2, HKEY.out.1] at ho7
      have HO7 := Lib.hid ho7
      have HB7 : Hid (Below wr.heap.size wr w7) := Lib.hid (((Below.refl _ _).alloc (Nat.le_refl _) _).trans (hb7.mono (by simp)))
      have HA7 := Lib.hid (HAR.out.below HB7.out)
      have HBS : Hid (w.heap.size < wr.heap.size) := Lib.hid (blk_lt HAR.out.b0)
      clear ho7 hb7
      go_wp2_with fail
      refine (del_own 77 #[.pointer (some ⟨w.heap.size, 0, none⟩)] (noneAt S) (enters_of Try.func77 (by kernel_rfl) rfl) HO7.out HSX.out (fun W hW x hx => by
        have hb8 := HA7.out.bl.trans (hW.mono (by have := HAR.out.bl.size; omega))
        exact none_any x W hx (HM.out.kept hb8) (blk_cell ((hW.block _ (by have := HBS.out; omega)).trans HA7.out.b0) 0)) (Nat.le_trans HSL.out (by decide))).mono ?_
      rintro e w8 ⟨v8, rfl, ho8, hb8⟩
      have HO8 := Lib.hid ho8
      have HB8 := Lib.hid (HA7.out.bl.grown hb8 HA7.out.bl.size (fun k e => by have := ownBlock_of_own HO7.out k e; have := HBS.out; omega))
      clear ho8 hb8
      go_wp2_with fail
      go_ret
      exact ⟨_, rfl, by rw [HEND.out]; exact own_mono HO8.out (by have := HBS.out; omega), HB8.out⟩
end Go.Proofs.Ytjoaenfibkgplaa
