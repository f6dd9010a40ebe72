/- calqueref15.Has; calquelaw15.awake. -/
import Derived.Test.YtjoaenfibkgplaaZN
import Derived.Test.YtjoaenfibkgplaaG3
import Derived.StillTailTactics
import Derived.Deep.AppendLies
import Derived.Deep.RegionLaw
namespace Go.Proofs.Ytjoaenfibkgplaa
set_option linter.unusedSimpArgs false
open Go.RowKit Go.Cq Go.Shelf Go.Maps
set_option linter.unusedVariables false
/-- 'calqueref15.Has'. -/
theorem has_any {a : Option Addr} {len cap : Nat} {xs : List Nat} (x : Nat) (w : World) (hN : Nums w .u32 a len cap xs) (hl : len ≤ 1000000) :
    Calls Try.prog 34 #[.slice a len cap, .int .u32 (x : Int)] w fun e w' => e = .returned (.bool (decide (x ∈ xs))) ∧ w' = w := by
  have HN := Lib.hid hN
  have HLN : Hid (xs.length = len) := hN.1
  clear hN
  go_enter Try.func34, Try.ntmps34
  go_wp2
  go_loopw [5] (fun i wr => ∃ k : Nat, i = .int .i64 (k : Int) ∧ k ≤ len ∧ wr = w ∧ Hid (∀ j, j < k → xs.getD j 0 ≠ x)) (fun i _ => len - (intOf i).toNat)
  case atStart => exact ⟨0, rfl, by omega, rfl, Lib.hid (fun j h => absurd h (Nat.not_lt_zero _))⟩
  case round =>
    obtain ⟨k, rfl, hk, rfl, HA⟩ := hrel
    by_cases hlt : k < len
    · have hlt2 : (k : Int) < (len : Int) := by omega
      obtain ⟨b1, o1, rfl, -, hc⟩ := HN.out.2.2.2 k hlt
      have HM : Hid (xs.getD k 0 ∈ xs) := Lib.hid (getD_mem _ _ (by rw [HLN.out]; exact hlt))
      obtain ⟨y, hy⟩ : ∃ y, xs.getD k 0 = y := ⟨_, rfl⟩
      rw [hy] at hc HM
      have HY := Lib.hid hy
      clear hy
      by_cases he : y = x
      · subst he
        go_wp2
        go_ret
        exact ⟨by rw [decide_eq_true HM.out]; rfl, rfl⟩
      · have he2 : ((y : Int) == (x : Int)) = false := beq_eq_false_iff_ne.2 (by omega)
        have he3 : ¬ (y : Int) = (x : Int) := by omega
        have HNE := Lib.hid he
        clear he
        go_wp2
        go_roundw
        case rel => exact ⟨k + 1, by go_num, by omega, trivial, Lib.hid (fun j hj => by
          rcases Nat.lt_or_ge j k with h | h
          · exact HA.out j h
          · obtain rfl : j = k := by omega
            rw [HY.out]; exact HNE.out)⟩
        case measure => simp [intOf]; omega
    · obtain rfl : k = len := by omega
      have hlt2 : ¬ (k : Int) < (k : Int) := by omega
      have HF : Hid (x ∉ xs) := Lib.hid (fun h => by
        obtain ⟨j, hj, e⟩ := List.mem_iff_getElem.1 h
        refine HA.out j (by rw [← HLN.out]; exact hj) ?_
        rw [List.getD_eq_getElem?_getD, List.getElem?_eq_getElem hj]; exact e)
      go_wp2
      go_ret
      exact ⟨by rw [decide_eq_false HF.out]; rfl, rfl⟩
def wB : Nat := encN ⟨60, 1, 2, 0, 0, 16⟩
theorem wB_ok : plainW wB = false ∧ jumpsW wB = true ∧ wB < 4294967296 ∧ decN wB = ⟨60, 1, 2, 0, 0, 16⟩ := by decide +kernel
theorem w0_plain : plainW 0 = true := by decide +kernel
theorem word_B (w : World) : Calls Try.prog 18 #[.int .i64 60, .int .i64 1, .int .i64 2, .int .i64 0, .int .i64 0, .int .u32 16] w fun e w' => e = .returned (.int .u32 (wB : Int)) ∧ Below w.heap.size w w' :=
  word18_any 60 1 2 0 0 16 w (by omega) (by omega) (by omega) (by omega) (by omega) (by omega)
theorem cutN_code {w : World} {B mb mm wm : Nat} {S : MS} {p : PartV} {ws : List Nat} (x j : Nat) (hM : MemAt w B mb mm wm S) (h : Holds S p) (hd : p.data = codeN ws) (h4 : p.at_ % 4 = 0) (hb : p.at_ + 4 * ws.length < 4294967296) (hq : (p.perm % 8).toNat % 2 = 1)
    (hw : ∀ x ∈ ws, x < 4294967296) (hj : j ≤ ws.length) (hx : x = p.at_ + 4 * j) : ∃ rest, cutN S x = cutGo (ws.drop j ++ rest) [] false := by
  subst hx
  obtain ⟨xs, rest, f1, f2, f3⟩ := fetches_code hM h hd h4 (by omega) hq hw (ws.length - j) j (by omega)
  exact ⟨rest, by rw [cutN_of f1, f2]⟩
theorem mem6 {x : Nat} (hx : x ∈ [wB, 0, 0, 0, 0, 0]) : x < 4294967296 := by
  simp only [List.mem_cons, List.not_mem_nil, or_false] at hx
  rcases hx with h | h | h | h | h | h <;> rw [h] <;> first | exact wB_ok.2.2.1 | decide
theorem awake_next {w : World} {B mb mm wm : Nat} {S : MS} {a : Option Addr} {c : Nat} (hM : MemAt w B mb mm wm S) (h : Holds S ⟨0, codeN [wB, 0, 0, 0, 0, 0], 7, false, a, c⟩) : nextN S 0 = [8, 20] := by
  obtain ⟨rest, hr⟩ := cutN_code (ws := [wB, 0, 0, 0, 0, 0]) 0 0 hM h rfl rfl (by show 0 + 24 < 4294967296; decide) (by show ((7 : Int) % 8).toNat % 2 = 1; decide) (fun y hy => mem6 hy) (by decide) rfl
  have h1 : cutGo ([wB, 0, 0, 0, 0, 0].drop 0 ++ rest) [] false = [wB, 0] := by
    show cutGo (wB :: 0 :: (0 :: 0 :: 0 :: 0 :: rest)) [] false = _
    rw [cutGo_jump wB_ok.1 wB_ok.2.1 _ _ _ (by decide), w0_plain, if_pos rfl]; rfl
  rw [h1] at hr
  have hR : rightN [wB, 0] = true := right_of_jump (a := []) (by intro x hx; cases hx) wB_ok.2.1 w0_plain (by decide)
  have hJ : jumpsN [wB, 0] = true := by
    unfold jumpsN
    rw [hR]
    show (true && true && jumpsW wB) = true
    rw [wB_ok.2.1]; rfl
  unfold nextN
  rw [hr, if_neg (by decide), hJ, if_pos rfl]
  have e1 : ([wB, 0].getD ([wB, 0].length - 2) 0) = wB := rfl
  rw [e1, wB_ok.2.2.2]
  have e2 : afterJ ⟨60, 1, 2, 0, 0, 16⟩ ((0 + 4 * [wB, 0].length) % 4294967296) = [20, 8] := by decide
  rw [e2]
  refine rising_ext (placesN_spec _).1 (by decide) fun x => ?_
  rw [(placesN_spec _).2]
  simp only [List.mem_cons, List.not_mem_nil, or_false]
  omega
set_option maxHeartbeats 1000000 in
/-- 'calquelaw15.awake'. -/
theorem awake15_any (w : World) : Calls Try.prog 32 #[] w fun e w' => e = .returned (.bool true) ∧ Below w.heap.size w w' := by
  go_enter Try.func32, Try.ntmps32
  go_wp2_with (go_at_call 18; with_reducible refine (word_B _).mono ?_; rintro e w1 ⟨rfl, hb1⟩)
  refine (code_any (ys := [wB, 0, 0, 0, 0, 0]) _ (Nums.new _ .u32 _ _ [wB, 0, 0, 0, 0, 0] rfl) (fun y hy => mem6 hy) (by decide)).mono ?_
  rintro e w3 ⟨v, rfl, ho, hb3⟩
  obtain ⟨a, c, rfl, hN⟩ := Nums.of_own ho
  have HB := Lib.hid ((hb1.alloc (by have := hb1.size; omega) _).trans (hb3.mono (by have := hb1.size; simp; omega)))
  have HN := Lib.hid hN
  clear ho hN hb1 hb3
  go_wp2_with fail
  refine (mem_one (at_ := 0) (q := 7) (ws := [wB, 0, 0, 0, 0, 0]) (heap_alloc_last w3 _) (HN.out.alloc _) (fun y hy => mem6 hy) (by decide) (by decide)).mono ?_
  rintro e w4 ⟨mb, mm, wm, S, rfl, hM, hH, hb4⟩
  have HB4 := Lib.hid ((HB.out.alloc HB.out.size _).trans (hb4.mono (by have := HB.out.size; simp; omega)))
  have HNX := Lib.hid (awake_next hM hH)
  have HM := Lib.hid hM
  clear hb4 HB HN hM hH
  go_wp2_with fail
  refine (nextp_any 0 _ (by decide) HM.out).mono ?_
  rintro e w5 ⟨v5, rfl, ho5, hb5⟩
  rw [HNX.out] at ho5
  obtain ⟨a5, k5, rfl, hn5⟩ := Nums.of_own ho5
  have HB5 := Lib.hid (HB4.out.trans (hb5.mono HB4.out.size))
  obtain ⟨b1, o1, rfl, -, c1⟩ := hn5.2.2.2 0 (by decide)
  obtain ⟨b2, o2, e2, -, c2⟩ := hn5.2.2.2 1 (by decide)
  cases e2
  have hcap := hn5.2.1
  have d1 : w5.cell? ⟨b1, o1, none⟩ = some (.int .u32 8) := c1
  have d2 : w5.cell? ⟨b1, o1 + 1, none⟩ = some (.int .u32 20) := c2
  clear ho5 hn5 hb5 c1 c2
  go_wp2_with fail
  go_ret
  exact ⟨rfl, HB5.out⟩
end Go.Proofs.Ytjoaenfibkgplaa

namespace Go.Proofs.Ytjoaenfibkgplaa
set_option linter.unusedSimpArgs false
open Go.RowKit Go.Cq Go.Shelf Go.Maps
set_option linter.unusedVariables false
/-- The starts, from the last one on, twice each, and what is none beside those that are one. -/
def twiceB (xs : List Nat) : List Nat := xs.flatMap fun s => s :: s :: (if s % 4 = 0 then [s + 1] else [])
theorem twiceB_snoc (xs : List Nat) (s : Nat) : twiceB (xs ++ [s]) = twiceB xs ++ (s :: s :: (if s % 4 = 0 then [s + 1] else [])) := by unfold twiceB; rw [List.flatMap_append]; simp
theorem twiceB_len (xs : List Nat) : (twiceB xs).length ≤ 3 * xs.length := by
  induction xs with
  | nil => simp [twiceB]
  | cons x xs ih =>
    have e : twiceB (x :: xs) = (x :: x :: (if x % 4 = 0 then [x + 1] else [])) ++ twiceB xs := rfl
    rw [e, List.length_append]
    split <;> simp <;> omega
theorem twiceB_lt {xs : List Nat} (h : ∀ x ∈ xs, x < 4294967296) : ∀ x ∈ twiceB xs, x < 4294967296 := by
  intro x hx
  unfold twiceB at hx
  rw [List.mem_flatMap] at hx
  obtain ⟨s, hs, hx⟩ := hx
  have := h s hs
  split at hx <;> simp at hx <;> omega
theorem twiceB_mem {xs : List Nat} {x : Nat} (h : x % 4 = 0) : x ∈ twiceB xs ↔ x ∈ xs := by
  unfold twiceB
  rw [List.mem_flatMap]
  constructor
  · rintro ⟨s, hs, hx⟩
    split at hx
    · rename_i h4
      simp only [List.mem_cons, List.not_mem_nil, or_false] at hx
      rcases hx with rfl | rfl | rfl
      · exact hs
      · exact hs
      · omega
    · simp only [List.mem_cons, List.not_mem_nil, or_false] at hx
      rcases hx with rfl | rfl <;> exact hs
  · intro hx
    exact ⟨x, hx, by simp⟩
theorem bounds_places (ss : List Nat) : placesN (twiceB ss.reverse ++ [65536, 65537, 65538]) = placesN (65536 :: ss) := by
  refine placesN_ext fun x h => ?_
  rw [List.mem_append, twiceB_mem h, List.mem_reverse]
  simp only [List.mem_cons, List.not_mem_nil, or_false]
  constructor
  · rintro (h1 | h1 | h1 | h1)
    · exact .inr h1
    · exact .inl h1
    · omega
    · omega
  · rintro (h1 | h1)
    · exact .inr (.inl h1)
    · exact .inl h1
theorem allN_places {next : Nat → List Nat} {no : Nat → Bool} {m : Int} {xs ys : List Nat} (h : placesN xs = placesN ys) : allN next no m xs = allN next no m ys := by unfold allN seenN; rw [h]
theorem markN_len {x : Nat} {L : List (Nat × Bool)} (h : lowN L = some x) : (markN x L).length = L.length := (lookB_mark (low_false h).1).2
theorem reachN_len {next : Nat → List Nat} {most : Nat} (n : Nat) : ∀ {L : List (Nat × Bool)}, L.length ≤ most → (reachN next most n L).length ≤ most := by
  induction n with
  | zero => intro L h; exact h
  | succ n ih =>
    intro L h
    rw [reachN]
    split
    · split
      · exact h
      · rename_i x hx
        exact ih (addN_length (Nat.le_refl _) _ (by rw [markN_len hx]; exact h))
    · exact h
theorem allN_len (next : Nat → List Nat) (no : Nat → Bool) (m : Int) (xs : List Nat) : (allN next no m xs).length ≤ clampN m := by
  unfold allN
  refine Nat.le_trans (delN_le _ _) ?_
  rw [sortN_length, List.length_map]
  exact reachN_len _ (addN_length (Nat.le_refl _) _ (by simp))
theorem key_mark {x y : Nat} {L : List (Nat × Bool)} (h : y ∈ L.map (·.1)) : y ∈ (markN x L).map (·.1) := by
  induction L with
  | nil => simp at h
  | cons p r ih =>
    rw [markN]
    split
    · rename_i e
      rw [List.map_cons, List.mem_cons] at h ⊢
      rcases h with h | h
      · exact .inl (by rw [h, e])
      · exact .inr h
    · rw [List.map_cons, List.mem_cons] at h ⊢
      rcases h with h | h
      · exact .inl h
      · exact .inr (ih h)
theorem key_addOne {most x y : Nat} {L : List (Nat × Bool)} (h : y ∈ L.map (·.1)) : y ∈ (addOne most L x).map (·.1) := by
  unfold addOne
  split
  · rw [List.map_append]; exact List.mem_append_left _ h
  · exact h
theorem key_addN {most y : Nat} (xs : List Nat) : ∀ {L : List (Nat × Bool)}, y ∈ L.map (·.1) → y ∈ (addN most L xs).map (·.1) := by
  induction xs with
  | nil => intro L h; exact h
  | cons x xs ih => intro L h; exact ih (key_addOne h)
theorem key_reach {next : Nat → List Nat} {most y : Nat} (n : Nat) : ∀ {L : List (Nat × Bool)}, y ∈ L.map (·.1) → y ∈ (reachN next most n L).map (·.1) := by
  induction n with
  | zero => intro L h; exact h
  | succ n ih =>
    intro L h
    rw [reachN]
    split
    · split
      · exact h
      · exact ih (key_addN _ (key_mark h))
    · exact h
theorem allN_mem {next : Nat → List Nat} {no : Nat → Bool} {m : Int} {xs : List Nat} {y : Nat} (h : y ∈ (addN (clampN m) [] (placesN xs)).map (·.1)) (hno : no y = false) : y ∈ allN next no m xs := by
  unfold allN delN
  rw [List.mem_filter]
  exact ⟨(sortN_perm _).mem_iff.2 (key_reach _ h), by rw [hno]; rfl⟩
theorem places_65536 : placesN [65536] = [65536] := by
  refine rising_ext (placesN_spec _).1 (by simp) fun x => ?_
  rw [(placesN_spec _).2]
  simp only [List.mem_cons, List.not_mem_nil, or_false]
  omega
theorem first_in {m : Int} (hm : 0 < clampN m) : 65536 ∈ (addN (clampN m) [] (placesN [65536])).map (·.1) := by
  rw [places_65536]
  show 65536 ∈ (addOne (clampN m) [] 65536).map (·.1)
  rw [addOne_new rfl (by simpa using hm)]
  simp
theorem cutGo_more (xs : List Nat) : ∀ l, l.length ≤ (cutGo xs l false).length ∧ l.length - 1 ≤ (cutGo xs l true).length := by
  induction xs with
  | nil => intro l; simp [cutGo]
  | cons x xs ih =>
    intro l
    constructor
    · rw [cutGo]
      split
      · have := (ih (l ++ [x])).1; simp at this; omega
      · split
        · have := (ih (l ++ [x])).2; simp at this; omega
        · exact Nat.le_refl _
    · rw [cutGo]
      split
      · simp; omega
      · simp
theorem block_cut {ws : List Nat} (h : BlockW ws) (rest : List Nat) : 0 < (cutGo (ws.drop 0 ++ rest) [] false).length := by
  rw [List.drop_zero]
  rcases h with ⟨h, h1, h2⟩ | ⟨a, x, y, rfl, h, h2, hx, hy⟩
  · rw [cutGo_plain (fun z hz => (h z hz).2) _ _ (by simp; omega), List.nil_append]
    have := (cutGo_more rest ws).1
    omega
  · rw [List.append_assoc, cutGo_plain (fun z hz => (h z hz).2) _ _ (by simp; omega), List.nil_append, List.cons_append, List.cons_append, cutGo_jump hx.2.1 hx.2.2 _ _ _ (by omega), hy.2, if_pos rfl]
    simp
theorem clampN_nat (k : Nat) (h : k ≤ 1000) : clampN (k : Int) = k := by unfold clampN; omega
end Go.Proofs.Ytjoaenfibkgplaa

namespace Go.Proofs.Ytjoaenfibkgplaa
set_option linter.unusedSimpArgs false
open Go.RowKit Go.Cq Go.Shelf Go.Maps
set_option linter.unusedVariables false
theorem own_lit_at (w : World) (base n g : Nat) (cs : Array Value) (hb : base ≤ w.heap.size) (hg : g = w.heap.size) (hm : n ≤ maxLen) (hs : cs.size = n * 1) (xs : List Nat) (hx : cs.toList = nums .u32 xs) :
    (w.alloc (.cells cs 27)).ownsRow base 27 1 (.slice (some ⟨g, 0, none⟩) n n) n (nums .u32 xs) := by
  subst hg
  rw [← hx]
  exact World.ownsRow_lit w cs n hb hm hs
/-- 'append(out, xs...)' at a step of a region that draws its order. -/
theorem step_append_nums {P : Program} {w : World} {ops : Array Oper} {o : Oper} {a : Act} {K : Act → World → Prop} {Q : Exit → Act → World → Prop} {E : Prop} (hgd : o.guard = none) (s x : Operand) (t : TypeId)
    (ho : o.op = .call { callee := .builtin .append, args := #[s, x], argTypes := #[t, t] })
    (base : Nat) (e : TypeId) (k : IntKind) (bytes : Nat) (ht : P.underlying t = some (.slice e)) (hi : (P.info? e).map (fun i => (i.zero, i.size, i.bytes)) = some (some (.int k 0), 1, bytes))
    (v : Value) (xs : List Nat) (hs : a.eval s = v) (hown : w.ownsRow base e 1 v xs.length (nums k xs))
    (ad : Addr) (m c : Nat) (ys : List Nat) (hx : a.eval x = .slice (some ad) m c) (hy : Nums w k (some ad) m c ys) (hm : 0 < m)
    (h63 : xs.length + m ≤ maxLen) (hbytes : (xs.length + m) * bytes ≤ 140737488355328) (hbase : base ≤ w.heap.size)
    (h : ∀ g c' w', Hid (w'.ownsRow base e 1 (.slice (some ⟨g, 0, none⟩) (cat xs ys).length c') (cat xs ys).length (nums k (cat xs ys))) → Hid (w.grownBy w' v.ownBlock) → K (a.put o.dst (.slice (some ⟨g, 0, none⟩) (cat xs ys).length c')) w') :
    if Region.wanted o (yielded ops a.tmps) = true then Oper.wp P o a w K Q else E := by
  obtain ⟨i, hi1, hi2, hi3, hi4⟩ := info_parts hi
  obtain ⟨y1, y2, y0, y3⟩ := hy
  refine step_append_lies w hgd s x t ho base e i (.int k 0) 1 bytes ht hi1 hi2 hi3 hi4 rfl (by decide) v xs.length (nums k xs) hs hown ad m c (nums k ys) hx (by rw [nums_length]; omega) ?_ (nums_one k ys) hm h63 hbytes hbase _ rfl ?_
  · intro j u hj
    have hjl : j < ys.length := by have := (List.getElem?_eq_some_iff.1 hj).1; rwa [nums_length] at this
    rw [nums_get k ys j hjl] at hj
    obtain ⟨b, off, e1, _, hc⟩ := y3 j (by omega)
    obtain rfl := Option.some.inj e1
    rw [Addr.add_lit, hc, ← hj]
  · intro g cap w' h1 h2 _ _
    have e1 : xs.length + m = (cat xs ys).length := by rw [cat_length, y1]
    rw [e1] at h1 ⊢
    exact h g cap w' (Lib.hid (by rw [cat, nums_append]; rw [cat] at h1; exact h1)) (Lib.hid h2)
set_option maxRecDepth 100000 in
set_option maxHeartbeats 4000000 in
theorem bounds_walk (a0 : Option Addr) (len0 cap0 : Nat) (zs : List Int) (v : Int) (a1 : Option Addr) (len1 cap1 : Nat) (ss : List Nat) (q : Int) (w : World) (hz : IntsAt w a0 len0 zs) (hlen : len0 ≤ 9223372036854775807) (hlen1 : len1 ≤ 9223372036854775807) (hv : -9223372036854775808 ≤ v ∧ v ≤ 9223372036854775807)
    (hN1 : Nums w .u32 a1 len1 cap1 ss) (hs : ∀ x ∈ ss, x < 4294967296) (hq : -9223372036854775808 ≤ q ∧ q ≤ 9223372036854775807) :
    Calls Try.prog 8 #[.slice a0 len0 cap0, .int .i64 v, .slice a1 len1 cap1, .int .i64 q] w fun e w' => e = .returned (.bool true) ∧ Below w.heap.size w w' := by
  have HZ := Lib.hid hz
  have HL := Lib.hid hlen
  have HV := Lib.hid hv
  have HN1 := Lib.hid hN1
  have HS := Lib.hid hs
  have HQ := Lib.hid hq
  clear hz hlen hv hN1 hs hq
  by_cases hbig : 20 < len1
  · have hb2 : (20 : Int) < (len1 : Int) := by omega
    go_enter Try.func8, Try.ntmps8
    go_wp2_with fail
    refine (awake15_any _).mono ?_
    rintro e w1 ⟨rfl, hb1⟩
    go_wp2_with fail
    go_ret
    exact ⟨rfl, hb1⟩
  · have hb2 : ¬ (20 : Int) < (len1 : Int) := by omega
    go_enter Try.func8, Try.ntmps8
    go_wp2_with fail
    refine (blocks9_any a0 len0 cap0 zs v w HZ.out HL.out HV.out).mono ?_
    rintro e w1 ⟨a2, l2, c2, ws, rfl, ho1, hW, hb1⟩
    have HW := Lib.hid hW
    obtain ⟨hw1, hw2⟩ := hW.len
    have hl1 : l2 = ws.length := by have := ho1.1; rw [nums_length] at this; omega
    subst hl1
    obtain ⟨a2', c2', e1, hn1⟩ := Nums.of_own ho1
    simp only [Value.slice.injEq, true_and] at e1
    obtain ⟨rfl, rfl⟩ := e1
    have HNW := Lib.hid hn1
    have HB1 := Lib.hid hb1
    have HSS1 := Lib.hid (HN1.out.kept hb1)
    clear ho1 hn1 hb1 hW HZ HL HV
    go_wp2_with fail
    refine (code_any _ HNW.out HW.out.lt (Nat.le_trans hw2 (by decide))).mono ?_
    rintro e w2 ⟨u2, rfl, ho2, hb2⟩
    have HB2 := Lib.hid (HB1.out.trans (hb2.mono HB1.out.size))
    have HSS2 := Lib.hid (HSS1.out.kept hb2)
    obtain ⟨a3, c3, rfl, hn3⟩ := Nums.of_own ho2
    have HN3 := Lib.hid hn3
    clear ho2 hb2 hn3 HNW
    go_wp2_with fail
    refine (mem_one_z (at_ := 65536) (q := 7) (ws := ws) rfl (heap_alloc_last w2 _) rfl (HN3.out.alloc _) HW.out.lt (by omega) (by omega)).mono ?_
    rintro e w3 ⟨mb, mm, wm, S, rfl, hM, hH, hb3⟩
    have HB3 := Lib.hid ((HB2.out.alloc HB2.out.size _).trans (hb3.mono (by have := HB2.out.size; simp; omega)))
    have HSS3 := Lib.hid ((HSS2.out.alloc _).kept hb3)
    have HM := Lib.hid hM
    have HCUT : Hid (0 < (cutN S 65536).length) := by
      refine Lib.hid ?_
      obtain ⟨rest, hr⟩ := cutN_code (ws := ws) 65536 0 hM hH rfl (by show 65536 % 4 = 0; decide) (by show 65536 + 4 * _ < _; omega) (by show ((7 : Int) % 8).toNat % 2 = 1; decide) HW.out.lt (by omega) rfl
      rw [hr]
      exact block_cut HW.out rest
    clear hb3 hM hH HB1 HB2 HSS1 HSS2 HN3 HW
    obtain ⟨k, hk, hkl⟩ : ∃ k : Nat, q % 30 = (k : Int) ∧ k < 30 := ⟨(q % 30).toNat, by omega, by omega⟩
    have HK := Lib.hid hk
    have HCK := Lib.hid (clampN_nat k (by omega))
    clear hk
    go_wp2_with fail
    refine (place_any q 30 _ HQ.out (by omega)).mono ?_; rintro e w4 ⟨rfl, rfl⟩; rw [HK.out]
    have HSL : Hid (ss.length = len1) := HSS3.out.1
    go_wp2_with (at_builtin; refine wpList_append_slice _ rfl _ _ 23 rfl w3.heap.size 27 .u32 4 Try.underlying23 info27u _ [65536] rfl (own_lit_at w3 _ 1 _ _ (Nat.le_refl _) rfl (by decide) rfl [65536] rfl) _ _ _ ss rfl (HSS3.out.alloc _) (Nat.le_trans (by simp; omega : _ ≤ 100) (by decide)) (by simp; omega) (by simp) ?_; intro a5 c5 w5 ho5 hn5 hg5)
    have HBS5 : Hid (Below w3.heap.size w3 w5) := Lib.hid (((Below.refl _ _).alloc (Nat.le_refl _) _).grown hg5.out (by simp) (fun g hg => by cases hg; exact Nat.le_refl _))
    have HM5 := Lib.hid (HM.out.kept HBS5.out)
    have HSS5 := Lib.hid (HSS3.out.kept HBS5.out)
    have HB5 := Lib.hid (HB3.out.trans (HBS5.out.mono HB3.out.size))
    have HX5 : Hid (∀ x ∈ cat [65536] ss, x < 4294967296) := Lib.hid (fun x hx => by
      rcases List.mem_append.1 hx with h | h
      · rw [List.mem_singleton] at h; rw [h]; decide
      · exact HS.out x h)
    have hal := allN_len (nextN S) (noneAt S) (k : Int) (cat [65536] ss)
    rw [HCK.out] at hal
    refine (all_any (k : Int) w5 HM5.out ho5.out HX5.out (by rw [cat_length, HSL.out]; simp; omega)).mono ?_
    rintro e w6 ⟨v6, rfl, ho6, hb6⟩
    have HHAS : Hid (0 < k → ss = [] → 65536 ∈ allN (nextN S) (noneAt S) (k : Int) (cat [65536] ss)) := Lib.hid (fun h0 h1 => by
      rw [h1]
      refine allN_mem (first_in (by rw [HCK.out]; exact h0)) ?_
      unfold noneAt
      exact decide_eq_false (by have := HCUT.out; omega))
    have HEQ : Hid (allN (nextN S) (noneAt S) (k : Int) (cat (twiceB ss.reverse) [65536, 65537, 65538]) = allN (nextN S) (noneAt S) (k : Int) (cat [65536] ss)) := Lib.hid (allN_places (bounds_places ss))
    obtain ⟨R, hR⟩ : ∃ R, allN (nextN S) (noneAt S) (k : Int) (cat [65536] ss) = R := ⟨_, rfl⟩
    rw [hR] at ho6 hal HHAS HEQ
    obtain ⟨a6, c6, rfl, hn6⟩ := Nums.of_own ho6
    have HN6 := Lib.hid hn6
    have HM6 := Lib.hid (HM5.out.kept hb6)
    have HSS6 := Lib.hid (HSS5.out.kept hb6)
    have HB6 := Lib.hid (HB5.out.trans (hb6.mono HB5.out.size))
    clear ho6 hn6 hb6 hR ho5 hn5 hg5 HBS5 HM5 HSS5 HB5 HM HSS3 HB3 HCUT HX5
    go_wp2_with fail
    go_loopw [13, 14] (fun b i wr => ∃ (j : Nat) (z : Int), i = .int .i64 z ∧ Hid (z = (j : Int) - 1) ∧ j ≤ len1 ∧ Hid (wr.ownsRow w6.heap.size 27 1 b (twiceB (ss.drop j).reverse).length (nums .u32 (twiceB (ss.drop j).reverse))) ∧ Hid (Below w6.heap.size w6 wr)) (fun _ i _ => (intOf i + 1).toNat)
    case atStart => exact ⟨len1, _, rfl, Lib.hid (by rfl), Nat.le_refl _, Lib.hid (by rw [List.drop_of_length_le (by rw [HSL.out]; exact Nat.le_refl _)]; exact World.ownsRow_nil _ _ _ _), Lib.hid (Below.refl _ _)⟩
    case round =>
      obtain ⟨j, z, rfl, HZJ, hj, HO, HB⟩ := hrel
      rcases Nat.eq_zero_or_pos j with h0 | hpos
      · subst h0
        have hz0 : z = -1 := by have := HZJ.out; omega
        subst hz0
        rw [List.drop_zero] at HO
        have HTL : Hid ((twiceB ss.reverse).length ≤ 60) := Lib.hid (by
          have := twiceB_len ss.reverse
          rw [List.length_reverse, HSL.out] at this
          omega)
        have HTX : Hid (∀ x ∈ cat (twiceB ss.reverse) [65536, 65537, 65538], x < 4294967296) := Lib.hid (fun x hx => by
          rcases List.mem_append.1 hx with h | h
          · exact twiceB_lt (fun y hy => HS.out y (List.mem_reverse.1 hy)) x h
          · simp only [List.mem_cons, List.not_mem_nil, or_false] at h
            omega)
        obtain ⟨T, hT⟩ : ∃ T, twiceB ss.reverse = T := ⟨_, rfl⟩
        rw [hT] at HO HTL HTX HEQ
        clear hT
        go_wp2_with (at_builtin; refine wpList_append_slice _ rfl _ _ 23 rfl w6.heap.size 27 .u32 4 Try.underlying23 info27u _ T rfl (HO.out.alloc _) _ _ _ [65536, 65537, 65538] rfl (Nums.new _ .u32 _ _ [65536, 65537, 65538] rfl) (Nat.le_trans (by have := HTL.out; simp; omega : _ ≤ 100) (by decide)) (by have := HTL.out; simp; omega) (by have := HB.out.size; simp; omega) ?_; intro a8 c8 w8 ho8 hn8 hg8)
        have HB8 : Hid (Below w6.heap.size w6 w8) := Lib.hid ((HB.out.alloc HB.out.size _).grown hg8.out (by have := HB.out.size; simp; omega) (ownBlock_of_own HO.out))
        refine (all_any (k : Int) w8 (HM6.out.kept HB8.out) ho8.out HTX.out (by rw [cat_length]; have := HTL.out; simp; omega)).mono ?_
        rintro e w9 ⟨v9, rfl, ho9, hb9⟩
        rw [HEQ.out] at ho9
        obtain ⟨a9, c9, rfl, hn9⟩ := Nums.of_own ho9
        have HN9 := Lib.hid hn9
        have HN6b := Lib.hid ((HN6.out.kept HB8.out).kept hb9)
        have HB9 := Lib.hid ((HB6.out.trans (HB8.out.mono HB6.out.size)).trans (hb9.mono (Nat.le_trans HB6.out.size HB8.out.size)))
        clear ho9 hn9 hb9 ho8 hn8 hg8 HB8 HO HB HTL HTX HEQ HM6 HSS6 HN6 HB6
        have hRl : (R.length : Int) ≤ (k : Int) := by omega
        have HRL : Hid (R.length ≤ 4294967296) := Lib.hid (Nat.le_trans (show R.length ≤ 30 by omega) (by decide))
        go_wp2_with fail
        refine (same_any w9 HN6b.out HN9.out HRL.out).mono ?_; rintro e w10 ⟨rfl, q10, rfl⟩
        rw [decide_eq_true (rfl : R = R)]
        have HB10 := Lib.hid (below_drewN HB9.out q10)
        have HN10 := Lib.hid (HN6b.out.kept (below_drewN (Below.refl _ _) q10))
        by_cases hk0 : k = 0
        · have g1 : (k : Int) = 0 := by omega
          subst hk0
          go_wp2_with fail
          refine (awake15_any _).mono ?_
          rintro e w11 ⟨rfl, hb11⟩
          go_wp2_with fail
          go_ret
          exact ⟨rfl, HB10.out.trans (hb11.mono HB10.out.size)⟩
        · have g1 : ¬ (k : Int) = 0 := by omega
          have g2 : ((k : Int) == 0) = false := beq_eq_false_iff_ne.2 g1
          by_cases hs0 : len1 = 0
          · have HIN : Hid (65536 ∈ R) := Lib.hid (HHAS.out (by omega) (List.eq_nil_of_length_eq_zero (by rw [HSL.out]; exact hs0)))
            have g3 : ¬ (0 : Int) < (len1 : Int) := by omega
            go_wp2_with fail
            refine (has_any 65536 _ HN10.out (by omega)).mono ?_
            rintro e w11 ⟨rfl, rfl⟩
            rw [decide_eq_true HIN.out]
            go_wp2_with fail
            refine (awake15_any _).mono ?_
            rintro e w11 ⟨rfl, hb11⟩
            go_wp2_with fail
            go_ret
            exact ⟨rfl, HB10.out.trans (hb11.mono HB10.out.size)⟩
          · have g3 : (0 : Int) < (len1 : Int) := by omega
            go_wp2_with fail
            refine (awake15_any _).mono ?_
            rintro e w11 ⟨rfl, hb11⟩
            go_wp2_with fail
            go_ret
            exact ⟨rfl, HB10.out.trans (hb11.mono HB10.out.size)⟩
      · obtain ⟨n, rfl⟩ : ∃ n, j = n + 1 := ⟨j - 1, by omega⟩
        have hzn : z = (n : Int) := by have := HZJ.out; omega
        subst hzn
        clear hpos HZJ
        have i0 : (0 : Int) ≤ (n : Int) := by omega
        have i1 : (n : Int) < (len1 : Int) := by omega
        obtain ⟨b7, o7, rfl, hbl7, c7⟩ := HSS6.out.2.2.2 n (by omega)
        have hc := (HB.out.cell (p := ⟨b7, o7 + n, none⟩) hbl7).trans c7
        clear c7 hbl7
        have HRV : Hid ((ss.drop n).reverse = (ss.drop (n + 1)).reverse ++ [ss.getD n 0]) := Lib.hid (by
          rw [← List.getElem_cons_drop (show n < ss.length by rw [HSL.out]; omega), List.reverse_cons]
          simp [List.getD, show n < ss.length by rw [HSL.out]; omega])
        have HTL : Hid ((twiceB (ss.drop (n + 1)).reverse).length ≤ 60) := Lib.hid (by
          have := twiceB_len (ss.drop (n + 1)).reverse
          rw [List.length_reverse, List.length_drop, HSL.out] at this
          omega)
        have HSN : Hid (ss.getD n 0 < 4294967296) := Lib.hid (HS.out _ (getD_mem _ _ (by rw [HSL.out]; omega)))
        obtain ⟨T, hT⟩ : ∃ T, twiceB (ss.drop (n + 1)).reverse = T := ⟨_, rfl⟩
        have HTS : Hid (∀ s, ss.getD n 0 = s → twiceB (ss.drop n).reverse = T ++ (s :: s :: (if s % 4 = 0 then [s + 1] else []))) := Lib.hid (fun s hs => by rw [HRV.out, twiceB_snoc, hT, hs])
        rw [hT] at HO HTL
        obtain ⟨s, hsn⟩ : ∃ s, ss.getD n 0 = s := ⟨_, rfl⟩
        rw [hsn] at hc
        have HTT := Lib.hid (HTS.out s hsn)
        have HSN : Hid (ss.getD n 0 = s ∧ s < 4294967296) := Lib.hid ⟨hsn, by rw [← hsn]; exact HSN.out⟩
        clear hT HTS HRV hsn
        go_wp2_with fail
        go_region_law (refine step_append_nums rfl (.tmp 43) (.tmp 52) 23 rfl w6.heap.size 27 .u32 4 Try.underlying23 info27u u13 T rfl (HO.out.alloc _) _ _ _ [s, s] rfl (Nums.new _ .u32 _ _ [s, s] rfl) (by decide) (Nat.le_trans (by have := HTL.out; omega : _ ≤ 100) (by decide)) (by have := HTL.out; omega) (by have := HB.out.size; simp; omega) ?_; intro g8 c8 w8 ho8 hg8)
        all_goals
          have HB8 : Hid (Below w6.heap.size w6 w8) := Lib.hid ((HB.out.alloc HB.out.size _).drew.grown hg8.out (by have := HB.out.size; simp; omega) (ownBlock_of_own HO.out))
          obtain ⟨b9, o9, e9, hbl9, c9⟩ := HSS6.out.2.2.2 n (by omega)
          cases e9
          have hc8 := (HB8.out.cell (p := ⟨b7, o7 + n, none⟩) hbl9).trans c9
          rw [HSN.out.1] at hc8
          clear c9 hbl9 hc
          have h4 : (s : Int).tmod 4 = ((s % 4 : Nat) : Int) := by rw [Int.tmod_eq_emod_of_nonneg (by omega)]; omega
          by_cases hd : s % 4 = 0
          · rw [hd] at h4
            have HTN : Hid (twiceB (ss.drop n).reverse = cat (cat T [s, s]) [s + 1]) := Lib.hid (by rw [HTT.out, if_pos hd]; unfold cat; simp)
            have hs1 : IntKind.u32.wrap ((s : Int) + 1) = ((s + 1 : Nat) : Int) := by rw [IntKind.wrap_u32]; have := HSN.out.2; omega
            clear hd
            go_wp2_with (at_builtin; refine wpList_append_slice _ rfl _ _ 23 rfl w6.heap.size 27 .u32 4 Try.underlying23 info27u _ (cat T [s, s]) rfl (ho8.out.alloc _) _ _ _ [s + 1] rfl (Nums.new _ .u32 _ _ [s + 1] rfl) (Nat.le_trans (by rw [cat_length]; have := HTL.out; simp; omega : _ ≤ 100) (by decide)) (by rw [cat_length]; have := HTL.out; simp; omega) (by have := HB8.out.size; simp; omega) ?_; intro a10 c10 w10 ho10 hn10 hg10)
            go_roundw
            case rel => exact ⟨n, (n : Int) - 1, rfl, Lib.hid rfl, by omega, by rw [HTN.out]; exact ho10, Lib.hid ((HB8.out.alloc HB8.out.size _).grown hg10.out (by have := HB8.out.size; simp; omega) (ownBlock_of_own ho8.out))⟩
            case measure => simp [intOf]
          · have hd2 : ¬ ((s % 4 : Nat) : Int) = 0 := by omega
            have hd3 : (((s % 4 : Nat) : Int) == 0) = false := beq_eq_false_iff_ne.2 hd2
            have HTN : Hid (twiceB (ss.drop n).reverse = cat T [s, s]) := Lib.hid (by rw [HTT.out, if_neg hd]; unfold cat; simp)
            clear hd
            go_wp2
            go_roundw
            case rel => exact ⟨n, (n : Int) - 1, rfl, Lib.hid rfl, by omega, by rw [HTN.out]; exact ho8, HB8⟩
            case measure => simp [intOf]
theorem reachBounds_row (a0 : Option Addr) (len0 cap0 : Nat) (z0 : List Int) (a1 : Int) (a2 : Option Addr) (len2 cap2 : Nat) (z2 : List Int) (a3 : Int) (w : World) (w0 : IsRow .i64 w a0 len0 cap0 z0) (s0 : len0 * 8 ≤ 140737488351232) (w1 : (Lit.int .i64 a1).wf = true)
    (w2 : IsRow .u32 w a2 len2 cap2 z2) (s2 : len2 * 4 ≤ 140737488351232) (w3 : (Lit.int .i64 a3).wf = true) :
    Calls Try.prog 8 #[.slice a0 len0 cap0, .int .i64 a1, .slice a2 len2 cap2, .int .i64 a3] w fun e w' => e = .returned (.bool true) ∧ Below w.heap.size w w' := by
  obtain ⟨ss, hN, hs⟩ := nums_of_row 4294967296 wf_u32 w2
  exact bounds_walk a0 len0 cap0 z0 a1 a2 len2 cap2 ss a3 w (ints_of_row w0) (by omega) (by omega) (wf_i64 _ w1) hN hs (wf_i64 _ w3)
end Go.Proofs.Ytjoaenfibkgplaa
