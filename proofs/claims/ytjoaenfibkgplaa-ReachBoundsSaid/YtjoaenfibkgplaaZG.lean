import Derived.Test.YtjoaenfibkgplaaZP
import Derived.ArgAppend
import Derived.Maps.AppendAt
namespace Go.Proofs.Ytjoaenfibkgplaa
set_option linter.unusedSimpArgs false
open Go.RowKit Go.Cq
set_option linter.unusedVariables false

/-- 'block.Jumps'. -/
def jumpsN (xs : List Nat) : Bool := rightN xs && decide (1 < xs.length) && jumpsW (xs.getD (xs.length - 2) 0)
theorem rightN_len {xs : List Nat} (h : rightN xs = true) : 0 < xs.length ∧ xs.length ≤ 16 := by
  unfold rightN at h
  rw [Bool.and_eq_true, Bool.and_eq_true, decide_eq_true_eq, decide_eq_true_eq] at h
  exact h.1
theorem jumps45_any {a : Option Addr} {la ca : Nat} {xs : List Nat} (w : World) (h1 : Nums w .u32 a la ca xs) (hx : ∀ x ∈ xs, x < 4294967296) (hl : la ≤ 4294967296) :
    Calls Try.prog 45 #[.slice a la ca] w fun e w' => e = .returned (.bool (jumpsN xs)) ∧ Below w.heap.size w w' := by
  have H1 := Lib.hid h1
  have HX := Lib.hid hx
  have HLN : Hid (xs.length = la) := h1.1
  clear h1 hx
  cases hr : rightN xs with
  | false =>
    have HR := Lib.hid hr
    clear hr
    go_enter Try.func45, Try.ntmps45
    go_wp2_with (go_at_call 14; refine (right_any _ H1.out HX.out hl).mono ?_; rintro e w1 ⟨rfl, hb1⟩; rw [HR.out])
    go_ret
    exact ⟨by unfold jumpsN; rw [HR.out]; rfl, hb1⟩
  | true =>
    have hlen := rightN_len hr
    have HR := Lib.hid hr
    clear hr
    rw [HLN.out] at hlen
    by_cases h2 : 1 < la
    · have h3 : (1 : Int) < (la : Int) := by omega
      have HJ : Hid (jumpsN xs = jumpsW (xs.getD (la - 2) 0)) := by refine Lib.hid ?_; unfold jumpsN; rw [HR.out, HLN.out, decide_eq_true h2]; rfl
      obtain ⟨k, hk⟩ : ∃ k, la = k + 2 := ⟨la - 2, by omega⟩
      subst hk
      obtain ⟨b1, o1, rfl, -, c1⟩ := H1.out.2.2.2 k (by omega)
      have HU2 : Hid (xs.getD k 0 < 4294967296) := HX.out _ (getD_mem _ _ (by rw [HLN.out]; omega))
      rw [show k + 2 - 2 = k by omega] at HJ
      generalize xs.getD k 0 = u at c1 HU2 HJ
      have hk4 : ((k + 2 : Nat) : Int) - 2 = (k : Int) := by omega
      have hk5 : wrap64 (((k + 2 : Nat) : Int) - 2) = (k : Int) := by rw [IntWalk.wrap64_in _ ⟨by omega, by omega⟩]; omega
      go_enter Try.func45, Try.ntmps45
      go_wp2_with fail
      refine (right_any _ H1.out HX.out hl).mono ?_; rintro e w1 ⟨rfl, hb1⟩; rw [HR.out]
      have c2 := cell_kept c1 hb1
      clear c1
      go_wp2_with (go_at_call 43; refine (jumpsw_any u _ HU2.out).mono ?_; rintro e w2 ⟨rfl, hb2⟩)
      go_ret
      exact ⟨by rw [HJ.out]; rfl, hb1.trans (hb2.mono hb1.size)⟩
    · have h3 : ¬ (1 : Int) < (la : Int) := by omega
      go_enter Try.func45, Try.ntmps45
      go_wp2_with (go_at_call 14; refine (right_any _ H1.out HX.out hl).mono ?_; rintro e w1 ⟨rfl, hb1⟩; rw [HR.out])
      go_ret
      exact ⟨by unfold jumpsN; rw [HLN.out, decide_eq_false h2, Bool.and_false, Bool.false_and]; rfl, hb1⟩

theorem codeN_byte (ws : List Nat) (h : ∀ x ∈ ws, x < 4294967296) : ∀ y ∈ codeN ws, y < 256 := by
  intro y hy
  unfold codeN at hy
  rw [List.mem_flatMap] at hy
  obtain ⟨x, hx, hy⟩ := hy
  have := h x hx
  simp [putN] at hy
  omega
/-! A memory of one part whose bytes are words. -/
theorem mem_one {w : World} {b cap : Nat} {t : TypeId} {at_ : Nat} {q : Int} {ws : List Nat} {a : Option Addr} {c : Nat} (hrow : w.heap[b]? = some (.cells #[.int .u32 (at_ : Int), .slice a (codeN ws).length c, .int .i64 q, .bool false] t (0, 0)))
    (hN : Nums w .u8 a (codeN ws).length c (codeN ws)) (hw : ∀ x ∈ ws, x < 4294967296) (h1 : at_ + max 1 (4 * ws.length) ≤ 4294967296) (h2 : ws.length ≤ 2000) :
    Calls Try.prog 10 #[.slice (some ⟨b, 0, none⟩) 1 cap] w fun e w' => ∃ mb mm wm S, e = .returned (.pointer (some ⟨mb, 0, none⟩)) ∧ MemAt w' w.heap.size mb mm wm S ∧ Holds S ⟨at_, codeN ws, q, false, a, c⟩ ∧ Below w.heap.size w w' := by
  have hl := codeN_length ws
  refine (memory_any (ps := [⟨at_, codeN ws, q, false, a, c⟩]) (a := some ⟨b, 0, none⟩) (cap := cap) w ?_ (by simp)).mono ?_
  · intro i hi
    obtain rfl : i = 0 := by simpa using hi
    refine ⟨b, 0, rfl, ?_⟩
    exact ⟨blk_cell hrow 0, blk_cell hrow 1, blk_cell hrow 2, blk_cell hrow 3, by show at_ < _; omega, by show (codeN ws).length < _; omega, hN, codeN_byte ws hw⟩
  · rintro e w' ⟨mb, mm, wm, S, rfl, h3, h4, h5, h6⟩
    exact ⟨mb, mm, wm, S, rfl, h3, holds_of h4 (by show at_ + max 1 (codeN ws).length ≤ _; omega) (by show (codeN ws).length ≤ _; omega), h6⟩
theorem cutGo_mem (xs : List Nat) : ∀ l j, ∀ y ∈ cutGo xs l j, y ∈ xs ∨ y ∈ l := by
  induction xs with
  | nil =>
    intro l j y hy
    rw [cutGo] at hy
    split at hy
    · exact .inr (List.dropLast_subset _ hy)
    · exact .inr hy
  | cons x xs ih =>
    intro l j y hy
    cases j with
    | true =>
      rw [cutGo] at hy
      split at hy
      · rcases List.mem_append.1 hy with h | h
        · exact .inr h
        · rw [List.mem_singleton] at h; exact .inl (h ▸ List.mem_cons_self)
      · exact .inr (List.dropLast_subset _ hy)
    | false =>
      have step : ∀ j, y ∈ cutGo xs (l ++ [x]) j → y ∈ x :: xs ∨ y ∈ l := fun j h => by
        rcases ih _ _ y h with h | h
        · exact .inl (List.mem_cons_of_mem _ h)
        · rcases List.mem_append.1 h with h | h
          · exact .inr h
          · rw [List.mem_singleton] at h; exact .inl (h ▸ List.mem_cons_self)
      rw [cutGo] at hy
      split at hy
      · exact step _ hy
      · split at hy
        · exact step _ hy
        · exact .inr hy
/-- Cut at a place of the code. -/
theorem cut_code {w : World} {B mb mm wm : Nat} {S : MS} {p : PartV} {ws : List Nat} (x j : Nat) (hM : MemAt w B mb mm wm S) (h : Holds S p) (hd : p.data = codeN ws) (h4 : p.at_ % 4 = 0) (hb : p.at_ + 4 * ws.length < 4294967296) (hq : (p.perm % 8).toNat % 2 = 1)
    (hw : ∀ x ∈ ws, x < 4294967296) (hj : j ≤ ws.length) (hx : x = p.at_ + 4 * j) :
    Calls Try.prog 13 #[.pointer (some ⟨mb, 0, none⟩), .int .u32 (x : Int)] w fun e w' => ∃ a len cap rest, e = .returned (.slice a len cap) ∧ Nums w' .u32 a len cap (cutGo (ws.drop j ++ rest) [] false) ∧ (∀ y ∈ cutGo (ws.drop j ++ rest) [] false, y < 4294967296) ∧ ((p.at_ + 4 * ws.length) % 256 = 0 → 0 < ws.length → rest = []) ∧ Below w.heap.size w w' := by
  subst hx
  obtain ⟨xs, rest, f1, f2, f3⟩ := fetches_code hM h hd h4 (by omega) hq hw (ws.length - j) j (by omega)
  refine (cut_any (p.at_ + 4 * j) w (by omega) hM xs f1).mono ?_
  rintro e w' ⟨a, len, cap, rfl, hn, hbw⟩
  refine ⟨a, len, cap, rest, rfl, by rw [← f2]; exact hn, fun y hy => ?_, f3, hbw⟩
  rw [← f2] at hy
  rcases cutGo_mem _ _ _ y hy with h | h
  · obtain ⟨z, _, rfl⟩ := List.mem_map.1 h
    exact z.2
  · cases h
end Go.Proofs.Ytjoaenfibkgplaa

namespace Go.Proofs.Ytjoaenfibkgplaa
set_option linter.unusedSimpArgs false
open Go.RowKit Go.Cq
set_option linter.unusedVariables false

def wP : Nat := encN ⟨1, 1, 2, 3, 0, 0⟩
def wJ : Nat := encN ⟨68, 0, 0, 0, 0, 0⟩
theorem wP_lt : wP < 4294967296 := by decide +kernel
theorem wJ_lt : wJ < 4294967296 := by decide +kernel
theorem wP_plain : plainW wP = true := by decide +kernel
theorem wJ_plain : plainW wJ = false := by decide +kernel
theorem wJ_jumps : jumpsW wJ = true := by decide +kernel
theorem word_P (w : World) : Calls Try.prog 18 #[.int .i64 1, .int .i64 1, .int .i64 2, .int .i64 3, .int .i64 0, .int .u32 0] w fun e w' => e = .returned (.int .u32 (wP : Int)) ∧ Below w.heap.size w w' :=
  word18_any 1 1 2 3 0 0 w (by omega) (by omega) (by omega) (by omega) (by omega) (by omega)
theorem word_J (w : World) : Calls Try.prog 18 #[.int .i64 68, .int .i64 0, .int .i64 0, .int .i64 0, .int .i64 0, .int .u32 0] w fun e w' => e = .returned (.int .u32 (wJ : Int)) ∧ Below w.heap.size w w' :=
  word18_any 68 0 0 0 0 0 w (by omega) (by omega) (by omega) (by omega) (by omega) (by omega)
theorem awake_cut (rest : List Nat) : cutGo ([wP, wJ, wP, wP].drop 0 ++ rest) [] false = [wP, wJ, wP] := by
  show cutGo ([wP] ++ (wJ :: wP :: wP :: rest)) [] false = _
  rw [cutGo_plain (by intro x hx; rw [List.mem_singleton] at hx; rw [hx]; exact wP_plain) _ _ (by decide), List.nil_append, cutGo_jump wJ_plain wJ_jumps _ _ _ (by decide), wP_plain, if_pos rfl]
  rfl
theorem awake_right : rightN [wP, wJ, wP] = true := right_of_jump (a := [wP]) (by intro x hx; rw [List.mem_singleton] at hx; rw [hx]; exact wP_plain) wJ_jumps wP_plain (by decide)
theorem awake_jumps : jumpsN [wP, wJ, wP] = true := by
  unfold jumpsN
  rw [awake_right]
  show (true && true && jumpsW wJ) = true
  rw [wJ_jumps]; rfl
theorem mem3 {x : Nat} (hx : x ∈ [wP, wJ, wP]) : x < 4294967296 := by
  simp only [List.mem_cons, List.not_mem_nil, or_false] at hx
  rcases hx with h | h | h <;> rw [h] <;> first | exact wP_lt | exact wJ_lt
theorem mem4 {x : Nat} (hx : x ∈ [wP, wJ, wP, wP]) : x < 4294967296 := by
  simp only [List.mem_cons, List.not_mem_nil, or_false] at hx
  rcases hx with h | h | h | h <;> rw [h] <;> first | exact wP_lt | exact wJ_lt
theorem right_nil : rightN [] = false := rfl
theorem plainI_one : plainI 1 = true := by decide +kernel

set_option maxHeartbeats 1000000 in
/-- 'calquelaw14.awake'. -/
theorem awake_any (w : World) : Calls Try.prog 17 #[] w fun e w' => e = .returned (.bool true) ∧ Below w.heap.size w w' := by
  go_enter Try.func17, Try.ntmps17
  go_wp2_with (first
    | (go_at_call 18; with_reducible refine (word_P _).mono ?_; rintro e w1 ⟨rfl, hb1⟩)
    | (go_at_call 18; with_reducible refine (word_J _).mono ?_; rintro e w2 ⟨rfl, hb2⟩))
  refine (code_any (ys := [wP, wJ, wP, wP]) _ (Nums.new _ .u32 _ _ [wP, wJ, wP, wP] rfl) (fun y hy => mem4 hy) (by decide)).mono ?_
  rintro e w3 ⟨v, rfl, ho, hb3⟩
  obtain ⟨a, c, rfl, hN⟩ := Nums.of_own ho
  have HB := Lib.hid (((hb1.trans (hb2.mono hb1.size)).alloc (by have := hb1.size; have := hb2.size; omega) _).trans (hb3.mono (by have := hb1.size; have := hb2.size; simp; omega)))
  have HN := Lib.hid hN
  clear ho hN hb1 hb2 hb3
  go_wp2_with fail
  refine (mem_one (at_ := 0) (q := 7) (ws := [wP, wJ, wP, wP]) (heap_alloc_last w3 _) (HN.out.alloc _) (fun y hy => mem4 hy) (by decide) (by decide)).mono ?_
  rintro e w4 ⟨mb, mm, wm, S, rfl, hM, hH, hb4⟩
  have HB4 := Lib.hid ((HB.out.alloc HB.out.size _).trans (hb4.mono (by have := HB.out.size; simp; omega)))
  clear hb4 HB HN
  go_wp2_with fail
  refine (cut_code 0 0 hM hH rfl rfl (by show 0 + 16 < 4294967296; decide) (by show ((7 : Int) % 8).toNat % 2 = 1; decide) (fun y hy => mem4 hy) (by decide) rfl).mono ?_
  rintro e w5 ⟨a2, l2, c2, rest, rfl, hN, -, -, hb5⟩
  rw [awake_cut] at hN
  have HB5 := Lib.hid (HB4.out.trans (hb5.mono HB4.out.size))
  obtain rfl : 3 = l2 := hN.1
  have HN := Lib.hid hN
  have hnil := right_nil
  clear hb5 hN hM hH HB4
  go_wp2_with fail
  refine (jumps45_any _ HN.out (fun y hy => mem3 hy) (by decide)).mono ?_; rintro e w6 ⟨rfl, hb6⟩; rw [awake_jumps]
  have HN6 := Lib.hid (HN.out.kept hb6)
  have HB6 := Lib.hid (HB5.out.trans (hb6.mono HB5.out.size))
  clear hb6 HN HB5
  go_wp2_with fail
  refine (right_any _ HN6.out (fun y hy => mem3 hy) (by decide)).mono ?_; rintro e w7 ⟨rfl, hb7⟩; rw [awake_right]
  have HB7 := Lib.hid (HB6.out.trans (hb7.mono HB6.out.size))
  clear hb7 HN6 HB6
  go_wp2_with fail
  refine (right_any w7 (Nums.nil w7 .u32) (by intro x hx; cases hx) (by decide)).mono ?_; rintro e w8 ⟨rfl, hb8⟩; rw [right_nil]
  have HB8 := Lib.hid (HB7.out.trans (hb8.mono HB7.out.size))
  clear hb8 HB7
  go_wp2_with fail
  refine (plain_any 1 w8).mono ?_; rintro e w9 ⟨rfl, rfl⟩; rw [plainI_one]
  go_wp2_with fail
  go_ret
  exact ⟨rfl, HB8.out⟩
end Go.Proofs.Ytjoaenfibkgplaa

namespace Go.Proofs.Ytjoaenfibkgplaa
set_option linter.unusedSimpArgs false
open Go.RowKit Go.Cq
set_option linter.unusedVariables false

def wJ4 : Nat := encN ⟨68, 0, 0, 0, 0, 4⟩
def wFF : Nat := 4294967295
theorem wJ4_lt : wJ4 < 4294967296 := by decide +kernel
theorem wJ4_plain : plainW wJ4 = false := by decide +kernel
theorem wJ4_jumps : jumpsW wJ4 = true := by decide +kernel
theorem wFF_plain : plainW wFF = false := by decide +kernel
theorem wFF_jumps : jumpsW wFF = false := by decide +kernel
theorem word_J4 (w : World) : Calls Try.prog 18 #[.int .i64 68, .int .i64 0, .int .i64 0, .int .i64 0, .int .i64 0, .int .u32 4] w fun e w' => e = .returned (.int .u32 (wJ4 : Int)) ∧ Below w.heap.size w w' :=
  word18_any 68 0 0 0 0 4 w (by omega) (by omega) (by omega) (by omega) (by omega) (by omega)

/-- So many plain words, one that jumps among them. -/
def sizesW (j k : Nat) : List Nat := (List.range k).map fun i => if i = j then wJ4 else wP
theorem sizesW_length (j k : Nat) : (sizesW j k).length = k := by simp [sizesW]
theorem sizesW_succ (j k : Nat) : sizesW j (k + 1) = cat (sizesW j k) [if k = j then wJ4 else wP] := by
  unfold sizesW cat
  rw [List.range_succ, List.map_append]; rfl
theorem sizesW_lt (j k : Nat) : ∀ y ∈ sizesW j k, y < 4294967296 := by
  intro y hy
  unfold sizesW at hy
  rw [List.mem_map] at hy
  obtain ⟨i, _, rfl⟩ := hy
  split
  · exact wJ4_lt
  · exact wP_lt
theorem sizes_ge {j k : Nat} (h : k ≤ j) : sizesW j k = List.replicate k wP := by
  refine List.eq_replicate_iff.2 ⟨sizesW_length j k, fun b hb => ?_⟩
  unfold sizesW at hb
  rw [List.mem_map] at hb
  obtain ⟨i, hi, rfl⟩ := hb
  rw [if_neg (by have := List.mem_range.1 hi; omega)]
theorem sizes_lt {j k : Nat} (h : j < k) : sizesW j k = List.replicate j wP ++ wJ4 :: List.replicate (k - j - 1) wP := by
  obtain ⟨m, rfl⟩ : ∃ m, k = j + 1 + m := ⟨k - j - 1, by omega⟩
  rw [show j + 1 + m - j - 1 = m by omega, ← sizes_ge (Nat.le_refl j)]
  show (List.range (j + 1 + m)).map _ = _
  rw [List.range_add, List.range_succ, List.map_append, List.map_append, List.append_assoc]
  congr 1
  rw [List.map_singleton, if_pos rfl, List.singleton_append]
  congr 1
  refine List.eq_replicate_iff.2 ⟨by simp, fun b hb => ?_⟩
  simp only [List.mem_map, List.mem_range] at hb
  obtain ⟨i, ⟨x, hx, rfl⟩, rfl⟩ := hb
  rw [if_neg (by omega)]
def wantN (k j : Nat) : Nat := if j < k then (if k ≤ j + 1 then min j 16 else if j + 2 ≤ 16 then j + 2 else min j 16) else min k 16
theorem rep_plain (n : Nat) : ∀ x ∈ List.replicate n wP, plainW x = true := fun x hx => by rw [List.eq_of_mem_replicate hx]; exact wP_plain
theorem cut_many (n : Nat) (hn : 17 ≤ n) (rest : List Nat) : (cutGo (List.replicate n wP ++ rest) [] false).length = 16 := by
  obtain ⟨m, rfl⟩ : ∃ m, n = 16 + (m + 1) := ⟨n - 17, by omega⟩
  rw [← List.replicate_append_replicate, List.append_assoc, cutGo_plain (rep_plain 16) _ _ (by simp), List.replicate_succ (n := m), List.cons_append, cutGo_full wP_plain _ _ (by simp)]
  simp
theorem sizes_cut (k j : Nat) (rest : List Nat) : (cutGo ((cat (sizesW j k) [wFF]).drop 0 ++ rest) [] false).length = wantN k j := by
  unfold wantN cat
  rw [List.drop_zero]
  by_cases h : j < k
  · rw [if_pos h, sizes_lt h]
    by_cases h16 : 17 ≤ j
    · rw [List.append_assoc, List.append_assoc, cut_many j h16]
      split
      · omega
      · rw [if_neg (by omega)]; omega
    · rw [List.append_assoc, List.append_assoc, cutGo_plain (rep_plain j) _ _ (by simp; omega), List.nil_append, List.cons_append]
      by_cases h1 : k ≤ j + 1
      · rw [if_pos h1, show k - j - 1 = 0 by omega]
        by_cases h2 : j + 2 ≤ 16
        · rw [List.replicate_zero, List.nil_append, List.cons_append, cutGo_jump wJ4_plain wJ4_jumps _ _ _ (by simp; omega), wFF_plain, if_neg Bool.false_ne_true, List.length_replicate]; omega
        · rw [cutGo_long wJ4_plain _ _ (by simp; omega), List.length_replicate]; omega
      · rw [if_neg h1]
        by_cases h2 : j + 2 ≤ 16
        · rw [if_pos h2]
          obtain ⟨m, hm⟩ : ∃ m, k - j - 1 = m + 1 := ⟨k - j - 2, by omega⟩
          rw [hm, List.replicate_succ, List.cons_append, cutGo_jump wJ4_plain wJ4_jumps _ _ _ (by simp; omega), wP_plain, if_pos rfl]
          simp
        · rw [if_neg h2, cutGo_long wJ4_plain _ _ (by simp; omega), List.length_replicate]; omega
  · rw [if_neg h, sizes_ge (by omega)]
    by_cases h16 : 17 ≤ k
    · rw [List.append_assoc, cut_many k h16]; omega
    · rw [List.append_assoc, cutGo_plain (rep_plain k) _ _ (by simp; omega), List.nil_append, List.cons_append, cutGo_stop wFF_plain wFF_jumps, List.length_replicate]; omega
theorem want_le (k j : Nat) : wantN k j ≤ 16 := by
  unfold wantN
  repeat' split
  all_goals omega
end Go.Proofs.Ytjoaenfibkgplaa

namespace Go.Proofs.Ytjoaenfibkgplaa
set_option linter.unusedSimpArgs false
open Go.RowKit Go.Cq
set_option linter.unusedVariables false
/-- 'append(out, xs...)': what comes is a slice. -/
theorem wpList_append_slice {P : Program} (w : World) {ops : Array Oper} {rest : List Oper} {o : Oper} {a : Act} {Q : Exit → Act → World → Prop} (hgd : o.guard = none) (s x : Operand) (t : TypeId)
    (ho : o.op = .call { callee := .builtin .append, args := #[s, x], argTypes := #[t, t] })
    (base : Nat) (e : TypeId) (k : IntKind) (bytes : Nat) (ht : P.underlying t = some (.slice e)) (hi : (P.info? e).map (fun i => (i.zero, i.size, i.bytes)) = some (some (.int k 0), 1, bytes))
    (v : Value) (xs : List Nat) (hs : a.eval s = v) (hown : w.ownsRow base e 1 v xs.length (nums k xs))
    (ao : Option Addr) (m c : Nat) (ys : List Nat) (hx : a.eval x = .slice ao m c) (hy : Nums w k ao m c ys)
    (h63 : xs.length + m ≤ maxLen) (hbytes : (xs.length + m) * bytes ≤ 140737488355328) (hbase : base ≤ w.heap.size)
    (h : ∀ a' c' w', Hid (w'.ownsRow base e 1 (.slice a' (cat xs ys).length c') (cat xs ys).length (nums k (cat xs ys))) → Hid (Nums w' k a' (cat xs ys).length c' (cat xs ys)) → Hid (w.grownBy w' v.ownBlock) → wpList P ops Q rest (a.put o.dst (.slice a' (cat xs ys).length c')) w') : wpList P ops Q (o :: rest) a w := by
  refine wpList_append_nums w hgd s x t ho base e k bytes ht hi v xs hs hown ao m c ys hx hy h63 hbytes hbase ?_
  intro v' w' h1 h2
  obtain ⟨a', c', rfl, hn⟩ := Nums.of_own h1
  exact h a' c' w' h1 hn h2
theorem info27u : (Try.prog.info? 27).map (fun i => (i.zero, i.size, i.bytes)) = some (some (.int .u32 0), 1, 4) := Try.info27

set_option maxHeartbeats 1000000 in
theorem sizes_walk (a0 a1 : Int) (w : World) (h0 : -9223372036854775808 ≤ a0 ∧ a0 ≤ 9223372036854775807) (h1 : -9223372036854775808 ≤ a1 ∧ a1 ≤ 9223372036854775807) :
    Calls Try.prog 5 #[.int .i64 a0, .int .i64 a1] w fun e w' => e = .returned (.bool true) ∧ Below w.heap.size w w' := by
  obtain ⟨k, hk, hkl⟩ : ∃ k : Nat, a0 % 30 = (k : Int) ∧ k < 30 := ⟨(a0 % 30).toNat, by omega, by omega⟩
  obtain ⟨j, hj, hjl⟩ : ∃ j : Nat, a1 % 30 = (j : Int) ∧ j < 30 := ⟨(a1 % 30).toNat, by omega, by omega⟩
  have HK := Lib.hid hk
  have HJ := Lib.hid hj
  clear hk hj
  go_enter Try.func5, Try.ntmps5
  go_wp2_with fail
  refine (place_any a0 30 w h0 (by decide)).mono ?_; rintro e w1 ⟨rfl, rfl⟩; rw [HK.out]
  go_wp2_with fail
  refine (place_any a1 30 w h1 (by decide)).mono ?_; rintro e w1 ⟨rfl, rfl⟩; rw [HJ.out]
  go_wp2_with fail
  go_loopw [7, 8, 9] (fun v i _ wr => ∃ n : Nat, n ≤ k ∧ i = .int .i64 n ∧ Hid (wr.ownsRow w.heap.size 27 1 v (sizesW j n).length (nums .u32 (sizesW j n))) ∧ Hid (Below w.heap.size w wr)) (fun _ i _ _ => k - (intOf i).toNat)
  case atStart => exact ⟨0, by omega, rfl, World.ownsRow_nil _ _ _ _, Below.refl _ _⟩
  case round =>
    obtain ⟨n, hn, rfl, HO, HB⟩ := hrel
    by_cases hlt : n < k
    · have hln : (sizesW j n).length ≤ 30 := by rw [sizesW_length]; omega
      by_cases he : n = j
      · have he2 : (n : Int) = (j : Int) := by omega
        have HE : Hid (sizesW j (n + 1) = cat (sizesW j n) [wJ4]) := by refine Lib.hid ?_; rw [sizesW_succ, if_pos he]
        go_wp2_with (first
          | (go_at_call 18; with_reducible refine (word_P _).mono ?_; rintro e w2 ⟨rfl, hb2⟩)
          | (go_at_call 18; with_reducible refine (word_J4 _).mono ?_; rintro e w3 ⟨rfl, hb3⟩)
          | (at_builtin; refine wpList_append_nums _ rfl _ _ 23 rfl w.heap.size 27 .u32 4 Try.underlying23 info27u _ (sizesW j n) rfl (own_kept (own_kept (own_kept HO.out hb2) hb3) ((Below.refl _ _).alloc (Nat.le_refl _) _)) _ _ _ [wJ4] rfl (Nums.new _ .u32 _ _ [wJ4] rfl) (Nat.le_trans (by omega : _ ≤ 100) (by decide)) (by omega) (by have := HB.out.size; have := hb2.size; have := hb3.size; simp; omega) ?_; intro v4 w4 ho4 hg4))
        have hb4 : Below w.heap.size w w4 := (((HB.out.trans (hb2.mono HB.out.size)).trans (hb3.mono (Nat.le_trans HB.out.size hb2.size))).alloc (Nat.le_trans (Nat.le_trans HB.out.size hb2.size) hb3.size) _).grown hg4 (by have := HB.out.size; have := hb2.size; have := hb3.size; simp; omega) (ownBlock_of_own HO.out)
        go_roundw
        case rel => exact ⟨n + 1, by omega, by go_num, by refine Lib.hid ?_; rw [HE.out]; exact ho4, Lib.hid hb4⟩
        case measure => simp [intOf]; omega
      · have he2 : ¬ (n : Int) = (j : Int) := by omega
        have HE : Hid (sizesW j (n + 1) = cat (sizesW j n) [wP]) := by refine Lib.hid ?_; rw [sizesW_succ, if_neg he]
        go_wp2_with (first
          | (go_at_call 18; with_reducible refine (word_P _).mono ?_; rintro e w2 ⟨rfl, hb2⟩)
          | (at_builtin; refine wpList_append_nums _ rfl _ _ 23 rfl w.heap.size 27 .u32 4 Try.underlying23 info27u _ (sizesW j n) rfl (own_kept (own_kept HO.out hb2) ((Below.refl _ _).alloc (Nat.le_refl _) _)) _ _ _ [wP] rfl (Nums.new _ .u32 _ _ [wP] rfl) (Nat.le_trans (by omega : _ ≤ 100) (by decide)) (by omega) (by have := HB.out.size; have := hb2.size; simp; omega) ?_; intro v4 w4 ho4 hg4))
        have hb4 : Below w.heap.size w w4 := ((HB.out.trans (hb2.mono HB.out.size)).alloc (Nat.le_trans HB.out.size hb2.size) _).grown hg4 (by have := HB.out.size; have := hb2.size; simp; omega) (ownBlock_of_own HO.out)
        go_roundw
        case rel => exact ⟨n + 1, by omega, by go_num, by refine Lib.hid ?_; rw [HE.out]; exact ho4, Lib.hid hb4⟩
        case measure => simp [intOf]; omega
    · obtain rfl : n = k := by omega
      obtain ⟨a, c, rfl, hN⟩ := Nums.of_own HO.out
      have HN := Lib.hid hN
      clear hN
      go_wp2_with fail
      refine (code_any _ HN.out (sizesW_lt j n) (by rw [sizesW_length]; omega)).mono ?_
      rintro e w2 ⟨v, rfl, ho2, hb2⟩
      have HO2 := Lib.hid ho2
      have HB2 := Lib.hid (HB.out.trans (hb2.mono HB.out.size))
      have HS2 : Hid (wr.heap.size ≤ w2.heap.size) := hb2.size
      clear ho2 hb2
      have hcl : (codeN (sizesW j n)).length ≤ 120 := by rw [codeN_length, sizesW_length]; omega
      go_wp2_with (at_builtin; refine wpList_append_slice _ rfl _ _ 28 rfl wr.heap.size 5 .u8 1 Try.underlying28 info5u _ (codeN (sizesW j n)) rfl (own_kept HO2.out ((Below.refl _ _).alloc (Nat.le_refl _) _)) _ _ _ [255, 255, 255, 255] rfl (Nums.new _ .u8 _ _ [255, 255, 255, 255] rfl) (Nat.le_trans (by omega : _ ≤ 200) (by decide)) (by omega) (by have := HS2.out; simp; omega) ?_; intro a4 c4 w4 ho4 hn4 hg4)
      have HB4 : Hid (Below w.heap.size w w4) := Lib.hid ((HB2.out.alloc HB2.out.size _).grown hg4.out (by have := HB2.out.size; simp; omega) (fun g hg => Nat.le_trans HB.out.size (ownBlock_of_own HO2.out g hg)))
      have e4 : cat (codeN (sizesW j n)) [255, 255, 255, 255] = codeN (cat (sizesW j n) [wFF]) := by rw [cat, cat, codeN_append]; rfl
      have hn5 := hn4.out
      rw [e4] at hn5 ⊢
      have hws : ∀ y ∈ cat (sizesW j n) [wFF], y < 4294967296 := fun y hy => by
        rcases List.mem_append.1 hy with hy | hy
        · exact sizesW_lt j n y hy
        · rw [List.mem_singleton] at hy; rw [hy]; decide
      have hwl : (cat (sizesW j n) [wFF]).length = n + 1 := by rw [cat_length, sizesW_length]; rfl
      have HWS := Lib.hid hws
      clear hws
      refine (mem_one (at_ := 512) (q := 7) (ws := cat (sizesW j n) [wFF]) (heap_alloc_last w4 _) (hn5.alloc _) HWS.out (by omega) (by omega)).mono ?_
      rintro e w5 ⟨mb, mm, wm, S, rfl, hM, hH, hb5⟩
      have HB5 := Lib.hid ((HB4.out.alloc HB4.out.size _).trans (hb5.mono (by have := HB4.out.size; simp; omega)))
      have HM := Lib.hid hM
      have HH := Lib.hid hH
      clear hb5 HB4 hn4 hn5 ho4 hg4 hM hH HB2 HO2 HB HO HS2
      have hw : (j < n ∧ n ≤ j + 1 → wantN n j = min j 16) ∧ (j < n ∧ ¬ n ≤ j + 1 ∧ j + 2 ≤ 16 → wantN n j = j + 2) ∧ (j < n ∧ ¬ n ≤ j + 1 ∧ ¬ j + 2 ≤ 16 → wantN n j = min j 16) ∧ (¬ j < n → wantN n j = min n 16) := by
        unfold wantN
        refine ⟨fun h => ?_, fun h => ?_, fun h => ?_, fun h => ?_⟩
        · rw [if_pos h.1, if_pos h.2]
        · rw [if_pos h.1, if_neg h.2.1, if_pos h.2.2]
        · rw [if_pos h.1, if_neg h.2.1, if_neg h.2.2]
        · rw [if_neg h]
      have hw16 := want_le n j
      have HW := Lib.hid hw
      have HC := Lib.hid (sizes_cut n j)
      clear hw
      generalize wantN n j = W at hw16 HW HC
      go_wp2_with fail
      all_goals
        refine (cut_code 512 0 HM.out HH.out rfl (by show 512 % 4 = 0; decide) (by show 512 + 4 * _ < _; omega) (by show ((7 : Int) % 8).toNat % 2 = 1; decide) HWS.out (by omega) rfl).mono ?_
        rintro e w6 ⟨a6, l6, c6, rest, rfl, hn6, hx6, -, hb6⟩
        obtain rfl : W = l6 := (HC.out rest).symm.trans hn6.1
        have HB6 := Lib.hid (HB5.out.trans (hb6.mono HB5.out.size))
        have HR6 := Lib.hid (cutGo_right ((cat (sizesW j n) [wFF]).drop 0 ++ rest) [] (by intro x hx; cases hx) (by decide))
        have HX6 := Lib.hid hx6
        have HN6 := Lib.hid hn6
        have hwo := HW.out
        first
          | have q : (W : Int) = (j : Int) := by omega
          | have q : (W : Int) = (n : Int) := by omega
          | have q : (W : Int) = 16 := by omega
          | have q : (W : Int) = (j : Int) + 2 := by omega
        clear hwo hx6 hn6 hb6 HB5 HM HH HC HW
        by_cases hz : W = 0
        · have hz2 : (W : Int) = 0 := by omega
          first
            | (exfalso; omega)
            | (go_wp2_with fail
               refine (awake_any w6).mono ?_; rintro e w7 ⟨rfl, hb7⟩
               go_wp2_with fail
               go_ret
               exact ⟨rfl, HB6.out.trans (hb7.mono HB6.out.size)⟩)
        · have hz2 : ¬ (W : Int) = 0 := by omega
          have HL6 : Hid (W ≤ 4294967296) := Lib.hid (Nat.le_trans (show W ≤ 16 by omega) (by decide))
          have HRT : Hid (rightN (cutGo ((cat (sizesW j n) [wFF]).drop 0 ++ rest) [] false) = true) := by
            refine Lib.hid ?_
            rcases HR6.out with h | h
            · exact absurd (by rw [← HN6.out.1, h]; rfl) hz
            · exact h
          go_wp2_with fail
          all_goals
            refine (right_any w6 HN6.out HX6.out HL6.out).mono ?_; rintro e w7 ⟨rfl, hb7⟩
            rw [HRT.out]
            have HB7 := Lib.hid (HB6.out.trans (hb7.mono HB6.out.size))
            go_wp2_with fail
            refine (awake_any w7).mono ?_; rintro e w8 ⟨rfl, hb8⟩
            go_wp2_with fail
            go_ret
            exact ⟨rfl, HB7.out.trans (hb8.mono HB7.out.size)⟩
theorem blockSizes_row (a0 a1 : Int) (w : World) (w0 : (Lit.int .i64 a0).wf = true) (w1 : (Lit.int .i64 a1).wf = true) :
    Calls Try.prog 5 #[.int .i64 a0, .int .i64 a1] w fun e w' => e = .returned (.bool true) ∧ Below w.heap.size w w' :=
  sizes_walk a0 a1 w (wf_i64 _ w0) (wf_i64 _ w1)
end Go.Proofs.Ytjoaenfibkgplaa

namespace Go.Proofs.Ytjoaenfibkgplaa
set_option linter.unusedSimpArgs false
open Go.RowKit Go.Cq
set_option linter.unusedVariables false

/-- 'append(out, xs...)': what comes is a slice, and the old one reads as it did. -/
theorem wpList_append_keep {P : Program} (w : World) {ops : Array Oper} {rest : List Oper} {o : Oper} {a : Act} {Q : Exit → Act → World → Prop} (hgd : o.guard = none) (s x : Operand) (t : TypeId)
    (ho : o.op = .call { callee := .builtin .append, args := #[s, x], argTypes := #[t, t] })
    (base : Nat) (e : TypeId) (k : IntKind) (bytes : Nat) (ht : P.underlying t = some (.slice e)) (hi : (P.info? e).map (fun i => (i.zero, i.size, i.bytes)) = some (some (.int k 0), 1, bytes))
    (a0 : Option Addr) (c0 : Nat) (xs : List Nat) (hs : a.eval s = .slice a0 xs.length c0) (hown : w.ownsRow base e 1 (.slice a0 xs.length c0) xs.length (nums k xs))
    (ad : Addr) (m c : Nat) (ys : List Nat) (hx : a.eval x = .slice (some ad) m c) (hy : Nums w k (some ad) m c ys)
    (h63 : xs.length + m ≤ maxLen) (hbytes : (xs.length + m) * bytes ≤ 140737488355328) (hbase : base ≤ w.heap.size)
    (h : ∀ a' c' w', Hid (w'.ownsRow base e 1 (.slice a' (cat xs ys).length c') (cat xs ys).length (nums k (cat xs ys))) → Hid (Nums w' k a' (cat xs ys).length c' (cat xs ys)) → Hid (w.grownBy w' (Value.slice a0 xs.length c0).ownBlock) →
      Hid (Nums w' k a0 xs.length c0 xs) → wpList P ops Q rest (a.put o.dst (.slice a' (cat xs ys).length c')) w') : wpList P ops Q (o :: rest) a w := by
  obtain ⟨i, hi1, hi2, hi3, hi4⟩ := info_parts hi
  obtain ⟨y1, y2, y0, y3⟩ := hy
  have hnl : (nums k ys).length = m * 1 := by rw [nums_length]; omega
  have hnews : ∀ j u, (nums k ys)[j]? = some u → w.cell? (ad.add j) = some u := by
    intro j u hj
    have hjl : j < ys.length := by have := (List.getElem?_eq_some_iff.1 hj).1; rwa [nums_length] at this
    rw [nums_get k ys j hjl] at hj
    obtain ⟨b, off, e1, _, hc⟩ := y3 j (by omega)
    obtain rfl := Option.some.inj e1
    rw [Addr.add_lit, hc, ← hj]
  refine wpList_plain hgd fun K hK => ?_
  obtain ⟨v', w', hr, h2, h3, h4, h5⟩ := run_append_own_at (P := P) w base t o.type e i (.int k 0) 1 bytes ht hi1 hi2 hi3 hi4 rfl (by decide) _ xs.length (nums k xs) hown ad m c (nums k ys) hnl hnews (nums_one k ys) h63 hbytes hbase
  have h2' : w'.ownsRow base e 1 v' (cat xs ys).length (nums k (cat xs ys)) := by rw [cat_length, y1, cat, nums_append]; exact h2
  obtain ⟨a', c', rfl, hn⟩ := Nums.of_own h2'
  have old : Nums w' k a0 xs.length c0 xs := by
    have hold := hown
    rcases hown.2 with ⟨hv, h0⟩ | ⟨g, cap, cur, hv, hb, hg, hnc, hcm, hcs, htk⟩
    · obtain rfl := List.eq_nil_of_length_eq_zero h0
      simp only [Value.slice.injEq] at hv
      obtain ⟨rfl, _, rfl⟩ := hv
      exact Nums.nil _ _
    · simp only [Value.slice.injEq, true_and] at hv
      obtain ⟨rfl, rfl⟩ := hv
      by_cases hroom : xs.length + m ≤ c0
      · have hr2 := run_append_room_cells (P := P) w t o.type e i ht hi1 g 0 xs.length c0 ad m c (nums k ys) (by rw [hi3]; exact hnl) hnews (nums_one k ys) hroom
          (fun j hj => by rw [hi3, cell_of_row w g _ cur e (0, 0) hg, Array.getElem?_eq_getElem (by rw [hcs]; rw [hnl] at hj; omega)]; rfl)
          (fun j hj => by exact blk_free hg _)
        rw [hr] at hr2
        injection hr2 with e1 e2
        simp only [Value.slice.injEq] at e1
        obtain ⟨rfl, e3, rfl⟩ := e1
        have := hn.take xs.length (by rw [cat_length]; omega)
        rwa [show (cat xs ys).take xs.length = xs from List.take_left] at this
      · obtain ⟨v2, w2, hr2, r1, r2⟩ := run_append_arg_grows (P := P) w t o.type e i (.int k 0) 1 bytes ht hi1 hi2 hi3 hi4 rfl (by decide) ⟨g, 0, none⟩ xs.length c0 (nums k xs) (by rw [nums_length]; omega) (hold.cells (g := g) rfl) ad m c (nums k ys) hnl hnews (by omega) h63 hbytes
        rw [hr] at hr2
        injection hr2 with e1 e2
        subst e2
        obtain ⟨a2, c2, e5, hn2⟩ := Nums.of_own hold
        simp only [Value.slice.injEq, true_and] at e5
        obtain ⟨rfl, rfl⟩ := e5
        exact nums_own hn2 r2 (fun r hr => by cases hr)
  unfold Oper.wp execOp
  simp only [ho, resolve, invoke, builtin, Sem.run_bind, Sem.run_pure, Result.andThen_ok, List.map_toArray, List.map_cons, List.map_nil, hs, hx, hr]
  exact hK _ _ (h a' c' w' h2' hn h3 old)

def wAd (i : Nat) : Nat := encN ⟨1, i, i, i, 0, 0⟩
def w35 : Nat := encN ⟨35, 0, 0, 0, 0, 0⟩
def w36 : Nat := encN ⟨36, 0, 0, 0, 0, 0⟩
def wJ64 : Nat := encN ⟨68, 0, 0, 0, 0, 64⟩
def w357 : Nat := encN ⟨35, 0, 0, 0, 0, 7⟩
theorem wAd_ok : ∀ i, i < 16 → plainW (wAd i) = true ∧ wAd i < 4294967296 := by decide +kernel
theorem w35_ok : plainW w35 = false ∧ jumpsW w35 = false ∧ w35 < 4294967296 := by decide +kernel
theorem w36_ok : plainW w36 = false ∧ jumpsW w36 = false ∧ w36 < 4294967296 := by decide +kernel
theorem w357_ok : plainW w357 = false ∧ w357 < 4294967296 := by decide +kernel
theorem wJ64_ok : plainW wJ64 = false ∧ jumpsW wJ64 = true ∧ wJ64 < 4294967296 := by decide +kernel
theorem wJ64_dec : (refDec wJ64).op = 68 := by decide +kernel
theorem word_Ad (i : Nat) (hi : i < 16) (w : World) : Calls Try.prog 18 #[.int .i64 1, .int .i64 (i : Int), .int .i64 (i : Int), .int .i64 (i : Int), .int .i64 0, .int .u32 0] w fun e w' => e = .returned (.int .u32 (wAd i : Int)) ∧ Below w.heap.size w w' :=
  word18_any 1 i i i 0 0 w (by omega) (by omega) (by omega) (by omega) (by omega) (by omega)
theorem word_35 (w : World) : Calls Try.prog 18 #[.int .i64 35, .int .i64 0, .int .i64 0, .int .i64 0, .int .i64 0, .int .u32 0] w fun e w' => e = .returned (.int .u32 (w35 : Int)) ∧ Below w.heap.size w w' :=
  word18_any 35 0 0 0 0 0 w (by omega) (by omega) (by omega) (by omega) (by omega) (by omega)
theorem word_36 (w : World) : Calls Try.prog 18 #[.int .i64 36, .int .i64 0, .int .i64 0, .int .i64 0, .int .i64 0, .int .u32 0] w fun e w' => e = .returned (.int .u32 (w36 : Int)) ∧ Below w.heap.size w w' :=
  word18_any 36 0 0 0 0 0 w (by omega) (by omega) (by omega) (by omega) (by omega) (by omega)
theorem word_357 (w : World) : Calls Try.prog 18 #[.int .i64 35, .int .i64 0, .int .i64 0, .int .i64 0, .int .i64 0, .int .u32 7] w fun e w' => e = .returned (.int .u32 (w357 : Int)) ∧ Below w.heap.size w w' :=
  word18_any 35 0 0 0 0 7 w (by omega) (by omega) (by omega) (by omega) (by omega) (by omega)
theorem word_J64 (w : World) : Calls Try.prog 18 #[.int .i64 68, .int .i64 0, .int .i64 0, .int .i64 0, .int .i64 0, .int .u32 64] w fun e w' => e = .returned (.int .u32 (wJ64 : Int)) ∧ Below w.heap.size w w' :=
  word18_any 68 0 0 0 0 64 w (by omega) (by omega) (by omega) (by omega) (by omega) (by omega)

/-- So many plain words, and what ends a block. -/
def endsW (k : Nat) : List Nat := (List.range k).map wAd
theorem endsW_length (k : Nat) : (endsW k).length = k := by simp [endsW]
theorem endsW_succ (k : Nat) : endsW (k + 1) = cat (endsW k) [wAd k] := by unfold endsW cat; rw [List.range_succ, List.map_append]; rfl
theorem endsW_plain {k : Nat} (hk : k ≤ 16) : ∀ x ∈ endsW k, plainW x = true := by
  intro y hy
  unfold endsW at hy
  rw [List.mem_map] at hy
  obtain ⟨i, hi, rfl⟩ := hy
  exact (wAd_ok i (by have := List.mem_range.1 hi; omega)).1
theorem endsW_lt {k : Nat} (hk : k ≤ 16) : ∀ x ∈ endsW k, x < 4294967296 := by
  intro y hy
  unfold endsW at hy
  rw [List.mem_map] at hy
  obtain ⟨i, hi, rfl⟩ := hy
  exact (wAd_ok i (by have := List.mem_range.1 hi; omega)).2
/-- What may end a block. -/
def Ends (e : List Nat) : Prop := (∃ x, e = [x] ∧ plainW x = false ∧ jumpsW x = false) ∨ (∃ x y, e = [x, y] ∧ plainW x = false ∧ jumpsW x = true ∧ plainW y = false)
theorem ends_cut {e : List Nat} (he : Ends e) (k : Nat) (hk : k < 16) (rest : List Nat) : cutGo ((cat (endsW k) e).drop 0 ++ rest) [] false = endsW k := by
  rw [List.drop_zero, cat, List.append_assoc, cutGo_plain (endsW_plain (by omega)) _ _ (by rw [endsW_length]; simp; omega), List.nil_append]
  rcases he with ⟨x, rfl, h1, h2⟩ | ⟨x, y, rfl, h1, h2, h3⟩
  · rw [List.cons_append, cutGo_stop h1 h2]
  · rw [List.cons_append, List.cons_append]
    by_cases hl : k + 2 ≤ 16
    · rw [cutGo_jump h1 h2 _ _ _ (by rw [endsW_length]; exact hl), h3, if_neg Bool.false_ne_true]
    · rw [cutGo_long h1 _ _ (by rw [endsW_length]; omega)]
theorem ends_all (k : Nat) (hk : k < 16) : cutGo ((endsW k).drop 0 ++ []) [] false = endsW k := by
  rw [List.drop_zero, cutGo_plain (endsW_plain (by omega)) _ _ (by rw [endsW_length]; simp; omega), List.nil_append, cutGo, if_neg Bool.false_ne_true]
theorem ends0 : Ends [w35] := .inl ⟨_, rfl, w35_ok.1, w35_ok.2.1⟩
theorem ends1 : Ends [w36] := .inl ⟨_, rfl, w36_ok.1, w36_ok.2.1⟩
theorem ends2 : Ends [wFF] := .inl ⟨_, rfl, wFF_plain, wFF_jumps⟩
theorem ends3 : Ends [wJ64, wJ64] := .inr ⟨_, _, rfl, wJ64_ok.1, wJ64_ok.2.1, wJ64_ok.1⟩
theorem ends4 : Ends [wJ64, w357] := .inr ⟨_, _, rfl, wJ64_ok.1, wJ64_ok.2.1, w357_ok.1⟩
theorem end_lt {e : List Nat} (h : e = [w35] ∨ e = [w36] ∨ e = [wFF] ∨ e = [wJ64, wJ64] ∨ e = [wJ64, w357]) : ∀ x ∈ e, x < 4294967296 := by
  intro x hx
  rcases h with rfl | rfl | rfl | rfl | rfl <;> simp only [List.mem_cons, List.not_mem_nil, or_false] at hx
  · rw [hx]; exact w35_ok.2.2
  · rw [hx]; exact w36_ok.2.2
  · rw [hx]; decide
  · rcases hx with h | h <;> rw [h] <;> exact wJ64_ok.2.2
  · rcases hx with h | h <;> rw [h]
    · exact wJ64_ok.2.2
    · exact w357_ok.2
end Go.Proofs.Ytjoaenfibkgplaa
