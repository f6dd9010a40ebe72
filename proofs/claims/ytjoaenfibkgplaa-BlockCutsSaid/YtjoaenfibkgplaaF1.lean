import Derived.Test.YtjoaenfibkgplaaP2
namespace Go.Proofs.Ytjoaenfibkgplaa
set_option linter.unusedSimpArgs false
open Go.RowKit Go.Cq
set_option linter.unusedVariables false

/-- 'block.Jumps'. -/
def jumpsN (xs : List Nat) : Bool := rightN xs && decide (1 < xs.length) && jumpsW (xs.getD (xs.length - 2) 0)
theorem rightN_len {xs : List Nat} (h : rightN xs = true) : 0 < xs.length ∧ xs.length ≤ 16 := by
  unfold rightN at h
  rw [Bool.and_eq_true, Bool.and_eq_true, decide_eq_true_eq, decide_eq_true_eq] at h
  exact h.1
theorem jumps45_any {a : Option Addr} {la ca : Nat} {xs : List Nat} (w : World) (h1 : Nums w .u32 a la ca xs) (hx : ∀ x ∈ xs, x < 4294967296) (hl : la ≤ 4294967296) :
    Calls Try.prog 45 #[.slice a la ca] w fun e w' => e = .returned (.bool (jumpsN xs)) ∧ Below w.heap.size w w' := by
  have H1 := Lib.hid h1
  have HX := Lib.hid hx
  have HLN : Hid (xs.length = la) := h1.1
  clear h1 hx
  cases hr : rightN xs with
  | false =>
    have HR := Lib.hid hr
    clear hr
    go_enter Try.func45, Try.ntmps45
    go_wp2_with (go_at_call 14; refine (right_any _ H1.out HX.out hl).mono ?_; rintro e w1 ⟨rfl, hb1⟩; rw [HR.out])
    go_ret
    exact ⟨by unfold jumpsN; rw [HR.out]; rfl, hb1⟩
  | true =>
    have hlen := rightN_len hr
    have HR := Lib.hid hr
    clear hr
    rw [HLN.out] at hlen
    by_cases h2 : 1 < la
    · have h3 : (1 : Int) < (la : Int) := by omega
      have HJ : Hid (jumpsN xs = jumpsW (xs.getD (la - 2) 0)) := by refine Lib.hid ?_; unfold jumpsN; rw [HR.out, HLN.out, decide_eq_true h2]; rfl
      obtain ⟨k, hk⟩ : ∃ k, la = k + 2 := ⟨la - 2, by omega⟩
      subst hk
      obtain ⟨b1, o1, rfl, -, c1⟩ := H1.out.2.2.2 k (by omega)
      have HU2 : Hid (xs.getD k 0 < 4294967296) := HX.out _ (getD_mem _ _ (by rw [HLN.out]; omega))
      rw [show k + 2 - 2 = k by omega] at HJ
      generalize xs.getD k 0 = u at c1 HU2 HJ
      have hk4 : ((k + 2 : Nat) : Int) - 2 = (k : Int) := by omega
      have hk5 : wrap64 (((k + 2 : Nat) : Int) - 2) = (k : Int) := by rw [IntWalk.wrap64_in _ ⟨by omega, by omega⟩]; omega
      go_enter Try.func45, Try.ntmps45
      go_wp2_with fail
      refine (right_any _ H1.out HX.out hl).mono ?_; rintro e w1 ⟨rfl, hb1⟩; rw [HR.out]
      have c2 := cell_kept c1 hb1
      clear c1
      go_wp2_with (go_at_call 43; refine (jumpsw_any u _ HU2.out).mono ?_; rintro e w2 ⟨rfl, hb2⟩)
      go_ret
      exact ⟨by rw [HJ.out]; rfl, hb1.trans (hb2.mono hb1.size)⟩
    · have h3 : ¬ (1 : Int) < (la : Int) := by omega
      go_enter Try.func45, Try.ntmps45
      go_wp2_with (go_at_call 14; refine (right_any _ H1.out HX.out hl).mono ?_; rintro e w1 ⟨rfl, hb1⟩; rw [HR.out])
      go_ret
      exact ⟨by unfold jumpsN; rw [HLN.out, decide_eq_false h2, Bool.and_false, Bool.false_and]; rfl, hb1⟩

theorem codeN_byte (ws : List Nat) (h : ∀ x ∈ ws, x < 4294967296) : ∀ y ∈ codeN ws, y < 256 := by
  intro y hy
  unfold codeN at hy
  rw [List.mem_flatMap] at hy
  obtain ⟨x, hx, hy⟩ := hy
  have := h x hx
  simp [putN] at hy
  omega
/-! A memory of one part whose bytes are words. -/
theorem mem_one {w : World} {b cap : Nat} {t : TypeId} {at_ : Nat} {q : Int} {ws : List Nat} {a : Option Addr} {c : Nat} (hrow : w.heap[b]? = some (.cells #[.int .u32 (at_ : Int), .slice a (codeN ws).length c, .int .i64 q, .bool false] t (0, 0)))
    (hN : Nums w .u8 a (codeN ws).length c (codeN ws)) (hw : ∀ x ∈ ws, x < 4294967296) (h1 : at_ + max 1 (4 * ws.length) ≤ 4294967296) (h2 : ws.length ≤ 2000) :
    Calls Try.prog 10 #[.slice (some ⟨b, 0, none⟩) 1 cap] w fun e w' => ∃ mb mm wm S, e = .returned (.pointer (some ⟨mb, 0, none⟩)) ∧ MemAt w' w.heap.size mb mm wm S ∧ Holds S ⟨at_, codeN ws, q, false, a, c⟩ ∧ Below w.heap.size w w' := by
  have hl := codeN_length ws
  refine (memory_any (ps := [⟨at_, codeN ws, q, false, a, c⟩]) (a := some ⟨b, 0, none⟩) (cap := cap) w ?_ (by simp)).mono ?_
  · intro i hi
    obtain rfl : i = 0 := by simpa using hi
    refine ⟨b, 0, rfl, ?_⟩
    exact ⟨blk_cell hrow 0, blk_cell hrow 1, blk_cell hrow 2, blk_cell hrow 3, by show at_ < _; omega, by show (codeN ws).length < _; omega, hN, codeN_byte ws hw⟩
  · rintro e w' ⟨mb, mm, wm, S, rfl, h3, h4, h5, h6⟩
    exact ⟨mb, mm, wm, S, rfl, h3, holds_of h4 (by show at_ + max 1 (codeN ws).length ≤ _; omega) (by show (codeN ws).length ≤ _; omega), h6⟩
theorem cutGo_mem (xs : List Nat) : ∀ l j, ∀ y ∈ cutGo xs l j, y ∈ xs ∨ y ∈ l := by
  induction xs with
  | nil =>
    intro l j y hy
    rw [cutGo] at hy
    split at hy
    · exact .inr (List.dropLast_subset _ hy)
    · exact .inr hy
  | cons x xs ih =>
    intro l j y hy
    cases j with
    | true =>
      rw [cutGo] at hy
      split at hy
      · rcases List.mem_append.1 hy with h | h
        · exact .inr h
        · rw [List.mem_singleton] at h; exact .inl (h ▸ List.mem_cons_self)
      · exact .inr (List.dropLast_subset _ hy)
    | false =>
      have step : ∀ j, y ∈ cutGo xs (l ++ [x]) j → y ∈ x :: xs ∨ y ∈ l := fun j h => by
        rcases ih _ _ y h with h | h
        · exact .inl (List.mem_cons_of_mem _ h)
        · rcases List.mem_append.1 h with h | h
          · exact .inr h
          · rw [List.mem_singleton] at h; exact .inl (h ▸ List.mem_cons_self)
      rw [cutGo] at hy
      split at hy
      · exact step _ hy
      · split at hy
        · exact step _ hy
        · exact .inr hy
/-- Cut at a place of the code. -/
theorem cut_code {w : World} {B mb mm wm : Nat} {S : MS} {p : PartV} {ws : List Nat} (x j : Nat) (hM : MemAt w B mb mm wm S) (h : Holds S p) (hd : p.data = codeN ws) (h4 : p.at_ % 4 = 0) (hb : p.at_ + 4 * ws.length < 4294967296) (hq : (p.perm % 8).toNat % 2 = 1)
    (hw : ∀ x ∈ ws, x < 4294967296) (hj : j ≤ ws.length) (hx : x = p.at_ + 4 * j) :
    Calls Try.prog 13 #[.pointer (some ⟨mb, 0, none⟩), .int .u32 (x : Int)] w fun e w' => ∃ a len cap rest, e = .returned (.slice a len cap) ∧ Nums w' .u32 a len cap (cutGo (ws.drop j ++ rest) [] false) ∧ (∀ y ∈ cutGo (ws.drop j ++ rest) [] false, y < 4294967296) ∧ ((p.at_ + 4 * ws.length) % 256 = 0 → 0 < ws.length → rest = []) ∧ Below w.heap.size w w' := by
  subst hx
  obtain ⟨xs, rest, f1, f2, f3⟩ := fetches_code hM h hd h4 (by omega) hq hw (ws.length - j) j (by omega)
  refine (cut_any (p.at_ + 4 * j) w (by omega) hM xs f1).mono ?_
  rintro e w' ⟨a, len, cap, rfl, hn, hbw⟩
  refine ⟨a, len, cap, rest, rfl, by rw [← f2]; exact hn, fun y hy => ?_, f3, hbw⟩
  rw [← f2] at hy
  rcases cutGo_mem _ _ _ y hy with h | h
  · obtain ⟨z, _, rfl⟩ := List.mem_map.1 h
    exact z.2
  · cases h
end Go.Proofs.Ytjoaenfibkgplaa
