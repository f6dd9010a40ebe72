import Derived.Test.YtjoaenfibkgplaaF1
namespace Go.Proofs.Ytjoaenfibkgplaa
set_option linter.unusedSimpArgs false
open Go.RowKit Go.Cq
set_option linter.unusedVariables false

def wP : Nat := encN ⟨1, 1, 2, 3, 0, 0⟩
def wJ : Nat := encN ⟨68, 0, 0, 0, 0, 0⟩
theorem wP_lt : wP < 4294967296 := by decide +kernel
theorem wJ_lt : wJ < 4294967296 := by decide +kernel
theorem wP_plain : plainW wP = true := by decide +kernel
theorem wJ_plain : plainW wJ = false := by decide +kernel
theorem wJ_jumps : jumpsW wJ = true := by decide +kernel
theorem word_P (w : World) : Calls Try.prog 18 #[.int .i64 1, .int .i64 1, .int .i64 2, .int .i64 3, .int .i64 0, .int .u32 0] w fun e w' => e = .returned (.int .u32 (wP : Int)) ∧ Below w.heap.size w w' :=
  word18_any 1 1 2 3 0 0 w (by omega) (by omega) (by omega) (by omega) (by omega) (by omega)
theorem word_J (w : World) : Calls Try.prog 18 #[.int .i64 68, .int .i64 0, .int .i64 0, .int .i64 0, .int .i64 0, .int .u32 0] w fun e w' => e = .returned (.int .u32 (wJ : Int)) ∧ Below w.heap.size w w' :=
  word18_any 68 0 0 0 0 0 w (by omega) (by omega) (by omega) (by omega) (by omega) (by omega)
theorem awake_cut (rest : List Nat) : cutGo ([wP, wJ, wP, wP].drop 0 ++ rest) [] false = [wP, wJ, wP] := by
  show cutGo ([wP] ++ (wJ :: wP :: wP :: rest)) [] false = _
  rw [cutGo_plain (by intro x hx; rw [List.mem_singleton] at hx; rw [hx]; exact wP_plain) _ _ (by decide), List.nil_append, cutGo_jump wJ_plain wJ_jumps _ _ _ (by decide), wP_plain, if_pos rfl]
  rfl
theorem awake_right : rightN [wP, wJ, wP] = true := right_of_jump (a := [wP]) (by intro x hx; rw [List.mem_singleton] at hx; rw [hx]; exact wP_plain) wJ_jumps wP_plain (by decide)
theorem awake_jumps : jumpsN [wP, wJ, wP] = true := by
  unfold jumpsN
  rw [awake_right]
  show (true && true && jumpsW wJ) = true
  rw [wJ_jumps]; rfl
theorem mem3 {x : Nat} (hx : x ∈ [wP, wJ, wP]) : x < 4294967296 := by
  simp only [List.mem_cons, List.not_mem_nil, or_false] at hx
  rcases hx with h | h | h <;> rw [h] <;> first | exact wP_lt | exact wJ_lt
theorem mem4 {x : Nat} (hx : x ∈ [wP, wJ, wP, wP]) : x < 4294967296 := by
  simp only [List.mem_cons, List.not_mem_nil, or_false] at hx
  rcases hx with h | h | h | h <;> rw [h] <;> first | exact wP_lt | exact wJ_lt
theorem right_nil : rightN [] = false := rfl
theorem plainI_one : plainI 1 = true := by decide +kernel

set_option maxHeartbeats 1000000 in
/-- 'calquelaw14.awake'. -/
theorem awake_any (w : World) : Calls Try.prog 17 #[] w fun e w' => e = .returned (.bool true) ∧ Below w.heap.size w w' := by
  go_enter Try.func17, Try.ntmps17
  go_wp2_with (first
    | (go_at_call 18; with_reducible refine (word_P _).mono ?_; rintro e w1 ⟨rfl, hb1⟩)
    | (go_at_call 18; with_reducible refine (word_J _).mono ?_; rintro e w2 ⟨rfl, hb2⟩))
  refine (code_any (ys := [wP, wJ, wP, wP]) _ (Nums.new _ .u32 _ _ [wP, wJ, wP, wP] rfl) (fun y hy => mem4 hy) (by decide)).mono ?_
  rintro e w3 ⟨v, rfl, ho, hb3⟩
  obtain ⟨a, c, rfl, hN⟩ := Nums.of_own ho
  have HB := Lib.hid (((hb1.trans (hb2.mono hb1.size)).alloc (by have := hb1.size; have := hb2.size; omega) _).trans (hb3.mono (by have := hb1.size; have := hb2.size; simp; omega)))
  have HN := Lib.hid hN
  clear ho hN hb1 hb2 hb3
  go_wp2_with fail
  refine (mem_one (at_ := 0) (q := 7) (ws := [wP, wJ, wP, wP]) (heap_alloc_last w3 _) (HN.out.alloc _) (fun y hy => mem4 hy) (by decide) (by decide)).mono ?_
  rintro e w4 ⟨mb, mm, wm, S, rfl, hM, hH, hb4⟩
  have HB4 := Lib.hid ((HB.out.alloc HB.out.size _).trans (hb4.mono (by have := HB.out.size; simp; omega)))
  clear hb4 HB HN
  go_wp2_with fail
  refine (cut_code 0 0 hM hH rfl rfl (by show 0 + 16 < 4294967296; decide) (by show ((7 : Int) % 8).toNat % 2 = 1; decide) (fun y hy => mem4 hy) (by decide) rfl).mono ?_
  rintro e w5 ⟨a2, l2, c2, rest, rfl, hN, -, -, hb5⟩
  rw [awake_cut] at hN
  have HB5 := Lib.hid (HB4.out.trans (hb5.mono HB4.out.size))
  obtain rfl : 3 = l2 := hN.1
  have HN := Lib.hid hN
  have hnil := right_nil
  clear hb5 hN hM hH HB4
  go_wp2_with fail
  refine (jumps45_any _ HN.out (fun y hy => mem3 hy) (by decide)).mono ?_; rintro e w6 ⟨rfl, hb6⟩; rw [awake_jumps]
  have HN6 := Lib.hid (HN.out.kept hb6)
  have HB6 := Lib.hid (HB5.out.trans (hb6.mono HB5.out.size))
  clear hb6 HN HB5
  go_wp2_with fail
  refine (right_any _ HN6.out (fun y hy => mem3 hy) (by decide)).mono ?_; rintro e w7 ⟨rfl, hb7⟩; rw [awake_right]
  have HB7 := Lib.hid (HB6.out.trans (hb7.mono HB6.out.size))
  clear hb7 HN6 HB6
  go_wp2_with fail
  refine (right_any w7 (Nums.nil w7 .u32) (by intro x hx; cases hx) (by decide)).mono ?_; rintro e w8 ⟨rfl, hb8⟩; rw [right_nil]
  have HB8 := Lib.hid (HB7.out.trans (hb8.mono HB7.out.size))
  clear hb8 HB7
  go_wp2_with fail
  refine (plain_any 1 w8).mono ?_; rintro e w9 ⟨rfl, rfl⟩; rw [plainI_one]
  go_wp2_with fail
  go_ret
  exact ⟨rfl, HB8.out⟩
end Go.Proofs.Ytjoaenfibkgplaa
