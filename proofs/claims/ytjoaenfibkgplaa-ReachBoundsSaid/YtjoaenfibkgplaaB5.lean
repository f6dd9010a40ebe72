import Derived.Test.YtjoaenfibkgplaaD5
namespace Go.Proofs.Ytjoaenfibkgplaa
set_option linter.unusedSimpArgs false
open Go.RowKit Go.Cq
set_option linter.unusedVariables false

theorem kind_9 (w : World) : Calls Try.prog 91 #[.int .i64 9] w fun e w' => e = .returned (.int .i64 6) ∧ w = w' := by
  go_enter Try.func91, Try.ntmps91
  go_wp2
  go_ret
  exact ⟨rfl, rfl⟩

theorem kind_10 (w : World) : Calls Try.prog 91 #[.int .i64 10] w fun e w' => e = .returned (.int .i64 6) ∧ w = w' := by
  go_enter Try.func91, Try.ntmps91
  go_wp2
  go_ret
  exact ⟨rfl, rfl⟩

theorem kind_27 (w : World) : Calls Try.prog 91 #[.int .i64 27] w fun e w' => e = .returned (.int .i64 2) ∧ w = w' := by
  go_enter Try.func91, Try.ntmps91
  go_wp2
  go_ret
  exact ⟨rfl, rfl⟩

theorem kind_28 (w : World) : Calls Try.prog 91 #[.int .i64 28] w fun e w' => e = .returned (.int .i64 2) ∧ w = w' := by
  go_enter Try.func91, Try.ntmps91
  go_wp2
  go_ret
  exact ⟨rfl, rfl⟩

theorem kind_35 (w : World) : Calls Try.prog 91 #[.int .i64 35] w fun e w' => e = .returned (.int .i64 3) ∧ w = w' := by
  go_enter Try.func91, Try.ntmps91
  go_wp2
  go_ret
  exact ⟨rfl, rfl⟩

theorem kind_36 (w : World) : Calls Try.prog 91 #[.int .i64 36] w fun e w' => e = .returned (.int .i64 3) ∧ w = w' := by
  go_enter Try.func91, Try.ntmps91
  go_wp2
  go_ret
  exact ⟨rfl, rfl⟩

theorem kind_41 (w : World) : Calls Try.prog 91 #[.int .i64 41] w fun e w' => e = .returned (.int .i64 6) ∧ w = w' := by
  go_enter Try.func91, Try.ntmps91
  go_wp2
  go_ret
  exact ⟨rfl, rfl⟩

theorem kind_r0 (op : Int) (w : World) (h : op < 1) : Calls Try.prog 91 #[.int .i64 op] w fun e w' => e = .returned (.int .i64 0) ∧ w = w' := by
  have e9 : (op == 9) = false := by simp; omega
  have e10 : (op == 10) = false := by simp; omega
  have e27 : (op == 27) = false := by simp; omega
  have e28 : (op == 28) = false := by simp; omega
  have e35 : (op == 35) = false := by simp; omega
  have e36 : (op == 36) = false := by simp; omega
  have e41 : (op == 41) = false := by simp; omega
  go_enter Try.func91, Try.ntmps91
  go_wp2
  go_ret
  exact ⟨rfl, rfl⟩

theorem kind_r1 (op : Int) (w : World) (h : 1 ≤ op ∧ op ≤ 8) : Calls Try.prog 91 #[.int .i64 op] w fun e w' => e = .returned (.int .i64 1) ∧ w = w' := by
  obtain ⟨h1, h2⟩ := h
  have e9 : (op == 9) = false := by simp; omega
  have e10 : (op == 10) = false := by simp; omega
  have e27 : (op == 27) = false := by simp; omega
  have e28 : (op == 28) = false := by simp; omega
  have e35 : (op == 35) = false := by simp; omega
  have e36 : (op == 36) = false := by simp; omega
  have e41 : (op == 41) = false := by simp; omega
  go_enter Try.func91, Try.ntmps91
  go_wp2
  go_ret
  exact ⟨rfl, rfl⟩

theorem kind_r2 (op : Int) (w : World) (h : 11 ≤ op ∧ op ≤ 26) : Calls Try.prog 91 #[.int .i64 op] w fun e w' => e = .returned (.int .i64 1) ∧ w = w' := by
  obtain ⟨h1, h2⟩ := h
  have e9 : (op == 9) = false := by simp; omega
  have e10 : (op == 10) = false := by simp; omega
  have e27 : (op == 27) = false := by simp; omega
  have e28 : (op == 28) = false := by simp; omega
  have e35 : (op == 35) = false := by simp; omega
  have e36 : (op == 36) = false := by simp; omega
  have e41 : (op == 41) = false := by simp; omega
  go_enter Try.func91, Try.ntmps91
  go_wp2
  go_ret
  exact ⟨rfl, rfl⟩

theorem kind_r3 (op : Int) (w : World) (h : 29 ≤ op ∧ op ≤ 34) : Calls Try.prog 91 #[.int .i64 op] w fun e w' => e = .returned (.int .i64 6) ∧ w = w' := by
  obtain ⟨h1, h2⟩ := h
  have e9 : (op == 9) = false := by simp; omega
  have e10 : (op == 10) = false := by simp; omega
  have e27 : (op == 27) = false := by simp; omega
  have e28 : (op == 28) = false := by simp; omega
  have e35 : (op == 35) = false := by simp; omega
  have e36 : (op == 36) = false := by simp; omega
  have e41 : (op == 41) = false := by simp; omega
  go_enter Try.func91, Try.ntmps91
  go_wp2
  go_ret
  exact ⟨rfl, rfl⟩

theorem kind_r4 (op : Int) (w : World) (h : 37 ≤ op ∧ op ≤ 40) : Calls Try.prog 91 #[.int .i64 op] w fun e w' => e = .returned (.int .i64 1) ∧ w = w' := by
  obtain ⟨h1, h2⟩ := h
  have e9 : (op == 9) = false := by simp; omega
  have e10 : (op == 10) = false := by simp; omega
  have e27 : (op == 27) = false := by simp; omega
  have e28 : (op == 28) = false := by simp; omega
  have e35 : (op == 35) = false := by simp; omega
  have e36 : (op == 36) = false := by simp; omega
  have e41 : (op == 41) = false := by simp; omega
  go_enter Try.func91, Try.ntmps91
  go_wp2
  go_ret
  exact ⟨rfl, rfl⟩

theorem kind_r5 (op : Int) (w : World) (h : 42 ≤ op ∧ op ≤ 47) : Calls Try.prog 91 #[.int .i64 op] w fun e w' => e = .returned (.int .i64 1) ∧ w = w' := by
  obtain ⟨h1, h2⟩ := h
  have e9 : (op == 9) = false := by simp; omega
  have e10 : (op == 10) = false := by simp; omega
  have e27 : (op == 27) = false := by simp; omega
  have e28 : (op == 28) = false := by simp; omega
  have e35 : (op == 35) = false := by simp; omega
  have e36 : (op == 36) = false := by simp; omega
  have e41 : (op == 41) = false := by simp; omega
  go_enter Try.func91, Try.ntmps91
  go_wp2
  go_ret
  exact ⟨rfl, rfl⟩

theorem kind_r6 (op : Int) (w : World) (h : 48 ≤ op ∧ op ≤ 54) : Calls Try.prog 91 #[.int .i64 op] w fun e w' => e = .returned (.int .i64 4) ∧ w = w' := by
  obtain ⟨h1, h2⟩ := h
  have e9 : (op == 9) = false := by simp; omega
  have e10 : (op == 10) = false := by simp; omega
  have e27 : (op == 27) = false := by simp; omega
  have e28 : (op == 28) = false := by simp; omega
  have e35 : (op == 35) = false := by simp; omega
  have e36 : (op == 36) = false := by simp; omega
  have e41 : (op == 41) = false := by simp; omega
  go_enter Try.func91, Try.ntmps91
  go_wp2
  go_ret
  exact ⟨rfl, rfl⟩

theorem kind_r7 (op : Int) (w : World) (h : 55 ≤ op ∧ op ≤ 59) : Calls Try.prog 91 #[.int .i64 op] w fun e w' => e = .returned (.int .i64 5) ∧ w = w' := by
  obtain ⟨h1, h2⟩ := h
  have e9 : (op == 9) = false := by simp; omega
  have e10 : (op == 10) = false := by simp; omega
  have e27 : (op == 27) = false := by simp; omega
  have e28 : (op == 28) = false := by simp; omega
  have e35 : (op == 35) = false := by simp; omega
  have e36 : (op == 36) = false := by simp; omega
  have e41 : (op == 41) = false := by simp; omega
  go_enter Try.func91, Try.ntmps91
  go_wp2
  go_ret
  exact ⟨rfl, rfl⟩

theorem kind_r8 (op : Int) (w : World) (h : 60 ≤ op ∧ op ≤ 69) : Calls Try.prog 91 #[.int .i64 op] w fun e w' => e = .returned (.int .i64 2) ∧ w = w' := by
  obtain ⟨h1, h2⟩ := h
  have e9 : (op == 9) = false := by simp; omega
  have e10 : (op == 10) = false := by simp; omega
  have e27 : (op == 27) = false := by simp; omega
  have e28 : (op == 28) = false := by simp; omega
  have e35 : (op == 35) = false := by simp; omega
  have e36 : (op == 36) = false := by simp; omega
  have e41 : (op == 41) = false := by simp; omega
  go_enter Try.func91, Try.ntmps91
  go_wp2
  go_ret
  exact ⟨rfl, rfl⟩

theorem kind_r9 (op : Int) (w : World) (h : 69 < op) : Calls Try.prog 91 #[.int .i64 op] w fun e w' => e = .returned (.int .i64 0) ∧ w = w' := by
  have e9 : (op == 9) = false := by simp; omega
  have e10 : (op == 10) = false := by simp; omega
  have e27 : (op == 27) = false := by simp; omega
  have e28 : (op == 28) = false := by simp; omega
  have e35 : (op == 35) = false := by simp; omega
  have e36 : (op == 36) = false := by simp; omega
  have e41 : (op == 41) = false := by simp; omega
  go_enter Try.func91, Try.ntmps91
  go_wp2
  go_ret
  exact ⟨rfl, rfl⟩

/-- 'ins.Kind'. -/
theorem kind_any (op : Int) (w : World) : Calls Try.prog 91 #[.int .i64 op] w fun e w' => e = .returned (.int .i64 (kindI op : Nat)) ∧ w = w' := by
  have fin : ∀ k : Nat, kindI op = k → (Calls Try.prog 91 #[.int .i64 op] w fun e w' => e = .returned (.int .i64 (k : Int)) ∧ w = w') → Calls Try.prog 91 #[.int .i64 op] w fun e w' => e = .returned (.int .i64 (kindI op : Nat)) ∧ w = w' := fun k hk h => by rw [hk]; exact h
  by_cases e9 : op = 9
  · subst e9; exact fin 6 rfl (kind_9 w)
  by_cases e10 : op = 10
  · subst e10; exact fin 6 rfl (kind_10 w)
  by_cases e27 : op = 27
  · subst e27; exact fin 2 rfl (kind_27 w)
  by_cases e28 : op = 28
  · subst e28; exact fin 2 rfl (kind_28 w)
  by_cases e35 : op = 35
  · subst e35; exact fin 3 rfl (kind_35 w)
  by_cases e36 : op = 36
  · subst e36; exact fin 3 rfl (kind_36 w)
  by_cases e41 : op = 41
  · subst e41; exact fin 6 rfl (kind_41 w)
  by_cases r0 : op < 1
  · exact fin 0 (by unfold kindI kindN; rw [if_pos (by omega)]) (kind_r0 op w r0)
  by_cases r1 : 1 ≤ op ∧ op ≤ 8
  · exact fin 1 (by unfold kindI kindN; rw [if_neg (by omega)]; repeat (first | rw [if_neg (by omega)] | rw [if_pos (by omega)])) (kind_r1 op w r1)
  by_cases r2 : 11 ≤ op ∧ op ≤ 26
  · exact fin 1 (by unfold kindI kindN; rw [if_neg (by omega)]; repeat (first | rw [if_neg (by omega)] | rw [if_pos (by omega)])) (kind_r2 op w r2)
  by_cases r3 : 29 ≤ op ∧ op ≤ 34
  · exact fin 6 (by unfold kindI kindN; rw [if_neg (by omega)]; repeat (first | rw [if_neg (by omega)] | rw [if_pos (by omega)])) (kind_r3 op w r3)
  by_cases r4 : 37 ≤ op ∧ op ≤ 40
  · exact fin 1 (by unfold kindI kindN; rw [if_neg (by omega)]; repeat (first | rw [if_neg (by omega)] | rw [if_pos (by omega)])) (kind_r4 op w r4)
  by_cases r5 : 42 ≤ op ∧ op ≤ 47
  · exact fin 1 (by unfold kindI kindN; rw [if_neg (by omega)]; repeat (first | rw [if_neg (by omega)] | rw [if_pos (by omega)])) (kind_r5 op w r5)
  by_cases r6 : 48 ≤ op ∧ op ≤ 54
  · exact fin 4 (by unfold kindI kindN; rw [if_neg (by omega)]; repeat (first | rw [if_neg (by omega)] | rw [if_pos (by omega)])) (kind_r6 op w r6)
  by_cases r7 : 55 ≤ op ∧ op ≤ 59
  · exact fin 5 (by unfold kindI kindN; rw [if_neg (by omega)]; repeat (first | rw [if_neg (by omega)] | rw [if_pos (by omega)])) (kind_r7 op w r7)
  by_cases r8 : 60 ≤ op ∧ op ≤ 69
  · exact fin 2 (by unfold kindI kindN; rw [if_neg (by omega)]; repeat (first | rw [if_neg (by omega)] | rw [if_pos (by omega)])) (kind_r8 op w r8)
  by_cases r9 : 69 < op
  · exact fin 0 (by unfold kindI kindN; rw [if_pos (by omega)]) (kind_r9 op w r9)
  omega

/-- 'block.Plain'. -/
def plainI (op : Int) : Bool := kindI op == 1 || kindI op == 4 || kindI op == 5 || kindI op == 6
theorem kindI_le (op : Int) : kindI op ≤ 6 := by
  unfold kindI kindN
  repeat (first | omega | split)
theorem plain_any (op : Int) (w : World) : Calls Try.prog 46 #[.int .i64 op] w fun e w' => e = .returned (.bool (plainI op)) ∧ w = w' := by
  have hk := kindI_le op
  obtain ⟨k, hk2⟩ : ∃ k, kindI op = k := ⟨_, rfl⟩
  have HP : Hid (plainI op = (k == 1 || k == 4 || k == 5 || k == 6)) := by show _ = _; rw [← hk2]; rfl
  have HK := Lib.hid hk2
  rw [hk2] at hk
  clear hk2
  have h7 : k = 0 ∨ k = 1 ∨ k = 2 ∨ k = 3 ∨ k = 4 ∨ k = 5 ∨ k = 6 := by omega
  rcases h7 with rfl | rfl | rfl | rfl | rfl | rfl | rfl
  all_goals
    go_enter Try.func46, Try.ntmps46
    go_wp2_with (go_at_call 91; refine (kind_any op _).mono ?_; rintro e w' ⟨rfl, rfl⟩; rw [HK.out])
    go_ret
    exact ⟨by rw [HP.out]; rfl, rfl⟩

/-- Does a word go on? Does it jump? -/
def plainW (x : Nat) : Bool := plainI ((decN x).op : Int)
def jumpsW (x : Nat) : Bool := kindI ((decN x).op : Int) == 2
theorem field43 (a b c d e f : Int) (w : World) : (Instr.field 43 (.agg #[.int .i64 a, .int .i64 b, .int .i64 c, .int .i64 d, .int .i64 e, .int .u32 f]) 0).run Try.prog w = .ok (.int .i64 a) w := by kernel_rfl
theorem plainw_any (x : Nat) (w : World) (hx : x < 4294967296) : Calls Try.prog 42 #[.int .u32 (x : Int)] w fun e w' => e = .returned (.bool (plainW x)) ∧ Below w.heap.size w w' := by
  have hfd := field43
  go_enter Try.func42, Try.ntmps42
  go_wp2_with (first
    | (go_at_call 90; refine (decode_any x _ hx).mono ?_; rintro e w1 ⟨rfl, hb1⟩; unfold insVals)
    | (go_at_call 46; refine (plain_any _ _).mono ?_; rintro e w' ⟨rfl, rfl⟩))
  go_ret
  exact ⟨rfl, hb1⟩
theorem jumpsw_any (x : Nat) (w : World) (hx : x < 4294967296) : Calls Try.prog 43 #[.int .u32 (x : Int)] w fun e w' => e = .returned (.bool (jumpsW x)) ∧ Below w.heap.size w w' := by
  have hfd := field43
  obtain ⟨v, hv⟩ : ∃ v, jumpsW x = v := ⟨_, rfl⟩
  have HV := Lib.hid hv
  have h2 : (((kindI ((decN x).op : Int) : Nat) : Int) == 2) = v := by
    rw [← hv]; unfold jumpsW
    rw [Bool.eq_iff_iff]; simp; omega
  clear hv
  go_enter Try.func43, Try.ntmps43
  go_wp2_with (first
    | (go_at_call 90; refine (decode_any x _ hx).mono ?_; rintro e w1 ⟨rfl, hb1⟩; unfold insVals)
    | (go_at_call 91; refine (kind_any _ _).mono ?_; rintro e w' ⟨rfl, rfl⟩))
  go_ret
  exact ⟨by rw [HV.out]; rfl, hb1⟩
end Go.Proofs.Ytjoaenfibkgplaa
