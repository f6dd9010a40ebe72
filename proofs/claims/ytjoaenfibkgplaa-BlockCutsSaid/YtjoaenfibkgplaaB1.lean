import Derived.Test.YtjoaenfibkgplaaT1
import Derived.Test.YtjoaenfibkgplaaKit2
import Derived.BigQuiet
import Derived.WalkSmall
import Derived.Deep.QuietTactic
import Derived.Deep.RegionWith
namespace Go.Proofs.Ytjoaenfibkgplaa
set_option linter.unusedSimpArgs false
open Go.RowKit Go.Cq
set_option linter.unusedVariables false

def fld (w a n : Nat) : Nat := w / 2 ^ a % 2 ^ n
theorem fld_lt (w a n : Nat) : fld w a n < 2 ^ n := Nat.mod_lt _ (Nat.two_pow_pos n)
theorem fld_eq (x a n : Nat) (hx : x < 4294967296) (hn : n ≤ 32) :
    bits .and .u64 ((x : Int) / 2 ^ a) (IntKind.u64.wrap (IntKind.u64.wrap (2 ^ n) - 1)) % 4294967296 = ((fld x a n : Nat) : Int) := by
  have h2 : 2 ^ n ≤ 2 ^ 32 := Nat.pow_le_pow_right (by decide) hn
  have h1 := Nat.two_pow_pos n
  have e1 : IntKind.u64.wrap (IntKind.u64.wrap (2 ^ n) - 1) = ((2 ^ n - 1 : Nat) : Int) := by
    have e0 : (2 : Int) ^ n = ((2 ^ n : Nat) : Int) := by simp
    rw [IntKind.wrap_u64, IntKind.wrap_u64, e0]
    generalize 2 ^ n = m at *
    omega
  have e2 : (x : Int) / 2 ^ a = ((x / 2 ^ a : Nat) : Int) := by simp
  have hd : x / 2 ^ a ≤ x := Nat.div_le_self _ _
  rw [e1, e2, u64_and_nat _ _ (by omega) (by omega), Nat.and_two_pow_sub_one_eq_mod]
  have := fld_lt x a n
  unfold fld at *
  omega
theorem ret_u32 {a b : Int} (h : a = b) : Ending.returned (.int .u32 a) = .returned (.int .u32 b) := by rw [h]

/-- 'bits.Field'. -/
theorem field_any (x a n : Nat) (w : World) (hx : x < 4294967296) (ha : a ≤ 31) (hn : n + a ≤ 32) (hn1 : 1 ≤ n) :
    Calls Try.prog 118 #[.int .u32 (x : Int), .int .i64 (a : Int), .int .i64 (n : Int)] w fun e w' => e = .returned (.int .u32 (fld x a n : Nat)) ∧ Below w.heap.size w w' := by
  have hp : (0 : Int) < n := by omega
  by_cases h0 : a = 0
  · subst h0
    have h := fld_eq x 0 n hx (by omega)
    have H := Lib.hid h
    clear h
    go_enter Try.func118, Try.ntmps118
    go_wp2
    go_quiet (fail)
    go_wp2
    go_ret
    refine ⟨ret_u32 ?_, below_drewN (Below.refl _ _) _⟩
    rw [← H.out]; simp
  · have hp2 : (0 : Int) < a := by omega
    have H := Lib.hid (fld_eq x a n hx (by omega))
    go_enter Try.func118, Try.ntmps118
    go_wp2
    go_quiet (fail)
    go_wp2
    go_ret
    exact ⟨ret_u32 H.out, below_drewN (Below.refl _ _) _⟩
end Go.Proofs.Ytjoaenfibkgplaa
