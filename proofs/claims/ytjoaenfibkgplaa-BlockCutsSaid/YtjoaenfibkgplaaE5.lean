import Derived.Test.YtjoaenfibkgplaaE4
namespace Go.Proofs.Ytjoaenfibkgplaa
set_option linter.unusedSimpArgs false
open Go.RowKit Go.Cq
set_option linter.unusedVariables false

/-- 'calqueref01.Field'. -/
theorem rfield_any (x a n : Nat) (w : World) (hx : x < 4294967296) (ha : a ≤ 31) (hn : n + a ≤ 32) (hn1 : 1 ≤ n) :
    Calls Try.prog 94 #[.int .u32 (x : Int), .int .i64 (a : Int), .int .i64 (n : Int)] w fun e w' => e = .returned (.int .u32 (fld x a n : Nat)) ∧ Below w.heap.size w w' := by
  have hp : (0 : Int) < n := by omega
  by_cases h0 : a = 0
  · subst h0
    have h := fld_eq x 0 n hx (by omega)
    have H := Lib.hid h
    clear h
    go_enter Try.func94, Try.ntmps94
    go_wp2
    go_ret
    refine ⟨ret_u32 ?_, Below.refl _ _⟩
    rw [← H.out]; simp
  · have hp2 : (0 : Int) < a := by omega
    have H := Lib.hid (fld_eq x a n hx (by omega))
    go_enter Try.func94, Try.ntmps94
    go_wp2
    go_ret
    exact ⟨ret_u32 H.out, Below.refl _ _⟩
/-- 'calqueref01.Sext', of 16 bits. -/
theorem rsext_any (v : Nat) (w : World) (hv : v < 4294967296) :
    Calls Try.prog 95 #[.int .u32 (v : Int), .int .i64 16] w fun e w' => e = .returned (.int .u32 (sx (v % 65536) : Nat)) ∧ w = w' := by
  go_enter Try.func95, Try.ntmps95
  go_wp2
  go_ret
  refine ⟨ret_u32 ?_, rfl⟩
  unfold wrap32 sx
  split <;> omega
end Go.Proofs.Ytjoaenfibkgplaa
