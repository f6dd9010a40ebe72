import Derived.Test.YtjoaenfibkgplaaE11
namespace Go.Proofs.Ytjoaenfibkgplaa
set_option linter.unusedSimpArgs false
open Go.RowKit Go.Cq
set_option linter.unusedVariables false
/-- 'calquelaw00.Word'. -/
theorem word18_any (op s t d a imm : Nat) (w : World) (h1 : 1 ≤ op ∧ op ≤ 69) (hs : s < 32) (ht : t < 32) (hd : d < 32) (ha : a < 32) (hi : imm < 4294967296) :
    Calls Try.prog 18 #[.int .i64 (op : Int), .int .i64 (s : Int), .int .i64 (t : Int), .int .i64 (d : Int), .int .i64 (a : Int), .int .u32 (imm : Int)] w fun e w' => e = .returned (.int .u32 (encN ⟨op, s, t, d, a, imm⟩ : Nat)) ∧ Below w.heap.size w w' := by
  go_enter Try.func18, Try.ntmps18
  go_wp2_with (go_at_call 47; refine (encode_any op s t d a imm _ h1 hs ht hd ha hi).mono ?_; rintro e w1 ⟨⟨b, rfl⟩, hb1⟩)
  go_ret
  exact ⟨rfl, hb1⟩
end Go.Proofs.Ytjoaenfibkgplaa
