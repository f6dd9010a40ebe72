import Derived.Test.YtjoaenfibkgplaaZE
namespace Go.Proofs.Ytjoaenfibkgplaa
set_option linter.unusedSimpArgs false
open Go.RowKit Go.Cq
set_option linter.unusedVariables false
theorem Try.info90 : (Try.prog.info? 90).map (·.size) = some 5 := by kernel_rfl

def refVals (op form o f : Nat) (nm : ByteArray) : Array Value := #[.int .i64 (op : Int), .int .u8 (form : Int), .int .i64 (o : Int), .int .i64 (f : Int), .string nm]
theorem i64_and31 : ∀ s, s < 32 → bits .and .i64 ((s : Nat) : Int) 31 = (s : Int) := by decide
theorem u32_mask10 (x : Nat) (hx : x < 4294967296) : bits .and .u32 (x : Int) 1023 = ((x % 1024 : Nat) : Int) := by
  rw [show (1023 : Int) = ((1023 : Nat) : Int) from rfl, u32_and_nat _ _ hx (by omega), Nat.and_two_pow_sub_one_eq_mod x 10]
theorem u32_mask20 (x : Nat) (hx : x < 4294967296) : bits .and .u32 (x : Int) 1048575 = ((x % 1048576 : Nat) : Int) := by
  rw [show (1048575 : Int) = ((1048575 : Nat) : Int) from rfl, u32_and_nat _ _ hx (by omega), Nat.and_two_pow_sub_one_eq_mod x 20]
theorem u32_mask16 (x : Nat) (hx : x < 4294967296) : bits .and .u32 (x : Int) 65535 = ((x % 65536 : Nat) : Int) := by
  rw [show (65535 : Int) = ((65535 : Nat) : Int) from rfl, u32_and_nat _ _ hx (by omega), Nat.and_two_pow_sub_one_eq_mod x 16]
theorem u32_mask16b (x : Nat) (hx : x < 4294967296) : bits .and .u32 ((x : Int) / 4) 65535 = ((x / 4 % 65536 : Nat) : Int) := by
  rw [show (x : Int) / 4 = ((x / 4 : Nat) : Int) by omega]; exact u32_mask16 _ (by omega)
theorem u32_mask26b (x : Nat) (hx : x < 4294967296) : bits .and .u32 ((x : Int) / 4) 67108863 = ((x / 4 % 67108864 : Nat) : Int) := by
  rw [show (x : Int) / 4 = ((x / 4 : Nat) : Int) by omega, show (67108863 : Int) = ((67108863 : Nat) : Int) from rfl, u32_and_nat _ _ (by omega) (by omega), Nat.and_two_pow_sub_one_eq_mod _ 26]
/-- A word of a row of the document's table. -/
def refWord (form o f s t d a imm : Nat) : Nat :=
  if form = 84 then o * 67108864 + s * 2097152 + t * 65536 + imm % 1024 * 64 + f
  else if form = 67 then o * 67108864 + imm % 1048576 * 64 + f
  else if form = 73 ∨ form = 85 ∨ form = 86 ∨ form = 80 then o * 67108864 + s * 2097152 + t * 65536 + imm % 65536
  else if form = 66 ∨ form = 90 then o * 67108864 + s * 2097152 + t * 65536 + imm / 4 % 65536
  else if form = 82 then o * 67108864 + s * 2097152 + f * 65536 + imm / 4 % 65536
  else if form = 74 then o * 67108864 + imm / 4 % 67108864
  else o * 67108864 + s * 2097152 + t * 65536 + d * 2048 + a * 64 + f
set_option maxRecDepth 4000 in
theorem word_84 (op o f s t d a imm iop : Nat) (nm : ByteArray) (w : World) (ho : o < 64) (hf : f < 64) (hs : s < 32) (ht : t < 32) (hd : d < 32) (ha : a < 32) (hi : imm < 4294967296) :
    Calls Try.prog 93 #[.agg #[.int .i64 (op : Int), .int .u8 84, .int .i64 (o : Int), .int .i64 (f : Int), .string nm], .agg #[.int .i64 (iop : Int), .int .i64 (s : Int), .int .i64 (t : Int), .int .i64 (d : Int), .int .i64 (a : Int), .int .u32 (imm : Int)]] w fun e w' => e = .returned (.int .u32 ((refWord 84 o f s t d a imm : Nat) : Int)) ∧ Below w.heap.size w w' := by
  go_enter Try.func93, Try.ntmps93
  go_wp2_with fail
  go_quiet (fail)
  go_wp2
  go_ret
  refine ⟨ret_u32 ?_, below_drewN (((Below.refl _ _).alloc (Nat.le_refl _) _).alloc (by simp) _) _⟩
  simp only [i64_and31 _ hs, i64_and31 _ ht, i64_and31 _ hd, i64_and31 _ ha, u32_mask10 _ hi, u32_mask20 _ hi, u32_mask16 _ hi, u32_mask16b _ hi, u32_mask26b _ hi]
  rw [show refWord 84 o f s t d a imm = o * 67108864 + s * 2097152 + t * 65536 + imm % 1024 * 64 + f from rfl]
  omega
set_option maxRecDepth 4000 in
theorem word_67 (op o f s t d a imm iop : Nat) (nm : ByteArray) (w : World) (ho : o < 64) (hf : f < 64) (hs : s < 32) (ht : t < 32) (hd : d < 32) (ha : a < 32) (hi : imm < 4294967296) :
    Calls Try.prog 93 #[.agg #[.int .i64 (op : Int), .int .u8 67, .int .i64 (o : Int), .int .i64 (f : Int), .string nm], .agg #[.int .i64 (iop : Int), .int .i64 (s : Int), .int .i64 (t : Int), .int .i64 (d : Int), .int .i64 (a : Int), .int .u32 (imm : Int)]] w fun e w' => e = .returned (.int .u32 ((refWord 67 o f s t d a imm : Nat) : Int)) ∧ Below w.heap.size w w' := by
  go_enter Try.func93, Try.ntmps93
  go_wp2_with fail
  go_quiet (fail)
  go_wp2
  go_ret
  refine ⟨ret_u32 ?_, below_drewN (((Below.refl _ _).alloc (Nat.le_refl _) _).alloc (by simp) _) _⟩
  simp only [i64_and31 _ hs, i64_and31 _ ht, i64_and31 _ hd, i64_and31 _ ha, u32_mask10 _ hi, u32_mask20 _ hi, u32_mask16 _ hi, u32_mask16b _ hi, u32_mask26b _ hi]
  rw [show refWord 67 o f s t d a imm = o * 67108864 + imm % 1048576 * 64 + f from rfl]
  omega
set_option maxRecDepth 4000 in
theorem word_73 (op o f s t d a imm iop : Nat) (nm : ByteArray) (w : World) (ho : o < 64) (hf : f < 64) (hs : s < 32) (ht : t < 32) (hd : d < 32) (ha : a < 32) (hi : imm < 4294967296) :
    Calls Try.prog 93 #[.agg #[.int .i64 (op : Int), .int .u8 73, .int .i64 (o : Int), .int .i64 (f : Int), .string nm], .agg #[.int .i64 (iop : Int), .int .i64 (s : Int), .int .i64 (t : Int), .int .i64 (d : Int), .int .i64 (a : Int), .int .u32 (imm : Int)]] w fun e w' => e = .returned (.int .u32 ((refWord 73 o f s t d a imm : Nat) : Int)) ∧ Below w.heap.size w w' := by
  go_enter Try.func93, Try.ntmps93
  go_wp2_with fail
  go_quiet (fail)
  go_wp2
  go_ret
  refine ⟨ret_u32 ?_, below_drewN (((Below.refl _ _).alloc (Nat.le_refl _) _).alloc (by simp) _) _⟩
  simp only [i64_and31 _ hs, i64_and31 _ ht, i64_and31 _ hd, i64_and31 _ ha, u32_mask10 _ hi, u32_mask20 _ hi, u32_mask16 _ hi, u32_mask16b _ hi, u32_mask26b _ hi]
  rw [show refWord 73 o f s t d a imm = o * 67108864 + s * 2097152 + t * 65536 + imm % 65536 from rfl]
  omega
set_option maxRecDepth 4000 in
theorem word_85 (op o f s t d a imm iop : Nat) (nm : ByteArray) (w : World) (ho : o < 64) (hf : f < 64) (hs : s < 32) (ht : t < 32) (hd : d < 32) (ha : a < 32) (hi : imm < 4294967296) :
    Calls Try.prog 93 #[.agg #[.int .i64 (op : Int), .int .u8 85, .int .i64 (o : Int), .int .i64 (f : Int), .string nm], .agg #[.int .i64 (iop : Int), .int .i64 (s : Int), .int .i64 (t : Int), .int .i64 (d : Int), .int .i64 (a : Int), .int .u32 (imm : Int)]] w fun e w' => e = .returned (.int .u32 ((refWord 85 o f s t d a imm : Nat) : Int)) ∧ Below w.heap.size w w' := by
  go_enter Try.func93, Try.ntmps93
  go_wp2_with fail
  go_quiet (fail)
  go_wp2
  go_ret
  refine ⟨ret_u32 ?_, below_drewN (((Below.refl _ _).alloc (Nat.le_refl _) _).alloc (by simp) _) _⟩
  simp only [i64_and31 _ hs, i64_and31 _ ht, i64_and31 _ hd, i64_and31 _ ha, u32_mask10 _ hi, u32_mask20 _ hi, u32_mask16 _ hi, u32_mask16b _ hi, u32_mask26b _ hi]
  rw [show refWord 85 o f s t d a imm = o * 67108864 + s * 2097152 + t * 65536 + imm % 65536 from rfl]
  omega
set_option maxRecDepth 4000 in
theorem word_86 (op o f s t d a imm iop : Nat) (nm : ByteArray) (w : World) (ho : o < 64) (hf : f < 64) (hs : s < 32) (ht : t < 32) (hd : d < 32) (ha : a < 32) (hi : imm < 4294967296) :
    Calls Try.prog 93 #[.agg #[.int .i64 (op : Int), .int .u8 86, .int .i64 (o : Int), .int .i64 (f : Int), .string nm], .agg #[.int .i64 (iop : Int), .int .i64 (s : Int), .int .i64 (t : Int), .int .i64 (d : Int), .int .i64 (a : Int), .int .u32 (imm : Int)]] w fun e w' => e = .returned (.int .u32 ((refWord 86 o f s t d a imm : Nat) : Int)) ∧ Below w.heap.size w w' := by
  go_enter Try.func93, Try.ntmps93
  go_wp2_with fail
  go_quiet (fail)
  go_wp2
  go_ret
  refine ⟨ret_u32 ?_, below_drewN (((Below.refl _ _).alloc (Nat.le_refl _) _).alloc (by simp) _) _⟩
  simp only [i64_and31 _ hs, i64_and31 _ ht, i64_and31 _ hd, i64_and31 _ ha, u32_mask10 _ hi, u32_mask20 _ hi, u32_mask16 _ hi, u32_mask16b _ hi, u32_mask26b _ hi]
  rw [show refWord 86 o f s t d a imm = o * 67108864 + s * 2097152 + t * 65536 + imm % 65536 from rfl]
  omega
set_option maxRecDepth 4000 in
theorem word_80 (op o f s t d a imm iop : Nat) (nm : ByteArray) (w : World) (ho : o < 64) (hf : f < 64) (hs : s < 32) (ht : t < 32) (hd : d < 32) (ha : a < 32) (hi : imm < 4294967296) :
    Calls Try.prog 93 #[.agg #[.int .i64 (op : Int), .int .u8 80, .int .i64 (o : Int), .int .i64 (f : Int), .string nm], .agg #[.int .i64 (iop : Int), .int .i64 (s : Int), .int .i64 (t : Int), .int .i64 (d : Int), .int .i64 (a : Int), .int .u32 (imm : Int)]] w fun e w' => e = .returned (.int .u32 ((refWord 80 o f s t d a imm : Nat) : Int)) ∧ Below w.heap.size w w' := by
  go_enter Try.func93, Try.ntmps93
  go_wp2_with fail
  go_quiet (fail)
  go_wp2
  go_ret
  refine ⟨ret_u32 ?_, below_drewN (((Below.refl _ _).alloc (Nat.le_refl _) _).alloc (by simp) _) _⟩
  simp only [i64_and31 _ hs, i64_and31 _ ht, i64_and31 _ hd, i64_and31 _ ha, u32_mask10 _ hi, u32_mask20 _ hi, u32_mask16 _ hi, u32_mask16b _ hi, u32_mask26b _ hi]
  rw [show refWord 80 o f s t d a imm = o * 67108864 + s * 2097152 + t * 65536 + imm % 65536 from rfl]
  omega
set_option maxRecDepth 4000 in
theorem word_66 (op o f s t d a imm iop : Nat) (nm : ByteArray) (w : World) (ho : o < 64) (hf : f < 64) (hs : s < 32) (ht : t < 32) (hd : d < 32) (ha : a < 32) (hi : imm < 4294967296) :
    Calls Try.prog 93 #[.agg #[.int .i64 (op : Int), .int .u8 66, .int .i64 (o : Int), .int .i64 (f : Int), .string nm], .agg #[.int .i64 (iop : Int), .int .i64 (s : Int), .int .i64 (t : Int), .int .i64 (d : Int), .int .i64 (a : Int), .int .u32 (imm : Int)]] w fun e w' => e = .returned (.int .u32 ((refWord 66 o f s t d a imm : Nat) : Int)) ∧ Below w.heap.size w w' := by
  go_enter Try.func93, Try.ntmps93
  go_wp2_with fail
  go_quiet (fail)
  go_wp2
  go_ret
  refine ⟨ret_u32 ?_, below_drewN (((Below.refl _ _).alloc (Nat.le_refl _) _).alloc (by simp) _) _⟩
  simp only [i64_and31 _ hs, i64_and31 _ ht, i64_and31 _ hd, i64_and31 _ ha, u32_mask10 _ hi, u32_mask20 _ hi, u32_mask16 _ hi, u32_mask16b _ hi, u32_mask26b _ hi]
  rw [show refWord 66 o f s t d a imm = o * 67108864 + s * 2097152 + t * 65536 + imm / 4 % 65536 from rfl]
  omega
set_option maxRecDepth 4000 in
theorem word_90 (op o f s t d a imm iop : Nat) (nm : ByteArray) (w : World) (ho : o < 64) (hf : f < 64) (hs : s < 32) (ht : t < 32) (hd : d < 32) (ha : a < 32) (hi : imm < 4294967296) :
    Calls Try.prog 93 #[.agg #[.int .i64 (op : Int), .int .u8 90, .int .i64 (o : Int), .int .i64 (f : Int), .string nm], .agg #[.int .i64 (iop : Int), .int .i64 (s : Int), .int .i64 (t : Int), .int .i64 (d : Int), .int .i64 (a : Int), .int .u32 (imm : Int)]] w fun e w' => e = .returned (.int .u32 ((refWord 90 o f s t d a imm : Nat) : Int)) ∧ Below w.heap.size w w' := by
  go_enter Try.func93, Try.ntmps93
  go_wp2_with fail
  go_quiet (fail)
  go_wp2
  go_ret
  refine ⟨ret_u32 ?_, below_drewN (((Below.refl _ _).alloc (Nat.le_refl _) _).alloc (by simp) _) _⟩
  simp only [i64_and31 _ hs, i64_and31 _ ht, i64_and31 _ hd, i64_and31 _ ha, u32_mask10 _ hi, u32_mask20 _ hi, u32_mask16 _ hi, u32_mask16b _ hi, u32_mask26b _ hi]
  rw [show refWord 90 o f s t d a imm = o * 67108864 + s * 2097152 + t * 65536 + imm / 4 % 65536 from rfl]
  omega
set_option maxRecDepth 4000 in
theorem word_82 (op o f s t d a imm iop : Nat) (nm : ByteArray) (w : World) (ho : o < 64) (hf : f < 32) (hs : s < 32) (ht : t < 32) (hd : d < 32) (ha : a < 32) (hi : imm < 4294967296) :
    Calls Try.prog 93 #[.agg #[.int .i64 (op : Int), .int .u8 82, .int .i64 (o : Int), .int .i64 (f : Int), .string nm], .agg #[.int .i64 (iop : Int), .int .i64 (s : Int), .int .i64 (t : Int), .int .i64 (d : Int), .int .i64 (a : Int), .int .u32 (imm : Int)]] w fun e w' => e = .returned (.int .u32 ((refWord 82 o f s t d a imm : Nat) : Int)) ∧ Below w.heap.size w w' := by
  go_enter Try.func93, Try.ntmps93
  go_wp2_with fail
  go_quiet (fail)
  go_wp2
  go_ret
  refine ⟨ret_u32 ?_, below_drewN (((Below.refl _ _).alloc (Nat.le_refl _) _).alloc (by simp) _) _⟩
  simp only [i64_and31 _ hs, i64_and31 _ ht, i64_and31 _ hd, i64_and31 _ ha, u32_mask10 _ hi, u32_mask20 _ hi, u32_mask16 _ hi, u32_mask16b _ hi, u32_mask26b _ hi]
  rw [show refWord 82 o f s t d a imm = o * 67108864 + s * 2097152 + f * 65536 + imm / 4 % 65536 from rfl]
  omega
set_option maxRecDepth 4000 in
theorem word_74 (op o f s t d a imm iop : Nat) (nm : ByteArray) (w : World) (ho : o < 64) (hf : f < 64) (hs : s < 32) (ht : t < 32) (hd : d < 32) (ha : a < 32) (hi : imm < 4294967296) :
    Calls Try.prog 93 #[.agg #[.int .i64 (op : Int), .int .u8 74, .int .i64 (o : Int), .int .i64 (f : Int), .string nm], .agg #[.int .i64 (iop : Int), .int .i64 (s : Int), .int .i64 (t : Int), .int .i64 (d : Int), .int .i64 (a : Int), .int .u32 (imm : Int)]] w fun e w' => e = .returned (.int .u32 ((refWord 74 o f s t d a imm : Nat) : Int)) ∧ Below w.heap.size w w' := by
  go_enter Try.func93, Try.ntmps93
  go_wp2_with fail
  go_quiet (fail)
  go_wp2
  go_ret
  refine ⟨ret_u32 ?_, below_drewN (((Below.refl _ _).alloc (Nat.le_refl _) _).alloc (by simp) _) _⟩
  simp only [i64_and31 _ hs, i64_and31 _ ht, i64_and31 _ hd, i64_and31 _ ha, u32_mask10 _ hi, u32_mask20 _ hi, u32_mask16 _ hi, u32_mask16b _ hi, u32_mask26b _ hi]
  rw [show refWord 74 o f s t d a imm = o * 67108864 + imm / 4 % 67108864 from rfl]
  omega
set_option maxRecDepth 4000 in
theorem word_68 (op o f s t d a imm iop : Nat) (nm : ByteArray) (w : World) (ho : o < 64) (hf : f < 64) (hs : s < 32) (ht : t < 32) (hd : d < 32) (ha : a < 32) (hi : imm < 4294967296) :
    Calls Try.prog 93 #[.agg #[.int .i64 (op : Int), .int .u8 68, .int .i64 (o : Int), .int .i64 (f : Int), .string nm], .agg #[.int .i64 (iop : Int), .int .i64 (s : Int), .int .i64 (t : Int), .int .i64 (d : Int), .int .i64 (a : Int), .int .u32 (imm : Int)]] w fun e w' => e = .returned (.int .u32 ((refWord 68 o f s t d a imm : Nat) : Int)) ∧ Below w.heap.size w w' := by
  go_enter Try.func93, Try.ntmps93
  go_wp2_with fail
  go_quiet (fail)
  go_wp2
  go_ret
  refine ⟨ret_u32 ?_, below_drewN (((Below.refl _ _).alloc (Nat.le_refl _) _).alloc (by simp) _) _⟩
  simp only [i64_and31 _ hs, i64_and31 _ ht, i64_and31 _ hd, i64_and31 _ ha, u32_mask10 _ hi, u32_mask20 _ hi, u32_mask16 _ hi, u32_mask16b _ hi, u32_mask26b _ hi]
  rw [show refWord 68 o f s t d a imm = o * 67108864 + s * 2097152 + t * 65536 + d * 2048 + a * 64 + f from rfl]
  omega
set_option maxRecDepth 4000 in
theorem word_72 (op o f s t d a imm iop : Nat) (nm : ByteArray) (w : World) (ho : o < 64) (hf : f < 64) (hs : s < 32) (ht : t < 32) (hd : d < 32) (ha : a < 32) (hi : imm < 4294967296) :
    Calls Try.prog 93 #[.agg #[.int .i64 (op : Int), .int .u8 72, .int .i64 (o : Int), .int .i64 (f : Int), .string nm], .agg #[.int .i64 (iop : Int), .int .i64 (s : Int), .int .i64 (t : Int), .int .i64 (d : Int), .int .i64 (a : Int), .int .u32 (imm : Int)]] w fun e w' => e = .returned (.int .u32 ((refWord 72 o f s t d a imm : Nat) : Int)) ∧ Below w.heap.size w w' := by
  go_enter Try.func93, Try.ntmps93
  go_wp2_with fail
  go_quiet (fail)
  go_wp2
  go_ret
  refine ⟨ret_u32 ?_, below_drewN (((Below.refl _ _).alloc (Nat.le_refl _) _).alloc (by simp) _) _⟩
  simp only [i64_and31 _ hs, i64_and31 _ ht, i64_and31 _ hd, i64_and31 _ ha, u32_mask10 _ hi, u32_mask20 _ hi, u32_mask16 _ hi, u32_mask16b _ hi, u32_mask26b _ hi]
  rw [show refWord 72 o f s t d a imm = o * 67108864 + s * 2097152 + t * 65536 + d * 2048 + a * 64 + f from rfl]
  omega
set_option maxRecDepth 4000 in
theorem word_77 (op o f s t d a imm iop : Nat) (nm : ByteArray) (w : World) (ho : o < 64) (hf : f < 64) (hs : s < 32) (ht : t < 32) (hd : d < 32) (ha : a < 32) (hi : imm < 4294967296) :
    Calls Try.prog 93 #[.agg #[.int .i64 (op : Int), .int .u8 77, .int .i64 (o : Int), .int .i64 (f : Int), .string nm], .agg #[.int .i64 (iop : Int), .int .i64 (s : Int), .int .i64 (t : Int), .int .i64 (d : Int), .int .i64 (a : Int), .int .u32 (imm : Int)]] w fun e w' => e = .returned (.int .u32 ((refWord 77 o f s t d a imm : Nat) : Int)) ∧ Below w.heap.size w w' := by
  go_enter Try.func93, Try.ntmps93
  go_wp2_with fail
  go_quiet (fail)
  go_wp2
  go_ret
  refine ⟨ret_u32 ?_, below_drewN (((Below.refl _ _).alloc (Nat.le_refl _) _).alloc (by simp) _) _⟩
  simp only [i64_and31 _ hs, i64_and31 _ ht, i64_and31 _ hd, i64_and31 _ ha, u32_mask10 _ hi, u32_mask20 _ hi, u32_mask16 _ hi, u32_mask16b _ hi, u32_mask26b _ hi]
  rw [show refWord 77 o f s t d a imm = o * 67108864 + s * 2097152 + t * 65536 + d * 2048 + a * 64 + f from rfl]
  omega
set_option maxRecDepth 4000 in
theorem word_70 (op o f s t d a imm iop : Nat) (nm : ByteArray) (w : World) (ho : o < 64) (hf : f < 64) (hs : s < 32) (ht : t < 32) (hd : d < 32) (ha : a < 32) (hi : imm < 4294967296) :
    Calls Try.prog 93 #[.agg #[.int .i64 (op : Int), .int .u8 70, .int .i64 (o : Int), .int .i64 (f : Int), .string nm], .agg #[.int .i64 (iop : Int), .int .i64 (s : Int), .int .i64 (t : Int), .int .i64 (d : Int), .int .i64 (a : Int), .int .u32 (imm : Int)]] w fun e w' => e = .returned (.int .u32 ((refWord 70 o f s t d a imm : Nat) : Int)) ∧ Below w.heap.size w w' := by
  go_enter Try.func93, Try.ntmps93
  go_wp2_with fail
  go_quiet (fail)
  go_wp2
  go_ret
  refine ⟨ret_u32 ?_, below_drewN (((Below.refl _ _).alloc (Nat.le_refl _) _).alloc (by simp) _) _⟩
  simp only [i64_and31 _ hs, i64_and31 _ ht, i64_and31 _ hd, i64_and31 _ ha, u32_mask10 _ hi, u32_mask20 _ hi, u32_mask16 _ hi, u32_mask16b _ hi, u32_mask26b _ hi]
  rw [show refWord 70 o f s t d a imm = o * 67108864 + s * 2097152 + t * 65536 + d * 2048 + a * 64 + f from rfl]
  omega
set_option maxRecDepth 4000 in
theorem word_76 (op o f s t d a imm iop : Nat) (nm : ByteArray) (w : World) (ho : o < 64) (hf : f < 64) (hs : s < 32) (ht : t < 32) (hd : d < 32) (ha : a < 32) (hi : imm < 4294967296) :
    Calls Try.prog 93 #[.agg #[.int .i64 (op : Int), .int .u8 76, .int .i64 (o : Int), .int .i64 (f : Int), .string nm], .agg #[.int .i64 (iop : Int), .int .i64 (s : Int), .int .i64 (t : Int), .int .i64 (d : Int), .int .i64 (a : Int), .int .u32 (imm : Int)]] w fun e w' => e = .returned (.int .u32 ((refWord 76 o f s t d a imm : Nat) : Int)) ∧ Below w.heap.size w w' := by
  go_enter Try.func93, Try.ntmps93
  go_wp2_with fail
  go_quiet (fail)
  go_wp2
  go_ret
  refine ⟨ret_u32 ?_, below_drewN (((Below.refl _ _).alloc (Nat.le_refl _) _).alloc (by simp) _) _⟩
  simp only [i64_and31 _ hs, i64_and31 _ ht, i64_and31 _ hd, i64_and31 _ ha, u32_mask10 _ hi, u32_mask20 _ hi, u32_mask16 _ hi, u32_mask16b _ hi, u32_mask26b _ hi]
  rw [show refWord 76 o f s t d a imm = o * 67108864 + s * 2097152 + t * 65536 + d * 2048 + a * 64 + f from rfl]
  omega
set_option maxRecDepth 4000 in
theorem word_71 (op o f s t d a imm iop : Nat) (nm : ByteArray) (w : World) (ho : o < 64) (hf : f < 64) (hs : s < 32) (ht : t < 32) (hd : d < 32) (ha : a < 32) (hi : imm < 4294967296) :
    Calls Try.prog 93 #[.agg #[.int .i64 (op : Int), .int .u8 71, .int .i64 (o : Int), .int .i64 (f : Int), .string nm], .agg #[.int .i64 (iop : Int), .int .i64 (s : Int), .int .i64 (t : Int), .int .i64 (d : Int), .int .i64 (a : Int), .int .u32 (imm : Int)]] w fun e w' => e = .returned (.int .u32 ((refWord 71 o f s t d a imm : Nat) : Int)) ∧ Below w.heap.size w w' := by
  go_enter Try.func93, Try.ntmps93
  go_wp2_with fail
  go_quiet (fail)
  go_wp2
  go_ret
  refine ⟨ret_u32 ?_, below_drewN (((Below.refl _ _).alloc (Nat.le_refl _) _).alloc (by simp) _) _⟩
  simp only [i64_and31 _ hs, i64_and31 _ ht, i64_and31 _ hd, i64_and31 _ ha, u32_mask10 _ hi, u32_mask20 _ hi, u32_mask16 _ hi, u32_mask16b _ hi, u32_mask26b _ hi]
  rw [show refWord 71 o f s t d a imm = o * 67108864 + s * 2097152 + t * 65536 + d * 2048 + a * 64 + f from rfl]
  omega
set_option maxRecDepth 4000 in
theorem word_88 (op o f s t d a imm iop : Nat) (nm : ByteArray) (w : World) (ho : o < 64) (hf : f < 64) (hs : s < 32) (ht : t < 32) (hd : d < 32) (ha : a < 32) (hi : imm < 4294967296) :
    Calls Try.prog 93 #[.agg #[.int .i64 (op : Int), .int .u8 88, .int .i64 (o : Int), .int .i64 (f : Int), .string nm], .agg #[.int .i64 (iop : Int), .int .i64 (s : Int), .int .i64 (t : Int), .int .i64 (d : Int), .int .i64 (a : Int), .int .u32 (imm : Int)]] w fun e w' => e = .returned (.int .u32 ((refWord 88 o f s t d a imm : Nat) : Int)) ∧ Below w.heap.size w w' := by
  go_enter Try.func93, Try.ntmps93
  go_wp2_with fail
  go_quiet (fail)
  go_wp2
  go_ret
  refine ⟨ret_u32 ?_, below_drewN (((Below.refl _ _).alloc (Nat.le_refl _) _).alloc (by simp) _) _⟩
  simp only [i64_and31 _ hs, i64_and31 _ ht, i64_and31 _ hd, i64_and31 _ ha, u32_mask10 _ hi, u32_mask20 _ hi, u32_mask16 _ hi, u32_mask16b _ hi, u32_mask26b _ hi]
  rw [show refWord 88 o f s t d a imm = o * 67108864 + s * 2097152 + t * 65536 + d * 2048 + a * 64 + f from rfl]
  omega
set_option maxRecDepth 4000 in
theorem word_89 (op o f s t d a imm iop : Nat) (nm : ByteArray) (w : World) (ho : o < 64) (hf : f < 64) (hs : s < 32) (ht : t < 32) (hd : d < 32) (ha : a < 32) (hi : imm < 4294967296) :
    Calls Try.prog 93 #[.agg #[.int .i64 (op : Int), .int .u8 89, .int .i64 (o : Int), .int .i64 (f : Int), .string nm], .agg #[.int .i64 (iop : Int), .int .i64 (s : Int), .int .i64 (t : Int), .int .i64 (d : Int), .int .i64 (a : Int), .int .u32 (imm : Int)]] w fun e w' => e = .returned (.int .u32 ((refWord 89 o f s t d a imm : Nat) : Int)) ∧ Below w.heap.size w w' := by
  go_enter Try.func93, Try.ntmps93
  go_wp2_with fail
  go_quiet (fail)
  go_wp2
  go_ret
  refine ⟨ret_u32 ?_, below_drewN (((Below.refl _ _).alloc (Nat.le_refl _) _).alloc (by simp) _) _⟩
  simp only [i64_and31 _ hs, i64_and31 _ ht, i64_and31 _ hd, i64_and31 _ ha, u32_mask10 _ hi, u32_mask20 _ hi, u32_mask16 _ hi, u32_mask16b _ hi, u32_mask26b _ hi]
  rw [show refWord 89 o f s t d a imm = o * 67108864 + s * 2097152 + t * 65536 + d * 2048 + a * 64 + f from rfl]
  omega
end Go.Proofs.Ytjoaenfibkgplaa
