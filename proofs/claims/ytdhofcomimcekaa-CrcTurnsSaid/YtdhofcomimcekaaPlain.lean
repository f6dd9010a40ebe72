/- The sum of bytes as plain numbers: one bit at a time, four bits at a time, bytes behind bytes, and that bits turned within 32 in a row turn the sum. No program in sight. -/
namespace CrcM

def poly : Nat := 0xedb88320
def mask : Nat := 0xffffffff
/-- One bit. -/
def step (n : Nat) : Nat := (n / 2) ^^^ (if n % 2 = 1 then poly else 0)
def steps : Nat → Nat → Nat
  | 0, n => n
  | k + 1, n => steps k (step n)
/-- One byte. -/
def byte (s x : Nat) : Nat := steps 8 (s ^^^ x)
def run (s : Nat) (l : List Nat) : Nat := l.foldl byte s
def more (s : Nat) (l : List Nat) : Nat := run (s ^^^ mask) l ^^^ mask

theorem steps_add (a b n : Nat) : steps (a + b) n = steps b (steps a n) := by
  induction a generalizing n with
  | zero => simp [steps]
  | succ a ih => rw [Nat.add_right_comm]; simp only [steps]; exact ih _

theorem div2_xor (a b : Nat) : (a ^^^ b) / 2 = (a / 2) ^^^ (b / 2) := by
  have := Nat.shiftRight_xor_distrib (a := a) (b := b) (i := 1)
  simpa [Nat.shiftRight_succ] using this

theorem mod2_xor (a b : Nat) : (a ^^^ b) % 2 = (a % 2 + b % 2) % 2 := by
  have h : ∀ n : Nat, n % 2 = (n.testBit 0).toNat := by
    intro n; simp [Nat.testBit_zero]; rcases Nat.mod_two_eq_zero_or_one n with h | h <;> simp [h]
  rw [h (a ^^^ b), h a, h b, Nat.testBit_xor]
  cases a.testBit 0 <;> cases b.testBit 0 <;> rfl

theorem step_xor (a b : Nat) : step (a ^^^ b) = step a ^^^ step b := by
  unfold step
  rw [div2_xor, mod2_xor]
  rcases Nat.mod_two_eq_zero_or_one a with ha | ha <;> rcases Nat.mod_two_eq_zero_or_one b with hb | hb <;> simp [ha, hb]
  · rw [Nat.xor_assoc]
  · rw [Nat.xor_assoc, Nat.xor_assoc, Nat.xor_comm (b / 2) poly]
  · rw [Nat.xor_assoc, ← Nat.xor_assoc poly, Nat.xor_comm poly (b / 2), Nat.xor_assoc (b / 2), Nat.xor_self, Nat.xor_zero]

theorem steps_xor (k a b : Nat) : steps k (a ^^^ b) = steps k a ^^^ steps k b := by
  induction k generalizing a b with
  | zero => rfl
  | succ k ih => simp only [steps]; rw [step_xor, ih]

theorem step_zero : step 0 = 0 := by simp [step]
theorem steps_zero (k : Nat) : steps k 0 = 0 := by
  induction k with
  | zero => rfl
  | succ k ih => simp only [steps]; rw [step_zero, ih]

/-- Bits that are not there shift nothing in. -/
theorem steps_shift (k n : Nat) : steps k (n * 2 ^ k) = n := by
  induction k generalizing n with
  | zero => simp [steps]
  | succ k ih =>
    simp only [steps]
    have h : n * 2 ^ (k + 1) = 2 * (n * 2 ^ k) := by rw [Nat.pow_succ]; rw [← Nat.mul_assoc, Nat.mul_comm]
    have : step (n * 2 ^ (k + 1)) = n * 2 ^ k := by
      rw [h]; unfold step
      rw [Nat.mul_mod_right, Nat.mul_div_cancel_left _ (by decide)]; simp
    rw [this, ih]

theorem split_low (k n : Nat) : n = (n / 2 ^ k * 2 ^ k) ^^^ (n % 2 ^ k) := by
  have h := Nat.div_add_mod n (2 ^ k)
  have h2 : n % 2 ^ k < 2 ^ k := Nat.mod_lt _ (Nat.two_pow_pos k)
  have h3 : 2 ^ k * (n / 2 ^ k) ^^^ (n % 2 ^ k) = 2 ^ k * (n / 2 ^ k) + n % 2 ^ k := by
    apply Nat.eq_of_testBit_eq
    intro i
    rw [Nat.testBit_xor, Nat.testBit_two_pow_mul_add _ h2, Nat.testBit_two_pow_mul]
    by_cases hi : i < k
    · simp [hi, Nat.not_le.2 hi]
    · have : (n % 2 ^ k).testBit i = false := Nat.testBit_lt_two_pow (Nat.lt_of_lt_of_le h2 (Nat.pow_le_pow_right (by decide) (by omega)))
      simp [hi, Nat.le_of_not_lt hi, this]
  rw [Nat.mul_comm (n / 2 ^ k), h3, h]

/-- Several bits at once: what is behind them, and the sum of them. -/
theorem steps_table (k n : Nat) : steps k n = (n / 2 ^ k) ^^^ steps k (n % 2 ^ k) := by
  conv => lhs; rw [split_low k n]
  rw [steps_xor, steps_shift]

theorem step_lt (n : Nat) (h : n < 2 ^ 32) : step n < 2 ^ 32 := by
  unfold step
  apply Nat.xor_lt_two_pow
  · omega
  · split <;> decide
theorem steps_lt (k n : Nat) (h : n < 2 ^ 32) : steps k n < 2 ^ 32 := by
  induction k generalizing n with
  | zero => exact h
  | succ k ih => exact ih _ (step_lt n h)

theorem step_ne (n : Nat) (h : n < 2 ^ 32) (h0 : n ≠ 0) : step n ≠ 0 := by
  intro e
  have e2 : n / 2 = if n % 2 = 1 then poly else 0 := by
    have h2 : (n / 2 ^^^ if n % 2 = 1 then poly else 0) ^^^ (if n % 2 = 1 then poly else 0) = 0 ^^^ (if n % 2 = 1 then poly else 0) := by
      unfold step at e; rw [e]
    rwa [Nat.xor_assoc, Nat.xor_self, Nat.xor_zero, Nat.zero_xor] at h2
  split at e2
  · unfold poly at e2; omega
  · omega
theorem steps_ne (k n : Nat) (h : n < 2 ^ 32) (h0 : n ≠ 0) : steps k n ≠ 0 := by
  induction k generalizing n with
  | zero => exact h0
  | succ k ih => exact ih _ (step_lt n h) (step_ne n h h0)

theorem byte_lt (s x : Nat) (h : s < 2 ^ 32) (hx : x < 256) : byte s x < 2 ^ 32 :=
  steps_lt 8 _ (Nat.xor_lt_two_pow h (by omega))
theorem run_lt (l : List Nat) (s : Nat) (h : s < 2 ^ 32) (hl : ∀ x ∈ l, x < 256) : run s l < 2 ^ 32 := by
  induction l generalizing s with
  | nil => exact h
  | cons x l ih => exact ih _ (byte_lt s x h (hl x (by simp))) (fun y hy => hl y (by simp [hy]))
theorem more_lt (l : List Nat) (s : Nat) (h : s < 2 ^ 32) (hl : ∀ x ∈ l, x < 256) : more s l < 2 ^ 32 :=
  Nat.xor_lt_two_pow (run_lt l _ (Nat.xor_lt_two_pow h (by decide)) hl) (by decide)

theorem run_append (s : Nat) (a b : List Nat) : run s (a ++ b) = run (run s a) b := by simp [run]
theorem xor_mask2 (n : Nat) : n ^^^ mask ^^^ mask = n := by rw [Nat.xor_assoc, Nat.xor_self, Nat.xor_zero]
theorem more_append (s : Nat) (a b : List Nat) : more (more s a) b = more s (a ++ b) := by
  unfold more; rw [xor_mask2, run_append]
theorem more_nil (s : Nat) : more s [] = s := xor_mask2 s

/-- Linear in both. -/
theorem byte_xor (s t x y : Nat) : byte (s ^^^ t) (x ^^^ y) = byte s x ^^^ byte t y := by
  unfold byte; rw [← steps_xor]; congr 1
  rw [Nat.xor_assoc, Nat.xor_assoc, ← Nat.xor_assoc t, Nat.xor_comm t x, Nat.xor_assoc x]

theorem run_xor (a b : List Nat) (h : a.length = b.length) (s t : Nat) : run s a ^^^ run t b = run (s ^^^ t) (List.zipWith (· ^^^ ·) a b) := by
  induction a generalizing b s t with
  | nil => cases b with
    | nil => rfl
    | cons => simp at h
  | cons x a ih => cases b with
    | nil => simp at h
    | cons y b =>
      have h' : a.length = b.length := by simpa using h
      show run (byte s x) a ^^^ run (byte t y) b = run (byte (s ^^^ t) (x ^^^ y)) (List.zipWith (· ^^^ ·) a b)
      rw [ih b h', byte_xor]

theorem run_zeros (n s : Nat) : run s (List.replicate n 0) = steps (8 * n) s := by
  induction n generalizing s with
  | zero => rfl
  | succ n ih =>
    show run (byte s 0) (List.replicate n 0) = _
    rw [ih, byte, Nat.xor_zero, ← steps_add]; congr 1; omega

/-- The bytes of a number, the lowest first. -/
def bytesOf : Nat → Nat → List Nat
  | 0, _ => []
  | k + 1, n => n % 256 :: bytesOf k (n / 256)

theorem run_bytesOf (k n s : Nat) : run s (bytesOf k n) = steps (8 * k) (s ^^^ n) ^^^ (n / 2 ^ (8 * k)) := by
  induction k generalizing n s with
  | zero =>
    show s = (s ^^^ n) ^^^ (n / 2 ^ 0)
    rw [Nat.pow_zero, Nat.div_one, Nat.xor_assoc, Nat.xor_self, Nat.xor_zero]
  | succ k ih =>
    show run (byte s (n % 256)) (bytesOf k (n / 256)) = _
    rw [ih]
    have e1 : s ^^^ n = (n / 2 ^ 8 * 2 ^ 8) ^^^ (s ^^^ n % 2 ^ 8) := by
      conv => lhs; rw [split_low 8 n]
      rw [← Nat.xor_assoc, Nat.xor_comm s, Nat.xor_assoc]
    have e2 : steps 8 (s ^^^ n) = byte s (n % 256) ^^^ (n / 256) := by
      rw [e1, steps_xor, steps_shift, Nat.xor_comm]; rfl
    have e3 : 8 * (k + 1) = 8 + 8 * k := by omega
    rw [e3, steps_add, e2, Nat.pow_add, ← Nat.div_div_eq_div_mul]

/-- Bits within 32 in a row, beginning at any bit of five bytes: what is left of them is never nothing. -/
theorem turned_ne (p q row r : Nat) (h : row < 2 ^ 32) (h0 : row ≠ 0) (hr : r < 8) :
    run 0 (List.replicate p 0 ++ bytesOf 5 (row * 2 ^ r) ++ List.replicate q 0) ≠ 0 := by
  rw [run_append, run_append, run_zeros, run_zeros, steps_zero, run_bytesOf, Nat.zero_xor]
  have hd : row * 2 ^ r / 2 ^ (8 * 5) = 0 := by
    apply Nat.div_eq_of_lt
    have : 2 ^ r ≤ 2 ^ 7 := Nat.pow_le_pow_right (by decide) (by omega)
    calc row * 2 ^ r ≤ row * 2 ^ 7 := Nat.mul_le_mul_left _ this
      _ < 2 ^ 32 * 2 ^ 7 := Nat.mul_lt_mul_of_pos_right h (by decide)
      _ ≤ 2 ^ (8 * 5) := by decide
  rw [hd, Nat.xor_zero]
  have e : 8 * 5 = r + (8 * 5 - r) := by omega
  rw [e, steps_add, steps_shift]
  exact steps_ne _ _ (steps_lt _ _ h) (steps_ne _ _ h h0)

end CrcM
