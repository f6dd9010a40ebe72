/- An instruction that is encoded is decoded to its number. No walk. -/
import Derived.Test.YtjoaenfibkgplaaZP
namespace Go.Proofs.Ytjoaenfibkgplaa
set_option linter.unusedSimpArgs false
open Go.RowKit Go.Cq
set_option linter.unusedVariables false

/-- The number of a letter's form. -/
def formNo (c : Nat) : Nat :=
  if c = 68 then 0 else if c = 72 then 1 else if c = 77 then 2 else if c = 70 then 3 else if c = 76 then 4 else if c = 71 then 5 else if c = 84 then 6 else if c = 67 then 7 else if c = 88 then 8 else if c = 89 then 9
  else if c = 73 then 10 else if c = 85 then 11 else if c = 86 then 12 else if c = 80 then 13 else if c = 66 then 14 else if c = 90 then 15 else if c = 82 then 16 else 17
theorem row_twin : ∀ r ∈ refRows, (rowOf (r.2.2.1, r.2.2.2.1)).map (fun q => (q.1, q.2.1)) = some (r.1, formNo r.2.1) := by decide +kernel
theorem dec_op {r : RRow} (hr : r ∈ refRows) (x : Nat) (hk : keyN x = (r.2.2.1, r.2.2.2.1))
    (hz : (formOf (formNo r.2.1) r.1 (fld x 21 5) (fld x 16 5) (fld x 11 5) (fld x 6 5) (fld x 0 16) (sx (fld x 0 16)) (fld x 6 10) (fld x 6 20) (fld x 0 26)).2 = 0)
    (hp : (formOf (formNo r.2.1) r.1 (fld x 21 5) (fld x 16 5) (fld x 11 5) (fld x 6 5) (fld x 0 16) (sx (fld x 0 16)) (fld x 6 10) (fld x 6 20) (fld x 0 26)).1.op = r.1) : (decN x).op = r.1 := by
  have h := row_twin r hr
  cases hq : rowOf (r.2.2.1, r.2.2.2.1) with
  | none => rw [hq] at h; cases h
  | some q =>
    rw [hq, Option.map_some, Option.some.injEq, Prod.mk.injEq] at h
    unfold decN
    rw [hk, hq]
    show (decOf q x).op = r.1
    unfold decOf
    rw [h.1, h.2]
    simp only
    rw [if_pos hz, hp]

theorem key_of {x o f : Nat} (ho : fld x 26 6 = o) (hf : (o = 0 ∨ o = 28) ∧ fld x 0 6 = f ∨ o = 1 ∧ fld x 16 5 = f ∨ (o ≠ 0 ∧ o ≠ 28 ∧ o ≠ 1) ∧ f = 0) : keyN x = (o, f) := by
  unfold keyN
  rw [ho]
  rcases hf with ⟨h, e⟩ | ⟨h, e⟩ | ⟨h, e⟩
  · rw [if_pos h, e]
  · rw [if_neg (by omega), if_pos h, e]
  · rw [if_neg (by omega), if_neg (by omega), e]
/-- The row of a number. -/
theorem row_mem {op : Nat} (h : 1 ≤ op ∧ op ≤ 69) : rrow (op - 1) ∈ refRows ∧ (rrow (op - 1)).1 = op := ⟨rrow_mem _ (by omega), by rw [rrow_op _ (by omega)]; omega⟩
/-- What a row's numbers are. -/
def RowIs (op form : Nat) (P : Nat → Nat → Prop) : Prop := (1 ≤ op ∧ op ≤ 69) ∧ (rrow (op - 1)).2.1 = form ∧ P (rrow (op - 1)).2.2.1 (rrow (op - 1)).2.2.2.1
theorem dec_enc {op form s t d a imm o f : Nat} (h1 : 1 ≤ op ∧ op ≤ 69) (hfo : (rrow (op - 1)).2.1 = form) (ho : (rrow (op - 1)).2.2.1 = o) (hf : (rrow (op - 1)).2.2.2.1 = f)
    (hk : keyN (refWord form o f s t d a imm) = (o, f))
    (hz : ∀ x, x = refWord form o f s t d a imm → (formOf (formNo form) op (fld x 21 5) (fld x 16 5) (fld x 11 5) (fld x 6 5) (fld x 0 16) (sx (fld x 0 16)) (fld x 6 10) (fld x 6 20) (fld x 0 26)).2 = 0)
    (hp : ∀ x, (formOf (formNo form) op (fld x 21 5) (fld x 16 5) (fld x 11 5) (fld x 6 5) (fld x 0 16) (sx (fld x 0 16)) (fld x 6 10) (fld x 6 20) (fld x 0 26)).1.op = op) :
    (decN (encN ⟨op, s, t, d, a, imm⟩)).op = op := by
  obtain ⟨m1, m2⟩ := row_mem h1
  have e : encN ⟨op, s, t, d, a, imm⟩ = refWord form o f s t d a imm := by unfold encN; simp only; rw [hfo, ho, hf]
  rw [e]
  have := dec_op m1 (refWord form o f s t d a imm) (by rw [ho, hf]; exact hk) (by rw [hfo, m2]; exact hz _ rfl) (by rw [hfo, m2]; exact hp _)
  rw [this, m2]

/-! The fields of a word. -/
theorem word_fields (o s t low : Nat) (ho : o < 64) (hs : s < 32) (ht : t < 32) (hl : low < 65536) (x : Nat) (hx : x = o * 67108864 + s * 2097152 + t * 65536 + low) : fld x 26 6 = o ∧ fld x 21 5 = s ∧ fld x 16 5 = t ∧ fld x 11 5 = low / 2048 ∧ fld x 6 5 = low / 64 % 32 ∧ fld x 0 6 = low % 64 := by
  have e1 : x / 65536 = o * 1024 + s * 32 + t := by omega
  have e2 : x % 65536 = low := by omega
  clear hx
  have f1 : x / 67108864 = o := by omega
  have f2 : x / 2097152 = o * 32 + s := by omega
  have f3 : x / 2048 % 32 = low / 2048 := by omega
  have f4 : x / 64 % 32 = low / 64 % 32 := by omega
  simp only [fld]
  refine ⟨by omega, by omega, by omega, by omega, by omega, by omega⟩
theorem low_fields (d a f : Nat) (hd : d < 32) (ha : a < 32) (hf : f < 64) : d * 2048 + a * 64 + f < 65536 ∧ (d * 2048 + a * 64 + f) / 2048 = d ∧ (d * 2048 + a * 64 + f) / 64 % 32 = a ∧ (d * 2048 + a * 64 + f) % 64 = f := by omega
theorem reg_fields (o s t d a f : Nat) (ho : o < 64) (hs : s < 32) (ht : t < 32) (hd : d < 32) (ha : a < 32) (hf : f < 64) (x : Nat) (hx : x = o * 67108864 + s * 2097152 + t * 65536 + d * 2048 + a * 64 + f) : fld x 26 6 = o ∧ fld x 21 5 = s ∧ fld x 16 5 = t ∧ fld x 11 5 = d ∧ fld x 6 5 = a ∧ fld x 0 6 = f := by
  obtain ⟨l1, l2, l3, l4⟩ := low_fields d a f hd ha hf
  have h := word_fields o s t (d * 2048 + a * 64 + f) ho hs ht l1 x (by rw [hx]; omega)
  rw [l2, l3, l4] at h
  exact h
/-! By forms. -/
theorem enc_reg {op form s t d a : Nat} (hform : formNo form ≤ 5 ∨ formNo form = 8 ∨ formNo form = 9) (hw : ∀ o f, refWord form o f s t d a 0 = o * 67108864 + s * 2097152 + t * 65536 + d * 2048 + a * 64 + f) (h1 : 1 ≤ op ∧ op ≤ 69) (hfo : (rrow (op - 1)).2.1 = form)
    (ho : (rrow (op - 1)).2.2.1 = 0 ∨ (rrow (op - 1)).2.2.1 = 28) (hf : (rrow (op - 1)).2.2.2.1 < 64) (hs : s < 32) (ht : t < 32) (hd : d < 32) (ha : a < 32)
    (hz : (formOf (formNo form) op s t d a 0 0 0 0 0).2 = 0) : (decN (encN ⟨op, s, t, d, a, 0⟩)).op = op := by
  obtain ⟨o, eo⟩ : ∃ o, (rrow (op - 1)).2.2.1 = o := ⟨_, rfl⟩
  obtain ⟨f, ef⟩ : ∃ f, (rrow (op - 1)).2.2.2.1 = f := ⟨_, rfl⟩
  rw [eo] at ho; rw [ef] at hf
  have ho64 : o < 64 := by omega
  have key := fun (x : Nat) (hx : x = refWord form o f s t d a 0) => reg_fields o s t d a f ho64 hs ht hd ha hf x (hx.trans (hw o f))
  have k0 := key _ rfl
  have hn : formNo form = 0 ∨ formNo form = 1 ∨ formNo form = 2 ∨ formNo form = 3 ∨ formNo form = 4 ∨ formNo form = 5 ∨ formNo form = 8 ∨ formNo form = 9 := by omega
  refine dec_enc h1 hfo eo ef (key_of k0.1 (.inl ⟨ho, k0.2.2.2.2.2⟩)) (fun x hx => ?_) (fun x => ?_)
  · obtain ⟨_, k2, k3, k4, k5, _⟩ := key x hx
    rw [k2, k3, k4, k5]
    rcases hn with h | h | h | h | h | h | h | h <;> rw [h] at hz ⊢ <;> exact hz
  · rcases hn with h | h | h | h | h | h | h | h <;> rw [h] <;> rfl
theorem enc_D {op s t d : Nat} (h1 : 1 ≤ op ∧ op ≤ 69) (hfo : (rrow (op - 1)).2.1 = 68 ∨ (rrow (op - 1)).2.1 = 88) (ho : (rrow (op - 1)).2.2.1 = 0 ∨ (rrow (op - 1)).2.2.1 = 28) (hf : (rrow (op - 1)).2.2.2.1 < 64) (hs : s < 32) (ht : t < 32) (hd : d < 32) : (decN (encN ⟨op, s, t, d, 0, 0⟩)).op = op := by
  rcases hfo with h | h
  · exact enc_reg (form := 68) (.inl (by decide)) (fun _ _ => rfl) h1 h ho hf hs ht hd (by decide) rfl
  · exact enc_reg (form := 88) (.inr (.inl (by decide))) (fun _ _ => rfl) h1 h ho hf hs ht hd (by decide) rfl
theorem enc_H {op t d a : Nat} (h1 : 1 ≤ op ∧ op ≤ 69) (hfo : (rrow (op - 1)).2.1 = 72) (ho : (rrow (op - 1)).2.2.1 = 0) (hf : (rrow (op - 1)).2.2.2.1 < 64) (ht : t < 32) (hd : d < 32) (ha : a < 32) : (decN (encN ⟨op, 0, t, d, a, 0⟩)).op = op :=
  enc_reg (form := 72) (.inl (by decide)) (fun _ _ => rfl) h1 hfo (.inl ho) hf (by decide) ht hd ha rfl
theorem enc_M {op s t : Nat} (h1 : 1 ≤ op ∧ op ≤ 69) (hfo : (rrow (op - 1)).2.1 = 77) (ho : (rrow (op - 1)).2.2.1 = 0) (hf : (rrow (op - 1)).2.2.2.1 < 64) (hs : s < 32) (ht : t < 32) : (decN (encN ⟨op, s, t, 0, 0, 0⟩)).op = op :=
  enc_reg (form := 77) (.inl (by decide)) (fun _ _ => rfl) h1 hfo (.inl ho) hf hs ht (by decide) (by decide) rfl
theorem enc_F {op d : Nat} (h1 : 1 ≤ op ∧ op ≤ 69) (hfo : (rrow (op - 1)).2.1 = 70) (ho : (rrow (op - 1)).2.2.1 = 0) (hf : (rrow (op - 1)).2.2.2.1 < 64) (hd : d < 32) : (decN (encN ⟨op, 0, 0, d, 0, 0⟩)).op = op :=
  enc_reg (form := 70) (.inl (by decide)) (fun _ _ => rfl) h1 hfo (.inl ho) hf (by decide) (by decide) hd (by decide) rfl
theorem enc_L {op s : Nat} (h1 : 1 ≤ op ∧ op ≤ 69) (hfo : (rrow (op - 1)).2.1 = 76) (ho : (rrow (op - 1)).2.2.1 = 0) (hf : (rrow (op - 1)).2.2.2.1 < 64) (hs : s < 32) : (decN (encN ⟨op, s, 0, 0, 0, 0⟩)).op = op :=
  enc_reg (form := 76) (.inl (by decide)) (fun _ _ => rfl) h1 hfo (.inl ho) hf hs (by decide) (by decide) (by decide) rfl
theorem enc_G {op s d : Nat} (h1 : 1 ≤ op ∧ op ≤ 69) (hfo : (rrow (op - 1)).2.1 = 71) (ho : (rrow (op - 1)).2.2.1 = 0) (hf : (rrow (op - 1)).2.2.2.1 < 64) (hs : s < 32) (hd : d < 32) : (decN (encN ⟨op, s, 0, d, 0, 0⟩)).op = op :=
  enc_reg (form := 71) (.inl (by decide)) (fun _ _ => rfl) h1 hfo (.inl ho) hf hs (by decide) hd (by decide) rfl
theorem enc_Y {op s d : Nat} (h1 : 1 ≤ op ∧ op ≤ 69) (hfo : (rrow (op - 1)).2.1 = 89) (ho : (rrow (op - 1)).2.2.1 = 28) (hf : (rrow (op - 1)).2.2.2.1 < 64) (hs : s < 32) (hd : d < 32) : (decN (encN ⟨op, s, d, d, 0, 0⟩)).op = op :=
  enc_reg (form := 89) (.inr (.inr (by decide))) (fun _ _ => rfl) h1 hfo (.inr ho) hf hs hd hd (by decide) (by show 0 ||| (d ^^^ d) = 0; rw [Nat.xor_self]; rfl)
theorem enc_T {op s t : Nat} (h1 : 1 ≤ op ∧ op ≤ 69) (hfo : (rrow (op - 1)).2.1 = 84) (ho : (rrow (op - 1)).2.2.1 = 0) (hf : (rrow (op - 1)).2.2.2.1 < 64) (hs : s < 32) (ht : t < 32) : (decN (encN ⟨op, s, t, 0, 0, 0⟩)).op = op := by
  obtain ⟨f, ef⟩ : ∃ f, (rrow (op - 1)).2.2.2.1 = f := ⟨_, rfl⟩
  rw [ef] at hf
  have hfl : f < 65536 := by omega
  have k0 := word_fields 0 s t f (by decide) hs ht hfl (refWord 84 0 f s t 0 0 0) (by unfold refWord; simp)
  exact dec_enc h1 hfo ho ef (key_of k0.1 (.inl ⟨.inl rfl, by rw [k0.2.2.2.2.2]; omega⟩)) (fun x hx => rfl) (fun _ => rfl)
/-- Forms whose o tells the row: I, U, P, B. -/
theorem enc_I {op s t imm : Nat} (h1 : 1 ≤ op ∧ op ≤ 69) (hfo : (rrow (op - 1)).2.1 = 73 ∨ (rrow (op - 1)).2.1 = 85 ∨ (rrow (op - 1)).2.1 = 80 ∨ (rrow (op - 1)).2.1 = 66) (ho : (rrow (op - 1)).2.2.1 < 64 ∧ (rrow (op - 1)).2.2.1 ≠ 0 ∧ (rrow (op - 1)).2.2.1 ≠ 28 ∧ (rrow (op - 1)).2.2.1 ≠ 1) (hf : (rrow (op - 1)).2.2.2.1 = 0) (hs : s < 32) (ht : t < 32) : (decN (encN ⟨op, s, t, 0, 0, imm⟩)).op = op := by
  obtain ⟨o, eo⟩ : ∃ o, (rrow (op - 1)).2.2.1 = o := ⟨_, rfl⟩
  rw [eo] at ho
  have hl1 : imm % 65536 < 65536 := Nat.mod_lt _ (by decide)
  have hl2 : imm / 4 % 65536 < 65536 := Nat.mod_lt _ (by decide)
  have a1 := (word_fields o s t (imm % 65536) ho.1 hs ht hl1 (refWord 73 o 0 s t 0 0 imm) (show refWord 73 o 0 s t 0 0 imm = o * 67108864 + s * 2097152 + t * 65536 + imm % 65536 from rfl)).1
  have a2 := (word_fields o s t (imm % 65536) ho.1 hs ht hl1 (refWord 85 o 0 s t 0 0 imm) (show refWord 85 o 0 s t 0 0 imm = o * 67108864 + s * 2097152 + t * 65536 + imm % 65536 from rfl)).1
  have a3 := (word_fields o s t (imm % 65536) ho.1 hs ht hl1 (refWord 80 o 0 s t 0 0 imm) (show refWord 80 o 0 s t 0 0 imm = o * 67108864 + s * 2097152 + t * 65536 + imm % 65536 from rfl)).1
  have a4 := (word_fields o s t (imm / 4 % 65536) ho.1 hs ht hl2 (refWord 66 o 0 s t 0 0 imm) (by unfold refWord; simp)).1
  have hk : ∀ x, fld x 26 6 = o → keyN x = (o, 0) := fun x h => key_of h (.inr (.inr ⟨⟨ho.2.1, ho.2.2.1, ho.2.2.2⟩, rfl⟩))
  rcases hfo with hfo | hfo | hfo | hfo
  · exact dec_enc h1 hfo eo hf (hk _ a1) (fun x hx => rfl) (fun _ => rfl)
  · exact dec_enc h1 hfo eo hf (hk _ a2) (fun x hx => rfl) (fun _ => rfl)
  · exact dec_enc h1 hfo eo hf (hk _ a3) (fun x hx => rfl) (fun _ => rfl)
  · exact dec_enc h1 hfo eo hf (hk _ a4) (fun x hx => rfl) (fun _ => rfl)
theorem enc_Z {op s imm : Nat} (h1 : 1 ≤ op ∧ op ≤ 69) (hfo : (rrow (op - 1)).2.1 = 90) (ho : (rrow (op - 1)).2.2.1 < 64 ∧ (rrow (op - 1)).2.2.1 ≠ 0 ∧ (rrow (op - 1)).2.2.1 ≠ 28 ∧ (rrow (op - 1)).2.2.1 ≠ 1) (hf : (rrow (op - 1)).2.2.2.1 = 0) (hs : s < 32) : (decN (encN ⟨op, s, 0, 0, 0, imm⟩)).op = op := by
  obtain ⟨o, eo⟩ : ∃ o, (rrow (op - 1)).2.2.1 = o := ⟨_, rfl⟩
  rw [eo] at ho
  have hl : imm / 4 % 65536 < 65536 := Nat.mod_lt _ (by decide)
  have key := fun (x : Nat) (hx : x = refWord 90 o 0 s 0 0 0 imm) => word_fields o s 0 (imm / 4 % 65536) ho.1 hs (by decide) hl x (hx.trans (show refWord 90 o 0 s 0 0 0 imm = o * 67108864 + s * 2097152 + 0 * 65536 + imm / 4 % 65536 from rfl))
  exact dec_enc h1 hfo eo hf (key_of (key _ rfl).1 (.inr (.inr ⟨⟨ho.2.1, ho.2.2.1, ho.2.2.2⟩, rfl⟩))) (fun x hx => (key x hx).2.2.1) (fun _ => rfl)
theorem enc_R {op s imm : Nat} (h1 : 1 ≤ op ∧ op ≤ 69) (hfo : (rrow (op - 1)).2.1 = 82) (ho : (rrow (op - 1)).2.2.1 = 1) (hf : (rrow (op - 1)).2.2.2.1 < 32) (hs : s < 32) : (decN (encN ⟨op, s, 0, 0, 0, imm⟩)).op = op := by
  obtain ⟨f, ef⟩ : ∃ f, (rrow (op - 1)).2.2.2.1 = f := ⟨_, rfl⟩
  rw [ef] at hf
  have hl : imm / 4 % 65536 < 65536 := Nat.mod_lt _ (by decide)
  have key := fun (x : Nat) (hx : x = refWord 82 1 f s 0 0 0 imm) => word_fields 1 s f (imm / 4 % 65536) (by decide) hs hf hl x (hx.trans (show refWord 82 1 f s 0 0 0 imm = 1 * 67108864 + s * 2097152 + f * 65536 + imm / 4 % 65536 from rfl))
  exact dec_enc h1 hfo ho ef (key_of (key _ rfl).1 (.inr (.inl ⟨rfl, (key _ rfl).2.2.1⟩))) (fun x hx => rfl) (fun _ => rfl)
theorem enc_J {op imm : Nat} (h1 : 1 ≤ op ∧ op ≤ 69) (hfo : (rrow (op - 1)).2.1 = 74) (ho : (rrow (op - 1)).2.2.1 < 64 ∧ (rrow (op - 1)).2.2.1 ≠ 0 ∧ (rrow (op - 1)).2.2.1 ≠ 28 ∧ (rrow (op - 1)).2.2.1 ≠ 1) (hf : (rrow (op - 1)).2.2.2.1 = 0) : (decN (encN ⟨op, 0, 0, 0, 0, imm⟩)).op = op := by
  obtain ⟨o, eo⟩ : ∃ o, (rrow (op - 1)).2.2.1 = o := ⟨_, rfl⟩
  rw [eo] at ho
  have key : fld (refWord 74 o 0 0 0 0 0 imm) 26 6 = o := by
    rw [show refWord 74 o 0 0 0 0 0 imm = o * 67108864 + imm / 4 % 67108864 from rfl]
    have := Nat.mod_lt (imm / 4) (show 67108864 > 0 by decide)
    generalize imm / 4 % 67108864 = q at *
    simp only [fld]; omega
  exact dec_enc h1 hfo eo hf (key_of key (.inr (.inr ⟨⟨ho.2.1, ho.2.2.1, ho.2.2.2⟩, rfl⟩))) (fun x hx => rfl) (fun _ => rfl)
theorem enc_lt (i : Insn) (h1 : 1 ≤ i.op ∧ i.op ≤ 69) (hs : i.s < 32) (ht : i.t < 32) (hd : i.d < 32) (ha : i.a < 32) : encN i < 4294967296 := by
  have := refRows_ok _ (rrow_mem (i.op - 1) (by omega))
  exact refWord_lt this.2.1 this.2.2.1 this.2.2.2 hs ht hd ha
/-- Which sort a word is of, by its number. -/
theorem plain_by {x op : Nat} (h : (decN x).op = op) (hp : plainI (op : Int) = true) : plainW x = true := by unfold plainW; rw [h, hp]
theorem jumps_by {x op : Nat} (h : (decN x).op = op) (hp : kindI (op : Int) = 2) : jumpsW x = true ∧ plainW x = false := by
  unfold jumpsW plainW plainI; rw [h, hp]; exact ⟨rfl, rfl⟩
end Go.Proofs.Ytjoaenfibkgplaa

namespace Go.Proofs.Ytjoaenfibkgplaa
set_option linter.unusedSimpArgs false
open Go.RowKit Go.Cq
set_option linter.unusedVariables false

theorem rowD : ∀ op ∈ [1, 2, 3, 4, 5, 6, 7, 8, 9, 10, 14, 15, 37], (1 ≤ op ∧ op ≤ 69) ∧ ((rrow (op - 1)).2.1 = 68 ∨ (rrow (op - 1)).2.1 = 88) ∧ ((rrow (op - 1)).2.2.1 = 0 ∨ (rrow (op - 1)).2.2.1 = 28) ∧ (rrow (op - 1)).2.2.2.1 < 64 ∧ plainI ((op : Nat) : Int) = true := by decide +kernel
theorem rowH : ∀ op ∈ [16, 17, 18], (1 ≤ op ∧ op ≤ 69) ∧ (rrow (op - 1)).2.1 = 72 ∧ (rrow (op - 1)).2.2.1 = 0 ∧ (rrow (op - 1)).2.2.2.1 < 64 ∧ plainI ((op : Nat) : Int) = true := by decide +kernel
theorem rowM : ∀ op ∈ [19, 20, 21, 22], (1 ≤ op ∧ op ≤ 69) ∧ (rrow (op - 1)).2.1 = 77 ∧ (rrow (op - 1)).2.2.1 = 0 ∧ (rrow (op - 1)).2.2.2.1 < 64 ∧ plainI ((op : Nat) : Int) = true := by decide +kernel
theorem rowF : ∀ op ∈ [23, 24], (1 ≤ op ∧ op ≤ 69) ∧ (rrow (op - 1)).2.1 = 70 ∧ (rrow (op - 1)).2.2.1 = 0 ∧ (rrow (op - 1)).2.2.2.1 < 64 ∧ plainI ((op : Nat) : Int) = true := by decide +kernel
theorem rowT : ∀ op ∈ [29, 30, 31, 32], (1 ≤ op ∧ op ≤ 69) ∧ (rrow (op - 1)).2.1 = 84 ∧ (rrow (op - 1)).2.2.1 = 0 ∧ (rrow (op - 1)).2.2.2.1 < 64 ∧ plainI ((op : Nat) : Int) = true := by decide +kernel
theorem rowY : ∀ op ∈ [38, 39], (1 ≤ op ∧ op ≤ 69) ∧ (rrow (op - 1)).2.1 = 89 ∧ (rrow (op - 1)).2.2.1 = 28 ∧ (rrow (op - 1)).2.2.2.1 < 64 ∧ plainI ((op : Nat) : Int) = true := by decide +kernel
theorem rowI : ∀ op ∈ [40, 41, 42, 43, 44, 45, 46, 48, 49, 50, 51, 52, 53, 54, 55, 56, 57, 58, 59], (1 ≤ op ∧ op ≤ 69) ∧ ((rrow (op - 1)).2.1 = 73 ∨ (rrow (op - 1)).2.1 = 85 ∨ (rrow (op - 1)).2.1 = 80 ∨ (rrow (op - 1)).2.1 = 66) ∧
    ((rrow (op - 1)).2.2.1 < 64 ∧ (rrow (op - 1)).2.2.1 ≠ 0 ∧ (rrow (op - 1)).2.2.1 ≠ 28 ∧ (rrow (op - 1)).2.2.1 ≠ 1) ∧ (rrow (op - 1)).2.2.2.1 = 0 ∧ plainI ((op : Nat) : Int) = true := by decide +kernel
theorem rowB : ∀ op ∈ [60, 61], (1 ≤ op ∧ op ≤ 69) ∧ ((rrow (op - 1)).2.1 = 73 ∨ (rrow (op - 1)).2.1 = 85 ∨ (rrow (op - 1)).2.1 = 80 ∨ (rrow (op - 1)).2.1 = 66) ∧
    ((rrow (op - 1)).2.2.1 < 64 ∧ (rrow (op - 1)).2.2.1 ≠ 0 ∧ (rrow (op - 1)).2.2.1 ≠ 28 ∧ (rrow (op - 1)).2.2.1 ≠ 1) ∧ (rrow (op - 1)).2.2.2.1 = 0 ∧ kindI ((op : Nat) : Int) = 2 := by decide +kernel
theorem rowZ : ∀ op ∈ [62, 63], (1 ≤ op ∧ op ≤ 69) ∧ (rrow (op - 1)).2.1 = 90 ∧
    ((rrow (op - 1)).2.2.1 < 64 ∧ (rrow (op - 1)).2.2.1 ≠ 0 ∧ (rrow (op - 1)).2.2.1 ≠ 28 ∧ (rrow (op - 1)).2.2.1 ≠ 1) ∧ (rrow (op - 1)).2.2.2.1 = 0 ∧ kindI ((op : Nat) : Int) = 2 := by decide +kernel
theorem rowR : ∀ op ∈ [64, 65, 66, 67], (1 ≤ op ∧ op ≤ 69) ∧ (rrow (op - 1)).2.1 = 82 ∧ (rrow (op - 1)).2.2.1 = 1 ∧ (rrow (op - 1)).2.2.2.1 < 32 ∧ kindI ((op : Nat) : Int) = 2 := by decide +kernel
theorem rowJ : ∀ op ∈ [68, 69], (1 ≤ op ∧ op ≤ 69) ∧ (rrow (op - 1)).2.1 = 74 ∧
    ((rrow (op - 1)).2.2.1 < 64 ∧ (rrow (op - 1)).2.2.1 ≠ 0 ∧ (rrow (op - 1)).2.2.1 ≠ 28 ∧ (rrow (op - 1)).2.2.1 ≠ 1) ∧ (rrow (op - 1)).2.2.2.1 = 0 ∧ kindI ((op : Nat) : Int) = 2 := by decide +kernel
theorem rowL : ∀ op ∈ [27], (1 ≤ op ∧ op ≤ 69) ∧ (rrow (op - 1)).2.1 = 76 ∧ (rrow (op - 1)).2.2.1 = 0 ∧ (rrow (op - 1)).2.2.2.1 < 64 ∧ kindI ((op : Nat) : Int) = 2 := by decide +kernel
theorem rowG : ∀ op ∈ [28], (1 ≤ op ∧ op ≤ 69) ∧ (rrow (op - 1)).2.1 = 71 ∧ (rrow (op - 1)).2.2.1 = 0 ∧ (rrow (op - 1)).2.2.2.1 < 64 ∧ kindI ((op : Nat) : Int) = 2 := by decide +kernel

/-- A word that goes on; one that jumps. -/
def Goes (x : Nat) : Prop := x < 4294967296 ∧ plainW x = true
def Leaps (x : Nat) : Prop := x < 4294967296 ∧ plainW x = false ∧ jumpsW x = true
theorem goes_D (op : Nat) {s t d : Nat} (h : op ∈ [1, 2, 3, 4, 5, 6, 7, 8, 9, 10, 14, 15, 37]) (hs : s < 32) (ht : t < 32) (hd : d < 32) : Goes (encN ⟨op, s, t, d, 0, 0⟩) := by
  obtain ⟨r1, r2, r3, r4, r5⟩ := rowD op h
  exact ⟨enc_lt ⟨op, s, t, d, 0, 0⟩ r1 hs ht hd (by show 0 < 32; decide), plain_by (enc_D r1 r2 r3 r4 hs ht hd) r5⟩
theorem goes_H (op : Nat) {t d a : Nat} (h : op ∈ [16, 17, 18]) (ht : t < 32) (hd : d < 32) (ha : a < 32) : Goes (encN ⟨op, 0, t, d, a, 0⟩) := by
  obtain ⟨r1, r2, r3, r4, r5⟩ := rowH op h
  exact ⟨enc_lt ⟨op, 0, t, d, a, 0⟩ r1 (by show 0 < 32; decide) ht hd ha, plain_by (enc_H r1 r2 r3 r4 ht hd ha) r5⟩
theorem goes_M (op : Nat) {s t : Nat} (h : op ∈ [19, 20, 21, 22]) (hs : s < 32) (ht : t < 32) : Goes (encN ⟨op, s, t, 0, 0, 0⟩) := by
  obtain ⟨r1, r2, r3, r4, r5⟩ := rowM op h
  exact ⟨enc_lt ⟨op, s, t, 0, 0, 0⟩ r1 hs ht (by show 0 < 32; decide) (by show 0 < 32; decide), plain_by (enc_M r1 r2 r3 r4 hs ht) r5⟩
theorem goes_F (op : Nat) {d : Nat} (h : op ∈ [23, 24]) (hd : d < 32) : Goes (encN ⟨op, 0, 0, d, 0, 0⟩) := by
  obtain ⟨r1, r2, r3, r4, r5⟩ := rowF op h
  exact ⟨enc_lt ⟨op, 0, 0, d, 0, 0⟩ r1 (by show 0 < 32; decide) (by show 0 < 32; decide) hd (by show 0 < 32; decide), plain_by (enc_F r1 r2 r3 r4 hd) r5⟩
theorem goes_T (op : Nat) {s t : Nat} (h : op ∈ [29, 30, 31, 32]) (hs : s < 32) (ht : t < 32) : Goes (encN ⟨op, s, t, 0, 0, 0⟩) := by
  obtain ⟨r1, r2, r3, r4, r5⟩ := rowT op h
  exact ⟨enc_lt ⟨op, s, t, 0, 0, 0⟩ r1 hs ht (by show 0 < 32; decide) (by show 0 < 32; decide), plain_by (enc_T r1 r2 r3 r4 hs ht) r5⟩
theorem goes_Y (op : Nat) {s d : Nat} (h : op ∈ [38, 39]) (hs : s < 32) (hd : d < 32) : Goes (encN ⟨op, s, d, d, 0, 0⟩) := by
  obtain ⟨r1, r2, r3, r4, r5⟩ := rowY op h
  exact ⟨enc_lt ⟨op, s, d, d, 0, 0⟩ r1 hs hd hd (by show 0 < 32; decide), plain_by (enc_Y r1 r2 r3 r4 hs hd) r5⟩
theorem goes_I (op : Nat) {s t imm : Nat} (h : op ∈ [40, 41, 42, 43, 44, 45, 46, 48, 49, 50, 51, 52, 53, 54, 55, 56, 57, 58, 59]) (hs : s < 32) (ht : t < 32) : Goes (encN ⟨op, s, t, 0, 0, imm⟩) := by
  obtain ⟨r1, r2, r3, r4, r5⟩ := rowI op h
  exact ⟨enc_lt ⟨op, s, t, 0, 0, imm⟩ r1 hs ht (by show 0 < 32; decide) (by show 0 < 32; decide), plain_by (enc_I r1 r2 r3 r4 hs ht) r5⟩
theorem leaps_of {x op : Nat} (h1 : x < 4294967296) (h : (decN x).op = op) (hp : kindI (op : Int) = 2) : Leaps x := ⟨h1, (jumps_by h hp).2, (jumps_by h hp).1⟩
theorem leaps_B (op : Nat) {s t imm : Nat} (h : op ∈ [60, 61]) (hs : s < 32) (ht : t < 32) : Leaps (encN ⟨op, s, t, 0, 0, imm⟩) := by
  obtain ⟨r1, r2, r3, r4, r5⟩ := rowB op h
  exact leaps_of (enc_lt ⟨op, s, t, 0, 0, imm⟩ r1 hs ht (by show 0 < 32; decide) (by show 0 < 32; decide)) (enc_I r1 r2 r3 r4 hs ht) r5
theorem leaps_Z (op : Nat) {s imm : Nat} (h : op ∈ [62, 63]) (hs : s < 32) : Leaps (encN ⟨op, s, 0, 0, 0, imm⟩) := by
  obtain ⟨r1, r2, r3, r4, r5⟩ := rowZ op h
  exact leaps_of (enc_lt ⟨op, s, 0, 0, 0, imm⟩ r1 hs (by show 0 < 32; decide) (by show 0 < 32; decide) (by show 0 < 32; decide)) (enc_Z r1 r2 r3 r4 hs) r5
theorem leaps_R (op : Nat) {s imm : Nat} (h : op ∈ [64, 65, 66, 67]) (hs : s < 32) : Leaps (encN ⟨op, s, 0, 0, 0, imm⟩) := by
  obtain ⟨r1, r2, r3, r4, r5⟩ := rowR op h
  exact leaps_of (enc_lt ⟨op, s, 0, 0, 0, imm⟩ r1 hs (by show 0 < 32; decide) (by show 0 < 32; decide) (by show 0 < 32; decide)) (enc_R r1 r2 r3 r4 hs) r5
theorem leaps_J (op : Nat) {imm : Nat} (h : op ∈ [68, 69]) : Leaps (encN ⟨op, 0, 0, 0, 0, imm⟩) := by
  obtain ⟨r1, r2, r3, r4, r5⟩ := rowJ op h
  exact leaps_of (enc_lt ⟨op, 0, 0, 0, 0, imm⟩ r1 (by show 0 < 32; decide) (by show 0 < 32; decide) (by show 0 < 32; decide) (by show 0 < 32; decide)) (enc_J r1 r2 r3 r4) r5
theorem leaps_L (op : Nat) {s : Nat} (h : op ∈ [27]) (hs : s < 32) : Leaps (encN ⟨op, s, 0, 0, 0, 0⟩) := by
  obtain ⟨r1, r2, r3, r4, r5⟩ := rowL op h
  exact leaps_of (enc_lt ⟨op, s, 0, 0, 0, 0⟩ r1 hs (by show 0 < 32; decide) (by show 0 < 32; decide) (by show 0 < 32; decide)) (enc_L r1 r2 r3 r4 hs) r5
theorem leaps_G (op : Nat) {s d : Nat} (h : op ∈ [28]) (hs : s < 32) (hd : d < 32) : Leaps (encN ⟨op, s, 0, d, 0, 0⟩) := by
  obtain ⟨r1, r2, r3, r4, r5⟩ := rowG op h
  exact leaps_of (enc_lt ⟨op, s, 0, d, 0, 0⟩ r1 hs (by show 0 < 32; decide) hd (by show 0 < 32; decide)) (enc_G r1 r2 r3 r4 hs hd) r5
theorem leaps_62 (op : Nat) {s imm : Nat} (h : 62 ≤ op ∧ op ≤ 67) (hs : s < 32) : Leaps (encN ⟨op, s, 0, 0, 0, imm⟩) := by
  by_cases h2 : op ≤ 63
  · exact leaps_Z op (by simp only [List.mem_cons, List.not_mem_nil, or_false]; omega) hs
  · exact leaps_R op (by simp only [List.mem_cons, List.not_mem_nil, or_false]; omega) hs
end Go.Proofs.Ytjoaenfibkgplaa
