/- Which words go on and which jump, by their numbers. No walk. -/
import Derived.Test.YtjoaenfibkgplaaP3
namespace Go.Proofs.Ytjoaenfibkgplaa
set_option linter.unusedSimpArgs false
open Go.RowKit Go.Cq
set_option linter.unusedVariables false

theorem rowD : ∀ op ∈ [1, 2, 3, 4, 5, 6, 7, 8, 9, 10, 14, 15, 37], (1 ≤ op ∧ op ≤ 69) ∧ ((rrow (op - 1)).2.1 = 68 ∨ (rrow (op - 1)).2.1 = 88) ∧ ((rrow (op - 1)).2.2.1 = 0 ∨ (rrow (op - 1)).2.2.1 = 28) ∧ (rrow (op - 1)).2.2.2.1 < 64 ∧ plainI ((op : Nat) : Int) = true := by decide +kernel
theorem rowH : ∀ op ∈ [16, 17, 18], (1 ≤ op ∧ op ≤ 69) ∧ (rrow (op - 1)).2.1 = 72 ∧ (rrow (op - 1)).2.2.1 = 0 ∧ (rrow (op - 1)).2.2.2.1 < 64 ∧ plainI ((op : Nat) : Int) = true := by decide +kernel
theorem rowM : ∀ op ∈ [19, 20, 21, 22], (1 ≤ op ∧ op ≤ 69) ∧ (rrow (op - 1)).2.1 = 77 ∧ (rrow (op - 1)).2.2.1 = 0 ∧ (rrow (op - 1)).2.2.2.1 < 64 ∧ plainI ((op : Nat) : Int) = true := by decide +kernel
theorem rowF : ∀ op ∈ [23, 24], (1 ≤ op ∧ op ≤ 69) ∧ (rrow (op - 1)).2.1 = 70 ∧ (rrow (op - 1)).2.2.1 = 0 ∧ (rrow (op - 1)).2.2.2.1 < 64 ∧ plainI ((op : Nat) : Int) = true := by decide +kernel
theorem rowT : ∀ op ∈ [29, 30, 31, 32], (1 ≤ op ∧ op ≤ 69) ∧ (rrow (op - 1)).2.1 = 84 ∧ (rrow (op - 1)).2.2.1 = 0 ∧ (rrow (op - 1)).2.2.2.1 < 64 ∧ plainI ((op : Nat) : Int) = true := by decide +kernel
theorem rowY : ∀ op ∈ [38, 39], (1 ≤ op ∧ op ≤ 69) ∧ (rrow (op - 1)).2.1 = 89 ∧ (rrow (op - 1)).2.2.1 = 28 ∧ (rrow (op - 1)).2.2.2.1 < 64 ∧ plainI ((op : Nat) : Int) = true := by decide +kernel
theorem rowI : ∀ op ∈ [40, 41, 42, 43, 44, 45, 46, 48, 49, 50, 51, 52, 53, 54, 55, 56, 57, 58, 59], (1 ≤ op ∧ op ≤ 69) ∧ ((rrow (op - 1)).2.1 = 73 ∨ (rrow (op - 1)).2.1 = 85 ∨ (rrow (op - 1)).2.1 = 80 ∨ (rrow (op - 1)).2.1 = 66) ∧
    ((rrow (op - 1)).2.2.1 < 64 ∧ (rrow (op - 1)).2.2.1 ≠ 0 ∧ (rrow (op - 1)).2.2.1 ≠ 28 ∧ (rrow (op - 1)).2.2.1 ≠ 1) ∧ (rrow (op - 1)).2.2.2.1 = 0 ∧ plainI ((op : Nat) : Int) = true := by decide +kernel
theorem rowB : ∀ op ∈ [60, 61], (1 ≤ op ∧ op ≤ 69) ∧ ((rrow (op - 1)).2.1 = 73 ∨ (rrow (op - 1)).2.1 = 85 ∨ (rrow (op - 1)).2.1 = 80 ∨ (rrow (op - 1)).2.1 = 66) ∧
    ((rrow (op - 1)).2.2.1 < 64 ∧ (rrow (op - 1)).2.2.1 ≠ 0 ∧ (rrow (op - 1)).2.2.1 ≠ 28 ∧ (rrow (op - 1)).2.2.1 ≠ 1) ∧ (rrow (op - 1)).2.2.2.1 = 0 ∧ kindI ((op : Nat) : Int) = 2 := by decide +kernel
theorem rowZ : ∀ op ∈ [62, 63], (1 ≤ op ∧ op ≤ 69) ∧ (rrow (op - 1)).2.1 = 90 ∧
    ((rrow (op - 1)).2.2.1 < 64 ∧ (rrow (op - 1)).2.2.1 ≠ 0 ∧ (rrow (op - 1)).2.2.1 ≠ 28 ∧ (rrow (op - 1)).2.2.1 ≠ 1) ∧ (rrow (op - 1)).2.2.2.1 = 0 ∧ kindI ((op : Nat) : Int) = 2 := by decide +kernel
theorem rowR : ∀ op ∈ [64, 65, 66, 67], (1 ≤ op ∧ op ≤ 69) ∧ (rrow (op - 1)).2.1 = 82 ∧ (rrow (op - 1)).2.2.1 = 1 ∧ (rrow (op - 1)).2.2.2.1 < 32 ∧ kindI ((op : Nat) : Int) = 2 := by decide +kernel
theorem rowJ : ∀ op ∈ [68, 69], (1 ≤ op ∧ op ≤ 69) ∧ (rrow (op - 1)).2.1 = 74 ∧
    ((rrow (op - 1)).2.2.1 < 64 ∧ (rrow (op - 1)).2.2.1 ≠ 0 ∧ (rrow (op - 1)).2.2.1 ≠ 28 ∧ (rrow (op - 1)).2.2.1 ≠ 1) ∧ (rrow (op - 1)).2.2.2.1 = 0 ∧ kindI ((op : Nat) : Int) = 2 := by decide +kernel
theorem rowL : ∀ op ∈ [27], (1 ≤ op ∧ op ≤ 69) ∧ (rrow (op - 1)).2.1 = 76 ∧ (rrow (op - 1)).2.2.1 = 0 ∧ (rrow (op - 1)).2.2.2.1 < 64 ∧ kindI ((op : Nat) : Int) = 2 := by decide +kernel
theorem rowG : ∀ op ∈ [28], (1 ≤ op ∧ op ≤ 69) ∧ (rrow (op - 1)).2.1 = 71 ∧ (rrow (op - 1)).2.2.1 = 0 ∧ (rrow (op - 1)).2.2.2.1 < 64 ∧ kindI ((op : Nat) : Int) = 2 := by decide +kernel

/-- A word that goes on; one that jumps. -/
def Goes (x : Nat) : Prop := x < 4294967296 ∧ plainW x = true
def Leaps (x : Nat) : Prop := x < 4294967296 ∧ plainW x = false ∧ jumpsW x = true
theorem goes_D (op : Nat) {s t d : Nat} (h : op ∈ [1, 2, 3, 4, 5, 6, 7, 8, 9, 10, 14, 15, 37]) (hs : s < 32) (ht : t < 32) (hd : d < 32) : Goes (encN ⟨op, s, t, d, 0, 0⟩) := by
  obtain ⟨r1, r2, r3, r4, r5⟩ := rowD op h
  exact ⟨enc_lt ⟨op, s, t, d, 0, 0⟩ r1 hs ht hd (by show 0 < 32; decide), plain_by (enc_D r1 r2 r3 r4 hs ht hd) r5⟩
theorem goes_H (op : Nat) {t d a : Nat} (h : op ∈ [16, 17, 18]) (ht : t < 32) (hd : d < 32) (ha : a < 32) : Goes (encN ⟨op, 0, t, d, a, 0⟩) := by
  obtain ⟨r1, r2, r3, r4, r5⟩ := rowH op h
  exact ⟨enc_lt ⟨op, 0, t, d, a, 0⟩ r1 (by show 0 < 32; decide) ht hd ha, plain_by (enc_H r1 r2 r3 r4 ht hd ha) r5⟩
theorem goes_M (op : Nat) {s t : Nat} (h : op ∈ [19, 20, 21, 22]) (hs : s < 32) (ht : t < 32) : Goes (encN ⟨op, s, t, 0, 0, 0⟩) := by
  obtain ⟨r1, r2, r3, r4, r5⟩ := rowM op h
  exact ⟨enc_lt ⟨op, s, t, 0, 0, 0⟩ r1 hs ht (by show 0 < 32; decide) (by show 0 < 32; decide), plain_by (enc_M r1 r2 r3 r4 hs ht) r5⟩
theorem goes_F (op : Nat) {d : Nat} (h : op ∈ [23, 24]) (hd : d < 32) : Goes (encN ⟨op, 0, 0, d, 0, 0⟩) := by
  obtain ⟨r1, r2, r3, r4, r5⟩ := rowF op h
  exact ⟨enc_lt ⟨op, 0, 0, d, 0, 0⟩ r1 (by show 0 < 32; decide) (by show 0 < 32; decide) hd (by show 0 < 32; decide), plain_by (enc_F r1 r2 r3 r4 hd) r5⟩
theorem goes_T (op : Nat) {s t : Nat} (h : op ∈ [29, 30, 31, 32]) (hs : s < 32) (ht : t < 32) : Goes (encN ⟨op, s, t, 0, 0, 0⟩) := by
  obtain ⟨r1, r2, r3, r4, r5⟩ := rowT op h
  exact ⟨enc_lt ⟨op, s, t, 0, 0, 0⟩ r1 hs ht (by show 0 < 32; decide) (by show 0 < 32; decide), plain_by (enc_T r1 r2 r3 r4 hs ht) r5⟩
theorem goes_Y (op : Nat) {s d : Nat} (h : op ∈ [38, 39]) (hs : s < 32) (hd : d < 32) : Goes (encN ⟨op, s, d, d, 0, 0⟩) := by
  obtain ⟨r1, r2, r3, r4, r5⟩ := rowY op h
  exact ⟨enc_lt ⟨op, s, d, d, 0, 0⟩ r1 hs hd hd (by show 0 < 32; decide), plain_by (enc_Y r1 r2 r3 r4 hs hd) r5⟩
theorem goes_I (op : Nat) {s t imm : Nat} (h : op ∈ [40, 41, 42, 43, 44, 45, 46, 48, 49, 50, 51, 52, 53, 54, 55, 56, 57, 58, 59]) (hs : s < 32) (ht : t < 32) : Goes (encN ⟨op, s, t, 0, 0, imm⟩) := by
  obtain ⟨r1, r2, r3, r4, r5⟩ := rowI op h
  exact ⟨enc_lt ⟨op, s, t, 0, 0, imm⟩ r1 hs ht (by show 0 < 32; decide) (by show 0 < 32; decide), plain_by (enc_I r1 r2 r3 r4 hs ht) r5⟩
theorem leaps_of {x op : Nat} (h1 : x < 4294967296) (h : (decN x).op = op) (hp : kindI (op : Int) = 2) : Leaps x := ⟨h1, (jumps_by h hp).2, (jumps_by h hp).1⟩
theorem leaps_B (op : Nat) {s t imm : Nat} (h : op ∈ [60, 61]) (hs : s < 32) (ht : t < 32) : Leaps (encN ⟨op, s, t, 0, 0, imm⟩) := by
  obtain ⟨r1, r2, r3, r4, r5⟩ := rowB op h
  exact leaps_of (enc_lt ⟨op, s, t, 0, 0, imm⟩ r1 hs ht (by show 0 < 32; decide) (by show 0 < 32; decide)) (enc_I r1 r2 r3 r4 hs ht) r5
theorem leaps_Z (op : Nat) {s imm : Nat} (h : op ∈ [62, 63]) (hs : s < 32) : Leaps (encN ⟨op, s, 0, 0, 0, imm⟩) := by
  obtain ⟨r1, r2, r3, r4, r5⟩ := rowZ op h
  exact leaps_of (enc_lt ⟨op, s, 0, 0, 0, imm⟩ r1 hs (by show 0 < 32; decide) (by show 0 < 32; decide) (by show 0 < 32; decide)) (enc_Z r1 r2 r3 r4 hs) r5
theorem leaps_R (op : Nat) {s imm : Nat} (h : op ∈ [64, 65, 66, 67]) (hs : s < 32) : Leaps (encN ⟨op, s, 0, 0, 0, imm⟩) := by
  obtain ⟨r1, r2, r3, r4, r5⟩ := rowR op h
  exact leaps_of (enc_lt ⟨op, s, 0, 0, 0, imm⟩ r1 hs (by show 0 < 32; decide) (by show 0 < 32; decide) (by show 0 < 32; decide)) (enc_R r1 r2 r3 r4 hs) r5
theorem leaps_J (op : Nat) {imm : Nat} (h : op ∈ [68, 69]) : Leaps (encN ⟨op, 0, 0, 0, 0, imm⟩) := by
  obtain ⟨r1, r2, r3, r4, r5⟩ := rowJ op h
  exact leaps_of (enc_lt ⟨op, 0, 0, 0, 0, imm⟩ r1 (by show 0 < 32; decide) (by show 0 < 32; decide) (by show 0 < 32; decide) (by show 0 < 32; decide)) (enc_J r1 r2 r3 r4) r5
theorem leaps_L (op : Nat) {s : Nat} (h : op ∈ [27]) (hs : s < 32) : Leaps (encN ⟨op, s, 0, 0, 0, 0⟩) := by
  obtain ⟨r1, r2, r3, r4, r5⟩ := rowL op h
  exact leaps_of (enc_lt ⟨op, s, 0, 0, 0, 0⟩ r1 hs (by show 0 < 32; decide) (by show 0 < 32; decide) (by show 0 < 32; decide)) (enc_L r1 r2 r3 r4 hs) r5
theorem leaps_G (op : Nat) {s d : Nat} (h : op ∈ [28]) (hs : s < 32) (hd : d < 32) : Leaps (encN ⟨op, s, 0, d, 0, 0⟩) := by
  obtain ⟨r1, r2, r3, r4, r5⟩ := rowG op h
  exact leaps_of (enc_lt ⟨op, s, 0, d, 0, 0⟩ r1 hs (by show 0 < 32; decide) hd (by show 0 < 32; decide)) (enc_G r1 r2 r3 r4 hs hd) r5
theorem leaps_62 (op : Nat) {s imm : Nat} (h : 62 ≤ op ∧ op ≤ 67) (hs : s < 32) : Leaps (encN ⟨op, s, 0, 0, 0, imm⟩) := by
  by_cases h2 : op ≤ 63
  · exact leaps_Z op (by simp only [List.mem_cons, List.not_mem_nil, or_false]; omega) hs
  · exact leaps_R op (by simp only [List.mem_cons, List.not_mem_nil, or_false]; omega) hs
end Go.Proofs.Ytjoaenfibkgplaa
