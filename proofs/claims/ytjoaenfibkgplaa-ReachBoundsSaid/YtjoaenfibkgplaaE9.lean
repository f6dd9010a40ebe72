import Derived.Test.YtjoaenfibkgplaaE7b
import Derived.Test.YtjoaenfibkgplaaE7c
import Derived.Test.YtjoaenfibkgplaaE8
namespace Go.Proofs.Ytjoaenfibkgplaa
set_option linter.unusedSimpArgs false
open Go.RowKit Go.Cq
set_option linter.unusedVariables false
theorem fld5_lt (x a : Nat) : fld x a 5 < 32 := fld_lt x a 5
theorem fld5_64 (x a : Nat) : fld x a 5 < 64 := Nat.lt_trans (fld_lt x a 5) (by decide)
theorem fld6_64 (x : Nat) : fld x 0 6 < 64 := fld_lt x 0 6
theorem fitsF_68 (x op o f : Nat) (nm : ByteArray) (w : World) (hx : x < 4294967296) :
    Calls Try.prog 49 #[.agg (refVals op 68 o f nm), .int .u32 (x : Int)] w fun e w' => e = .returned (.bool (fitsN 68 o f x)) ∧ Below w.heap.size w w' := by
  by_cases ho : x / 67108864 = o
  · subst ho
    by_cases c0 : (fld x 0 6) = f
    · subst c0
      by_cases c1 : (fld x 6 5) = 0
      · skip
        have hr : fitsN 68 (x / 67108864) (fld x 0 6) x = true := by simp [fitsN, fitsIn, c1]
        rw [hr]; exact fits_68_3 x op (fld x 21 5) (fld x 16 5) (fld x 11 5) (fld x 0 6) nm w hx (Lib.hid rfl) (Lib.hid rfl) (Lib.hid rfl) (Lib.hid c1) (Lib.hid rfl) (fld5_64 x 21) (fld5_64 x 16) (fld5_64 x 11) (fld6_64 x)
      · have hr : fitsN 68 (x / 67108864) (fld x 0 6) x = false := by simp [fitsN, fitsIn, c1]
        rw [hr]; exact fits_68_2 x op (fld x 21 5) (fld x 16 5) (fld x 11 5) (fld x 6 5) (fld x 0 6) nm w hx (Lib.hid rfl) (Lib.hid rfl) (Lib.hid rfl) (Lib.hid rfl) (Lib.hid rfl) (by omega) (fld5_64 x 21) (fld5_64 x 16) (fld5_64 x 11) (fld5_64 x 6) (fld6_64 x)
    · have hr : fitsN 68 (x / 67108864) f x = false := by simp [fitsN, fitsIn, c0]
      rw [hr]; exact fits_68_1 x op (fld x 21 5) (fld x 16 5) (fld x 11 5) (fld x 6 5) (fld x 0 6) f nm w hx (Lib.hid rfl) (Lib.hid rfl) (Lib.hid rfl) (Lib.hid rfl) (Lib.hid rfl) (by omega) (fld5_64 x 21) (fld5_64 x 16) (fld5_64 x 11) (fld5_64 x 6) (fld6_64 x)
  · have hr : fitsN 68 o f x = false := by simp [fitsN, ho]
    rw [hr]; exact fits_68_0 x op (fld x 21 5) (fld x 16 5) (fld x 11 5) (fld x 6 5) (fld x 0 6) f o nm w hx (Lib.hid rfl) (Lib.hid rfl) (Lib.hid rfl) (Lib.hid rfl) (Lib.hid rfl) (by omega) (fld5_64 x 21) (fld5_64 x 16) (fld5_64 x 11) (fld5_64 x 6) (fld6_64 x)
theorem fitsF_88 (x op o f : Nat) (nm : ByteArray) (w : World) (hx : x < 4294967296) :
    Calls Try.prog 49 #[.agg (refVals op 88 o f nm), .int .u32 (x : Int)] w fun e w' => e = .returned (.bool (fitsN 88 o f x)) ∧ Below w.heap.size w w' := by
  by_cases ho : x / 67108864 = o
  · subst ho
    by_cases c0 : (fld x 0 6) = f
    · subst c0
      by_cases c1 : (fld x 6 5) = 0
      · skip
        have hr : fitsN 88 (x / 67108864) (fld x 0 6) x = true := by simp [fitsN, fitsIn, c1]
        rw [hr]; exact fits_88_3 x op (fld x 21 5) (fld x 16 5) (fld x 11 5) (fld x 0 6) nm w hx (Lib.hid rfl) (Lib.hid rfl) (Lib.hid rfl) (Lib.hid c1) (Lib.hid rfl) (fld5_64 x 21) (fld5_64 x 16) (fld5_64 x 11) (fld6_64 x)
      · have hr : fitsN 88 (x / 67108864) (fld x 0 6) x = false := by simp [fitsN, fitsIn, c1]
        rw [hr]; exact fits_88_2 x op (fld x 21 5) (fld x 16 5) (fld x 11 5) (fld x 6 5) (fld x 0 6) nm w hx (Lib.hid rfl) (Lib.hid rfl) (Lib.hid rfl) (Lib.hid rfl) (Lib.hid rfl) (by omega) (fld5_64 x 21) (fld5_64 x 16) (fld5_64 x 11) (fld5_64 x 6) (fld6_64 x)
    · have hr : fitsN 88 (x / 67108864) f x = false := by simp [fitsN, fitsIn, c0]
      rw [hr]; exact fits_88_1 x op (fld x 21 5) (fld x 16 5) (fld x 11 5) (fld x 6 5) (fld x 0 6) f nm w hx (Lib.hid rfl) (Lib.hid rfl) (Lib.hid rfl) (Lib.hid rfl) (Lib.hid rfl) (by omega) (fld5_64 x 21) (fld5_64 x 16) (fld5_64 x 11) (fld5_64 x 6) (fld6_64 x)
  · have hr : fitsN 88 o f x = false := by simp [fitsN, ho]
    rw [hr]; exact fits_88_0 x op (fld x 21 5) (fld x 16 5) (fld x 11 5) (fld x 6 5) (fld x 0 6) f o nm w hx (Lib.hid rfl) (Lib.hid rfl) (Lib.hid rfl) (Lib.hid rfl) (Lib.hid rfl) (by omega) (fld5_64 x 21) (fld5_64 x 16) (fld5_64 x 11) (fld5_64 x 6) (fld6_64 x)
theorem fitsF_72 (x op o f : Nat) (nm : ByteArray) (w : World) (hx : x < 4294967296) :
    Calls Try.prog 49 #[.agg (refVals op 72 o f nm), .int .u32 (x : Int)] w fun e w' => e = .returned (.bool (fitsN 72 o f x)) ∧ Below w.heap.size w w' := by
  by_cases ho : x / 67108864 = o
  · subst ho
    by_cases c0 : (fld x 0 6) = f
    · subst c0
      by_cases c1 : (fld x 21 5) = 0
      · skip
        have hr : fitsN 72 (x / 67108864) (fld x 0 6) x = true := by simp [fitsN, fitsIn, c1]
        rw [hr]; exact fits_72_3 x op (fld x 16 5) (fld x 11 5) (fld x 6 5) (fld x 0 6) nm w hx (Lib.hid c1) (Lib.hid rfl) (Lib.hid rfl) (Lib.hid rfl) (Lib.hid rfl) (fld5_64 x 16) (fld5_64 x 11) (fld5_64 x 6) (fld6_64 x)
      · have hr : fitsN 72 (x / 67108864) (fld x 0 6) x = false := by simp [fitsN, fitsIn, c1]
        rw [hr]; exact fits_72_2 x op (fld x 21 5) (fld x 16 5) (fld x 11 5) (fld x 6 5) (fld x 0 6) nm w hx (Lib.hid rfl) (Lib.hid rfl) (Lib.hid rfl) (Lib.hid rfl) (Lib.hid rfl) (by omega) (fld5_64 x 21) (fld5_64 x 16) (fld5_64 x 11) (fld5_64 x 6) (fld6_64 x)
    · have hr : fitsN 72 (x / 67108864) f x = false := by simp [fitsN, fitsIn, c0]
      rw [hr]; exact fits_72_1 x op (fld x 21 5) (fld x 16 5) (fld x 11 5) (fld x 6 5) (fld x 0 6) f nm w hx (Lib.hid rfl) (Lib.hid rfl) (Lib.hid rfl) (Lib.hid rfl) (Lib.hid rfl) (by omega) (fld5_64 x 21) (fld5_64 x 16) (fld5_64 x 11) (fld5_64 x 6) (fld6_64 x)
  · have hr : fitsN 72 o f x = false := by simp [fitsN, ho]
    rw [hr]; exact fits_72_0 x op (fld x 21 5) (fld x 16 5) (fld x 11 5) (fld x 6 5) (fld x 0 6) f o nm w hx (Lib.hid rfl) (Lib.hid rfl) (Lib.hid rfl) (Lib.hid rfl) (Lib.hid rfl) (by omega) (fld5_64 x 21) (fld5_64 x 16) (fld5_64 x 11) (fld5_64 x 6) (fld6_64 x)
theorem fitsF_77 (x op o f : Nat) (nm : ByteArray) (w : World) (hx : x < 4294967296) :
    Calls Try.prog 49 #[.agg (refVals op 77 o f nm), .int .u32 (x : Int)] w fun e w' => e = .returned (.bool (fitsN 77 o f x)) ∧ Below w.heap.size w w' := by
  by_cases ho : x / 67108864 = o
  · subst ho
    by_cases c0 : (fld x 0 6) = f
    · subst c0
      by_cases c1 : (fld x 11 5) = 0
      · skip
        by_cases c2 : (fld x 6 5) = 0
        · skip
          have hr : fitsN 77 (x / 67108864) (fld x 0 6) x = true := by simp [fitsN, fitsIn, c1, c2]
          rw [hr]; exact fits_77_4 x op (fld x 21 5) (fld x 16 5) (fld x 0 6) nm w hx (Lib.hid rfl) (Lib.hid rfl) (Lib.hid c1) (Lib.hid c2) (Lib.hid rfl) (fld5_64 x 21) (fld5_64 x 16) (fld6_64 x)
        · have hr : fitsN 77 (x / 67108864) (fld x 0 6) x = false := by simp [fitsN, fitsIn, c1, c2]
          rw [hr]; exact fits_77_3 x op (fld x 21 5) (fld x 16 5) (fld x 6 5) (fld x 0 6) nm w hx (Lib.hid rfl) (Lib.hid rfl) (Lib.hid c1) (Lib.hid rfl) (Lib.hid rfl) (by omega) (fld5_64 x 21) (fld5_64 x 16) (fld5_64 x 6) (fld6_64 x)
      · have hr : fitsN 77 (x / 67108864) (fld x 0 6) x = false := by simp [fitsN, fitsIn, c1]
        rw [hr]; exact fits_77_2 x op (fld x 21 5) (fld x 16 5) (fld x 11 5) (fld x 6 5) (fld x 0 6) nm w hx (Lib.hid rfl) (Lib.hid rfl) (Lib.hid rfl) (Lib.hid rfl) (Lib.hid rfl) (by omega) (fld5_64 x 21) (fld5_64 x 16) (fld5_64 x 11) (fld5_64 x 6) (fld6_64 x)
    · have hr : fitsN 77 (x / 67108864) f x = false := by simp [fitsN, fitsIn, c0]
      rw [hr]; exact fits_77_1 x op (fld x 21 5) (fld x 16 5) (fld x 11 5) (fld x 6 5) (fld x 0 6) f nm w hx (Lib.hid rfl) (Lib.hid rfl) (Lib.hid rfl) (Lib.hid rfl) (Lib.hid rfl) (by omega) (fld5_64 x 21) (fld5_64 x 16) (fld5_64 x 11) (fld5_64 x 6) (fld6_64 x)
  · have hr : fitsN 77 o f x = false := by simp [fitsN, ho]
    rw [hr]; exact fits_77_0 x op (fld x 21 5) (fld x 16 5) (fld x 11 5) (fld x 6 5) (fld x 0 6) f o nm w hx (Lib.hid rfl) (Lib.hid rfl) (Lib.hid rfl) (Lib.hid rfl) (Lib.hid rfl) (by omega) (fld5_64 x 21) (fld5_64 x 16) (fld5_64 x 11) (fld5_64 x 6) (fld6_64 x)
theorem fitsF_70 (x op o f : Nat) (nm : ByteArray) (w : World) (hx : x < 4294967296) :
    Calls Try.prog 49 #[.agg (refVals op 70 o f nm), .int .u32 (x : Int)] w fun e w' => e = .returned (.bool (fitsN 70 o f x)) ∧ Below w.heap.size w w' := by
  by_cases ho : x / 67108864 = o
  · subst ho
    by_cases c0 : (fld x 0 6) = f
    · subst c0
      by_cases c1 : (fld x 21 5) = 0
      · skip
        by_cases c2 : (fld x 16 5) = 0
        · skip
          by_cases c3 : (fld x 6 5) = 0
          · skip
            have hr : fitsN 70 (x / 67108864) (fld x 0 6) x = true := by simp [fitsN, fitsIn, c1, c2, c3]
            rw [hr]; exact fits_70_5 x op (fld x 11 5) (fld x 0 6) nm w hx (Lib.hid c1) (Lib.hid c2) (Lib.hid rfl) (Lib.hid c3) (Lib.hid rfl) (fld5_64 x 11) (fld6_64 x)
          · have hr : fitsN 70 (x / 67108864) (fld x 0 6) x = false := by simp [fitsN, fitsIn, c1, c2, c3]
            rw [hr]; exact fits_70_4 x op (fld x 11 5) (fld x 6 5) (fld x 0 6) nm w hx (Lib.hid c1) (Lib.hid c2) (Lib.hid rfl) (Lib.hid rfl) (Lib.hid rfl) (by omega) (fld5_64 x 11) (fld5_64 x 6) (fld6_64 x)
        · have hr : fitsN 70 (x / 67108864) (fld x 0 6) x = false := by simp [fitsN, fitsIn, c1, c2]
          rw [hr]; exact fits_70_3 x op (fld x 16 5) (fld x 11 5) (fld x 6 5) (fld x 0 6) nm w hx (Lib.hid c1) (Lib.hid rfl) (Lib.hid rfl) (Lib.hid rfl) (Lib.hid rfl) (by omega) (fld5_64 x 16) (fld5_64 x 11) (fld5_64 x 6) (fld6_64 x)
      · have hr : fitsN 70 (x / 67108864) (fld x 0 6) x = false := by simp [fitsN, fitsIn, c1]
        rw [hr]; exact fits_70_2 x op (fld x 21 5) (fld x 16 5) (fld x 11 5) (fld x 6 5) (fld x 0 6) nm w hx (Lib.hid rfl) (Lib.hid rfl) (Lib.hid rfl) (Lib.hid rfl) (Lib.hid rfl) (by omega) (fld5_64 x 21) (fld5_64 x 16) (fld5_64 x 11) (fld5_64 x 6) (fld6_64 x)
    · have hr : fitsN 70 (x / 67108864) f x = false := by simp [fitsN, fitsIn, c0]
      rw [hr]; exact fits_70_1 x op (fld x 21 5) (fld x 16 5) (fld x 11 5) (fld x 6 5) (fld x 0 6) f nm w hx (Lib.hid rfl) (Lib.hid rfl) (Lib.hid rfl) (Lib.hid rfl) (Lib.hid rfl) (by omega) (fld5_64 x 21) (fld5_64 x 16) (fld5_64 x 11) (fld5_64 x 6) (fld6_64 x)
  · have hr : fitsN 70 o f x = false := by simp [fitsN, ho]
    rw [hr]; exact fits_70_0 x op (fld x 21 5) (fld x 16 5) (fld x 11 5) (fld x 6 5) (fld x 0 6) f o nm w hx (Lib.hid rfl) (Lib.hid rfl) (Lib.hid rfl) (Lib.hid rfl) (Lib.hid rfl) (by omega) (fld5_64 x 21) (fld5_64 x 16) (fld5_64 x 11) (fld5_64 x 6) (fld6_64 x)
theorem fitsF_76 (x op o f : Nat) (nm : ByteArray) (w : World) (hx : x < 4294967296) :
    Calls Try.prog 49 #[.agg (refVals op 76 o f nm), .int .u32 (x : Int)] w fun e w' => e = .returned (.bool (fitsN 76 o f x)) ∧ Below w.heap.size w w' := by
  by_cases ho : x / 67108864 = o
  · subst ho
    by_cases c0 : (fld x 0 6) = f
    · subst c0
      by_cases c1 : (fld x 16 5) = 0
      · skip
        by_cases c2 : (fld x 11 5) = 0
        · skip
          by_cases c3 : (fld x 6 5) = 0
          · skip
            have hr : fitsN 76 (x / 67108864) (fld x 0 6) x = true := by simp [fitsN, fitsIn, c1, c2, c3]
            rw [hr]; exact fits_76_5 x op (fld x 21 5) (fld x 0 6) nm w hx (Lib.hid rfl) (Lib.hid c1) (Lib.hid c2) (Lib.hid c3) (Lib.hid rfl) (fld5_64 x 21) (fld6_64 x)
          · have hr : fitsN 76 (x / 67108864) (fld x 0 6) x = false := by simp [fitsN, fitsIn, c1, c2, c3]
            rw [hr]; exact fits_76_4 x op (fld x 21 5) (fld x 6 5) (fld x 0 6) nm w hx (Lib.hid rfl) (Lib.hid c1) (Lib.hid c2) (Lib.hid rfl) (Lib.hid rfl) (by omega) (fld5_64 x 21) (fld5_64 x 6) (fld6_64 x)
        · have hr : fitsN 76 (x / 67108864) (fld x 0 6) x = false := by simp [fitsN, fitsIn, c1, c2]
          rw [hr]; exact fits_76_3 x op (fld x 21 5) (fld x 11 5) (fld x 6 5) (fld x 0 6) nm w hx (Lib.hid rfl) (Lib.hid c1) (Lib.hid rfl) (Lib.hid rfl) (Lib.hid rfl) (by omega) (fld5_64 x 21) (fld5_64 x 11) (fld5_64 x 6) (fld6_64 x)
      · have hr : fitsN 76 (x / 67108864) (fld x 0 6) x = false := by simp [fitsN, fitsIn, c1]
        rw [hr]; exact fits_76_2 x op (fld x 21 5) (fld x 16 5) (fld x 11 5) (fld x 6 5) (fld x 0 6) nm w hx (Lib.hid rfl) (Lib.hid rfl) (Lib.hid rfl) (Lib.hid rfl) (Lib.hid rfl) (by omega) (fld5_64 x 21) (fld5_64 x 16) (fld5_64 x 11) (fld5_64 x 6) (fld6_64 x)
    · have hr : fitsN 76 (x / 67108864) f x = false := by simp [fitsN, fitsIn, c0]
      rw [hr]; exact fits_76_1 x op (fld x 21 5) (fld x 16 5) (fld x 11 5) (fld x 6 5) (fld x 0 6) f nm w hx (Lib.hid rfl) (Lib.hid rfl) (Lib.hid rfl) (Lib.hid rfl) (Lib.hid rfl) (by omega) (fld5_64 x 21) (fld5_64 x 16) (fld5_64 x 11) (fld5_64 x 6) (fld6_64 x)
  · have hr : fitsN 76 o f x = false := by simp [fitsN, ho]
    rw [hr]; exact fits_76_0 x op (fld x 21 5) (fld x 16 5) (fld x 11 5) (fld x 6 5) (fld x 0 6) f o nm w hx (Lib.hid rfl) (Lib.hid rfl) (Lib.hid rfl) (Lib.hid rfl) (Lib.hid rfl) (by omega) (fld5_64 x 21) (fld5_64 x 16) (fld5_64 x 11) (fld5_64 x 6) (fld6_64 x)
theorem fitsF_71 (x op o f : Nat) (nm : ByteArray) (w : World) (hx : x < 4294967296) :
    Calls Try.prog 49 #[.agg (refVals op 71 o f nm), .int .u32 (x : Int)] w fun e w' => e = .returned (.bool (fitsN 71 o f x)) ∧ Below w.heap.size w w' := by
  by_cases ho : x / 67108864 = o
  · subst ho
    by_cases c0 : (fld x 0 6) = f
    · subst c0
      by_cases c1 : (fld x 16 5) = 0
      · skip
        by_cases c2 : (fld x 6 5) = 0
        · skip
          have hr : fitsN 71 (x / 67108864) (fld x 0 6) x = true := by simp [fitsN, fitsIn, c1, c2]
          rw [hr]; exact fits_71_4 x op (fld x 21 5) (fld x 11 5) (fld x 0 6) nm w hx (Lib.hid rfl) (Lib.hid c1) (Lib.hid rfl) (Lib.hid c2) (Lib.hid rfl) (fld5_64 x 21) (fld5_64 x 11) (fld6_64 x)
        · have hr : fitsN 71 (x / 67108864) (fld x 0 6) x = false := by simp [fitsN, fitsIn, c1, c2]
          rw [hr]; exact fits_71_3 x op (fld x 21 5) (fld x 11 5) (fld x 6 5) (fld x 0 6) nm w hx (Lib.hid rfl) (Lib.hid c1) (Lib.hid rfl) (Lib.hid rfl) (Lib.hid rfl) (by omega) (fld5_64 x 21) (fld5_64 x 11) (fld5_64 x 6) (fld6_64 x)
      · have hr : fitsN 71 (x / 67108864) (fld x 0 6) x = false := by simp [fitsN, fitsIn, c1]
        rw [hr]; exact fits_71_2 x op (fld x 21 5) (fld x 16 5) (fld x 11 5) (fld x 6 5) (fld x 0 6) nm w hx (Lib.hid rfl) (Lib.hid rfl) (Lib.hid rfl) (Lib.hid rfl) (Lib.hid rfl) (by omega) (fld5_64 x 21) (fld5_64 x 16) (fld5_64 x 11) (fld5_64 x 6) (fld6_64 x)
    · have hr : fitsN 71 (x / 67108864) f x = false := by simp [fitsN, fitsIn, c0]
      rw [hr]; exact fits_71_1 x op (fld x 21 5) (fld x 16 5) (fld x 11 5) (fld x 6 5) (fld x 0 6) f nm w hx (Lib.hid rfl) (Lib.hid rfl) (Lib.hid rfl) (Lib.hid rfl) (Lib.hid rfl) (by omega) (fld5_64 x 21) (fld5_64 x 16) (fld5_64 x 11) (fld5_64 x 6) (fld6_64 x)
  · have hr : fitsN 71 o f x = false := by simp [fitsN, ho]
    rw [hr]; exact fits_71_0 x op (fld x 21 5) (fld x 16 5) (fld x 11 5) (fld x 6 5) (fld x 0 6) f o nm w hx (Lib.hid rfl) (Lib.hid rfl) (Lib.hid rfl) (Lib.hid rfl) (Lib.hid rfl) (by omega) (fld5_64 x 21) (fld5_64 x 16) (fld5_64 x 11) (fld5_64 x 6) (fld6_64 x)
theorem fitsF_84 (x op o f : Nat) (nm : ByteArray) (w : World) (hx : x < 4294967296) :
    Calls Try.prog 49 #[.agg (refVals op 84 o f nm), .int .u32 (x : Int)] w fun e w' => e = .returned (.bool (fitsN 84 o f x)) ∧ Below w.heap.size w w' := by
  by_cases ho : x / 67108864 = o
  · subst ho
    by_cases c0 : (fld x 0 6) = f
    · subst c0
      have hr : fitsN 84 (x / 67108864) (fld x 0 6) x = true := by simp [fitsN, fitsIn]
      rw [hr]; exact fits_84_2 x op (fld x 21 5) (fld x 16 5) (fld x 11 5) (fld x 6 5) (fld x 0 6) nm w hx (Lib.hid rfl) (Lib.hid rfl) (Lib.hid rfl) (Lib.hid rfl) (Lib.hid rfl) (fld5_64 x 21) (fld5_64 x 16) (fld5_64 x 11) (fld5_64 x 6) (fld6_64 x)
    · have hr : fitsN 84 (x / 67108864) f x = false := by simp [fitsN, fitsIn, c0]
      rw [hr]; exact fits_84_1 x op (fld x 21 5) (fld x 16 5) (fld x 11 5) (fld x 6 5) (fld x 0 6) f nm w hx (Lib.hid rfl) (Lib.hid rfl) (Lib.hid rfl) (Lib.hid rfl) (Lib.hid rfl) (by omega) (fld5_64 x 21) (fld5_64 x 16) (fld5_64 x 11) (fld5_64 x 6) (fld6_64 x)
  · have hr : fitsN 84 o f x = false := by simp [fitsN, ho]
    rw [hr]; exact fits_84_0 x op (fld x 21 5) (fld x 16 5) (fld x 11 5) (fld x 6 5) (fld x 0 6) f o nm w hx (Lib.hid rfl) (Lib.hid rfl) (Lib.hid rfl) (Lib.hid rfl) (Lib.hid rfl) (by omega) (fld5_64 x 21) (fld5_64 x 16) (fld5_64 x 11) (fld5_64 x 6) (fld6_64 x)
theorem fitsF_67 (x op o f : Nat) (nm : ByteArray) (w : World) (hx : x < 4294967296) :
    Calls Try.prog 49 #[.agg (refVals op 67 o f nm), .int .u32 (x : Int)] w fun e w' => e = .returned (.bool (fitsN 67 o f x)) ∧ Below w.heap.size w w' := by
  by_cases ho : x / 67108864 = o
  · subst ho
    by_cases c0 : (fld x 0 6) = f
    · subst c0
      have hr : fitsN 67 (x / 67108864) (fld x 0 6) x = true := by simp [fitsN, fitsIn]
      rw [hr]; exact fits_67_2 x op (fld x 21 5) (fld x 16 5) (fld x 11 5) (fld x 6 5) (fld x 0 6) nm w hx (Lib.hid rfl) (Lib.hid rfl) (Lib.hid rfl) (Lib.hid rfl) (Lib.hid rfl) (fld5_64 x 21) (fld5_64 x 16) (fld5_64 x 11) (fld5_64 x 6) (fld6_64 x)
    · have hr : fitsN 67 (x / 67108864) f x = false := by simp [fitsN, fitsIn, c0]
      rw [hr]; exact fits_67_1 x op (fld x 21 5) (fld x 16 5) (fld x 11 5) (fld x 6 5) (fld x 0 6) f nm w hx (Lib.hid rfl) (Lib.hid rfl) (Lib.hid rfl) (Lib.hid rfl) (Lib.hid rfl) (by omega) (fld5_64 x 21) (fld5_64 x 16) (fld5_64 x 11) (fld5_64 x 6) (fld6_64 x)
  · have hr : fitsN 67 o f x = false := by simp [fitsN, ho]
    rw [hr]; exact fits_67_0 x op (fld x 21 5) (fld x 16 5) (fld x 11 5) (fld x 6 5) (fld x 0 6) f o nm w hx (Lib.hid rfl) (Lib.hid rfl) (Lib.hid rfl) (Lib.hid rfl) (Lib.hid rfl) (by omega) (fld5_64 x 21) (fld5_64 x 16) (fld5_64 x 11) (fld5_64 x 6) (fld6_64 x)
theorem fitsF_89 (x op o f : Nat) (nm : ByteArray) (w : World) (hx : x < 4294967296) :
    Calls Try.prog 49 #[.agg (refVals op 89 o f nm), .int .u32 (x : Int)] w fun e w' => e = .returned (.bool (fitsN 89 o f x)) ∧ Below w.heap.size w w' := by
  by_cases ho : x / 67108864 = o
  · subst ho
    by_cases c0 : (fld x 0 6) = f
    · subst c0
      by_cases c1 : (fld x 6 5) = 0
      · skip
        by_cases c2 : (fld x 16 5) = (fld x 11 5)
        · skip
          have hr : fitsN 89 (x / 67108864) (fld x 0 6) x = true := by simp [fitsN, fitsIn, c1, c2]
          rw [hr]; exact fits_89_4 x op (fld x 21 5) (fld x 16 5) (fld x 0 6) nm w hx (Lib.hid rfl) (Lib.hid rfl) (Lib.hid c2.symm) (Lib.hid c1) (Lib.hid rfl) (fld5_64 x 21) (fld5_64 x 16) (fld6_64 x)
        · have hr : fitsN 89 (x / 67108864) (fld x 0 6) x = false := by simp [fitsN, fitsIn, c1, c2]
          rw [hr]; exact fits_89_3 x op (fld x 21 5) (fld x 16 5) (fld x 11 5) (fld x 0 6) nm w hx (Lib.hid rfl) (Lib.hid rfl) (Lib.hid rfl) (Lib.hid c1) (Lib.hid rfl) (by omega) (fld5_64 x 21) (fld5_64 x 16) (fld5_64 x 11) (fld6_64 x)
      · have hr : fitsN 89 (x / 67108864) (fld x 0 6) x = false := by simp [fitsN, fitsIn, c1]
        rw [hr]; exact fits_89_2 x op (fld x 21 5) (fld x 16 5) (fld x 11 5) (fld x 6 5) (fld x 0 6) nm w hx (Lib.hid rfl) (Lib.hid rfl) (Lib.hid rfl) (Lib.hid rfl) (Lib.hid rfl) (by omega) (fld5_64 x 21) (fld5_64 x 16) (fld5_64 x 11) (fld5_64 x 6) (fld6_64 x)
    · have hr : fitsN 89 (x / 67108864) f x = false := by simp [fitsN, fitsIn, c0]
      rw [hr]; exact fits_89_1 x op (fld x 21 5) (fld x 16 5) (fld x 11 5) (fld x 6 5) (fld x 0 6) f nm w hx (Lib.hid rfl) (Lib.hid rfl) (Lib.hid rfl) (Lib.hid rfl) (Lib.hid rfl) (by omega) (fld5_64 x 21) (fld5_64 x 16) (fld5_64 x 11) (fld5_64 x 6) (fld6_64 x)
  · have hr : fitsN 89 o f x = false := by simp [fitsN, ho]
    rw [hr]; exact fits_89_0 x op (fld x 21 5) (fld x 16 5) (fld x 11 5) (fld x 6 5) (fld x 0 6) f o nm w hx (Lib.hid rfl) (Lib.hid rfl) (Lib.hid rfl) (Lib.hid rfl) (Lib.hid rfl) (by omega) (fld5_64 x 21) (fld5_64 x 16) (fld5_64 x 11) (fld5_64 x 6) (fld6_64 x)
theorem fitsF_86 (x op o f : Nat) (nm : ByteArray) (w : World) (hx : x < 4294967296) :
    Calls Try.prog 49 #[.agg (refVals op 86 o f nm), .int .u32 (x : Int)] w fun e w' => e = .returned (.bool (fitsN 86 o f x)) ∧ Below w.heap.size w w' := by
  by_cases ho : x / 67108864 = o
  · subst ho
    by_cases c0 : (fld x 21 5) = 0
    · skip
      have hr : fitsN 86 (x / 67108864) f x = true := by simp [fitsN, fitsIn, c0]
      rw [hr]; exact fits_86_2 x op (fld x 16 5) (fld x 11 5) (fld x 6 5) (fld x 0 6) f nm w hx (Lib.hid c0) (Lib.hid rfl) (Lib.hid rfl) (Lib.hid rfl) (Lib.hid rfl) (fld5_64 x 16) (fld5_64 x 11) (fld5_64 x 6) (fld6_64 x)
    · have hr : fitsN 86 (x / 67108864) f x = false := by simp [fitsN, fitsIn, c0]
      rw [hr]; exact fits_86_1 x op (fld x 21 5) (fld x 16 5) (fld x 11 5) (fld x 6 5) (fld x 0 6) f nm w hx (Lib.hid rfl) (Lib.hid rfl) (Lib.hid rfl) (Lib.hid rfl) (Lib.hid rfl) (by omega) (fld5_64 x 21) (fld5_64 x 16) (fld5_64 x 11) (fld5_64 x 6) (fld6_64 x)
  · have hr : fitsN 86 o f x = false := by simp [fitsN, ho]
    rw [hr]; exact fits_86_0 x op (fld x 21 5) (fld x 16 5) (fld x 11 5) (fld x 6 5) (fld x 0 6) f o nm w hx (Lib.hid rfl) (Lib.hid rfl) (Lib.hid rfl) (Lib.hid rfl) (Lib.hid rfl) (by omega) (fld5_64 x 21) (fld5_64 x 16) (fld5_64 x 11) (fld5_64 x 6) (fld6_64 x)
theorem fitsF_90 (x op o f : Nat) (nm : ByteArray) (w : World) (hx : x < 4294967296) :
    Calls Try.prog 49 #[.agg (refVals op 90 o f nm), .int .u32 (x : Int)] w fun e w' => e = .returned (.bool (fitsN 90 o f x)) ∧ Below w.heap.size w w' := by
  by_cases ho : x / 67108864 = o
  · subst ho
    by_cases c0 : (fld x 16 5) = 0
    · skip
      have hr : fitsN 90 (x / 67108864) f x = true := by simp [fitsN, fitsIn, c0]
      rw [hr]; exact fits_90_2 x op (fld x 21 5) (fld x 11 5) (fld x 6 5) (fld x 0 6) f nm w hx (Lib.hid rfl) (Lib.hid c0) (Lib.hid rfl) (Lib.hid rfl) (Lib.hid rfl) (fld5_64 x 21) (fld5_64 x 11) (fld5_64 x 6) (fld6_64 x)
    · have hr : fitsN 90 (x / 67108864) f x = false := by simp [fitsN, fitsIn, c0]
      rw [hr]; exact fits_90_1 x op (fld x 21 5) (fld x 16 5) (fld x 11 5) (fld x 6 5) (fld x 0 6) f nm w hx (Lib.hid rfl) (Lib.hid rfl) (Lib.hid rfl) (Lib.hid rfl) (Lib.hid rfl) (by omega) (fld5_64 x 21) (fld5_64 x 16) (fld5_64 x 11) (fld5_64 x 6) (fld6_64 x)
  · have hr : fitsN 90 o f x = false := by simp [fitsN, ho]
    rw [hr]; exact fits_90_0 x op (fld x 21 5) (fld x 16 5) (fld x 11 5) (fld x 6 5) (fld x 0 6) f o nm w hx (Lib.hid rfl) (Lib.hid rfl) (Lib.hid rfl) (Lib.hid rfl) (Lib.hid rfl) (by omega) (fld5_64 x 21) (fld5_64 x 16) (fld5_64 x 11) (fld5_64 x 6) (fld6_64 x)
theorem fitsF_82 (x op o f : Nat) (nm : ByteArray) (w : World) (hx : x < 4294967296) :
    Calls Try.prog 49 #[.agg (refVals op 82 o f nm), .int .u32 (x : Int)] w fun e w' => e = .returned (.bool (fitsN 82 o f x)) ∧ Below w.heap.size w w' := by
  by_cases ho : x / 67108864 = o
  · subst ho
    by_cases c0 : (fld x 16 5) = f
    · subst c0
      have hr : fitsN 82 (x / 67108864) (fld x 16 5) x = true := by simp [fitsN, fitsIn]
      rw [hr]; exact fits_82_2 x op (fld x 21 5) (fld x 16 5) (fld x 11 5) (fld x 6 5) (fld x 0 6) nm w hx (Lib.hid rfl) (Lib.hid rfl) (Lib.hid rfl) (Lib.hid rfl) (Lib.hid rfl) (fld5_64 x 21) (fld5_64 x 16) (fld5_64 x 11) (fld5_64 x 6) (fld6_64 x)
    · have hr : fitsN 82 (x / 67108864) f x = false := by simp [fitsN, fitsIn, c0]
      rw [hr]; exact fits_82_1 x op (fld x 21 5) (fld x 16 5) (fld x 11 5) (fld x 6 5) (fld x 0 6) f nm w hx (Lib.hid rfl) (Lib.hid rfl) (Lib.hid rfl) (Lib.hid rfl) (Lib.hid rfl) (by omega) (fld5_64 x 21) (fld5_64 x 16) (fld5_64 x 11) (fld5_64 x 6) (fld6_64 x)
  · have hr : fitsN 82 o f x = false := by simp [fitsN, ho]
    rw [hr]; exact fits_82_0 x op (fld x 21 5) (fld x 16 5) (fld x 11 5) (fld x 6 5) (fld x 0 6) f o nm w hx (Lib.hid rfl) (Lib.hid rfl) (Lib.hid rfl) (Lib.hid rfl) (Lib.hid rfl) (by omega) (fld5_64 x 21) (fld5_64 x 16) (fld5_64 x 11) (fld5_64 x 6) (fld6_64 x)
theorem fitsF_73 (x op o f : Nat) (nm : ByteArray) (w : World) (hx : x < 4294967296) :
    Calls Try.prog 49 #[.agg (refVals op 73 o f nm), .int .u32 (x : Int)] w fun e w' => e = .returned (.bool (fitsN 73 o f x)) ∧ Below w.heap.size w w' := by
  by_cases ho : x / 67108864 = o
  · subst ho
    have hr : fitsN 73 (x / 67108864) f x = true := by simp [fitsN, fitsIn]
    rw [hr]; exact fits_73_1 x op (fld x 21 5) (fld x 16 5) (fld x 11 5) (fld x 6 5) (fld x 0 6) f nm w hx (Lib.hid rfl) (Lib.hid rfl) (Lib.hid rfl) (Lib.hid rfl) (Lib.hid rfl) (fld5_64 x 21) (fld5_64 x 16) (fld5_64 x 11) (fld5_64 x 6) (fld6_64 x)
  · have hr : fitsN 73 o f x = false := by simp [fitsN, ho]
    rw [hr]; exact fits_73_0 x op (fld x 21 5) (fld x 16 5) (fld x 11 5) (fld x 6 5) (fld x 0 6) f o nm w hx (Lib.hid rfl) (Lib.hid rfl) (Lib.hid rfl) (Lib.hid rfl) (Lib.hid rfl) (by omega) (fld5_64 x 21) (fld5_64 x 16) (fld5_64 x 11) (fld5_64 x 6) (fld6_64 x)
theorem fitsF_85 (x op o f : Nat) (nm : ByteArray) (w : World) (hx : x < 4294967296) :
    Calls Try.prog 49 #[.agg (refVals op 85 o f nm), .int .u32 (x : Int)] w fun e w' => e = .returned (.bool (fitsN 85 o f x)) ∧ Below w.heap.size w w' := by
  by_cases ho : x / 67108864 = o
  · subst ho
    have hr : fitsN 85 (x / 67108864) f x = true := by simp [fitsN, fitsIn]
    rw [hr]; exact fits_85_1 x op (fld x 21 5) (fld x 16 5) (fld x 11 5) (fld x 6 5) (fld x 0 6) f nm w hx (Lib.hid rfl) (Lib.hid rfl) (Lib.hid rfl) (Lib.hid rfl) (Lib.hid rfl) (fld5_64 x 21) (fld5_64 x 16) (fld5_64 x 11) (fld5_64 x 6) (fld6_64 x)
  · have hr : fitsN 85 o f x = false := by simp [fitsN, ho]
    rw [hr]; exact fits_85_0 x op (fld x 21 5) (fld x 16 5) (fld x 11 5) (fld x 6 5) (fld x 0 6) f o nm w hx (Lib.hid rfl) (Lib.hid rfl) (Lib.hid rfl) (Lib.hid rfl) (Lib.hid rfl) (by omega) (fld5_64 x 21) (fld5_64 x 16) (fld5_64 x 11) (fld5_64 x 6) (fld6_64 x)
theorem fitsF_80 (x op o f : Nat) (nm : ByteArray) (w : World) (hx : x < 4294967296) :
    Calls Try.prog 49 #[.agg (refVals op 80 o f nm), .int .u32 (x : Int)] w fun e w' => e = .returned (.bool (fitsN 80 o f x)) ∧ Below w.heap.size w w' := by
  by_cases ho : x / 67108864 = o
  · subst ho
    have hr : fitsN 80 (x / 67108864) f x = true := by simp [fitsN, fitsIn]
    rw [hr]; exact fits_80_1 x op (fld x 21 5) (fld x 16 5) (fld x 11 5) (fld x 6 5) (fld x 0 6) f nm w hx (Lib.hid rfl) (Lib.hid rfl) (Lib.hid rfl) (Lib.hid rfl) (Lib.hid rfl) (fld5_64 x 21) (fld5_64 x 16) (fld5_64 x 11) (fld5_64 x 6) (fld6_64 x)
  · have hr : fitsN 80 o f x = false := by simp [fitsN, ho]
    rw [hr]; exact fits_80_0 x op (fld x 21 5) (fld x 16 5) (fld x 11 5) (fld x 6 5) (fld x 0 6) f o nm w hx (Lib.hid rfl) (Lib.hid rfl) (Lib.hid rfl) (Lib.hid rfl) (Lib.hid rfl) (by omega) (fld5_64 x 21) (fld5_64 x 16) (fld5_64 x 11) (fld5_64 x 6) (fld6_64 x)
theorem fitsF_66 (x op o f : Nat) (nm : ByteArray) (w : World) (hx : x < 4294967296) :
    Calls Try.prog 49 #[.agg (refVals op 66 o f nm), .int .u32 (x : Int)] w fun e w' => e = .returned (.bool (fitsN 66 o f x)) ∧ Below w.heap.size w w' := by
  by_cases ho : x / 67108864 = o
  · subst ho
    have hr : fitsN 66 (x / 67108864) f x = true := by simp [fitsN, fitsIn]
    rw [hr]; exact fits_66_1 x op (fld x 21 5) (fld x 16 5) (fld x 11 5) (fld x 6 5) (fld x 0 6) f nm w hx (Lib.hid rfl) (Lib.hid rfl) (Lib.hid rfl) (Lib.hid rfl) (Lib.hid rfl) (fld5_64 x 21) (fld5_64 x 16) (fld5_64 x 11) (fld5_64 x 6) (fld6_64 x)
  · have hr : fitsN 66 o f x = false := by simp [fitsN, ho]
    rw [hr]; exact fits_66_0 x op (fld x 21 5) (fld x 16 5) (fld x 11 5) (fld x 6 5) (fld x 0 6) f o nm w hx (Lib.hid rfl) (Lib.hid rfl) (Lib.hid rfl) (Lib.hid rfl) (Lib.hid rfl) (by omega) (fld5_64 x 21) (fld5_64 x 16) (fld5_64 x 11) (fld5_64 x 6) (fld6_64 x)
theorem fitsF_74 (x op o f : Nat) (nm : ByteArray) (w : World) (hx : x < 4294967296) :
    Calls Try.prog 49 #[.agg (refVals op 74 o f nm), .int .u32 (x : Int)] w fun e w' => e = .returned (.bool (fitsN 74 o f x)) ∧ Below w.heap.size w w' := by
  by_cases ho : x / 67108864 = o
  · subst ho
    have hr : fitsN 74 (x / 67108864) f x = true := by simp [fitsN, fitsIn]
    rw [hr]; exact fits_74_1 x op (fld x 21 5) (fld x 16 5) (fld x 11 5) (fld x 6 5) (fld x 0 6) f nm w hx (Lib.hid rfl) (Lib.hid rfl) (Lib.hid rfl) (Lib.hid rfl) (Lib.hid rfl) (fld5_64 x 21) (fld5_64 x 16) (fld5_64 x 11) (fld5_64 x 6) (fld6_64 x)
  · have hr : fitsN 74 o f x = false := by simp [fitsN, ho]
    rw [hr]; exact fits_74_0 x op (fld x 21 5) (fld x 16 5) (fld x 11 5) (fld x 6 5) (fld x 0 6) f o nm w hx (Lib.hid rfl) (Lib.hid rfl) (Lib.hid rfl) (Lib.hid rfl) (Lib.hid rfl) (by omega) (fld5_64 x 21) (fld5_64 x 16) (fld5_64 x 11) (fld5_64 x 6) (fld6_64 x)
def FormOk (form : Nat) : Prop := form = 68 ∨ form = 88 ∨ form = 72 ∨ form = 77 ∨ form = 70 ∨ form = 76 ∨ form = 71 ∨ form = 84 ∨ form = 67 ∨ form = 89 ∨ form = 86 ∨ form = 90 ∨ form = 82 ∨ form = 73 ∨ form = 85 ∨ form = 80 ∨ form = 66 ∨ form = 74
instance (form : Nat) : Decidable (FormOk form) := by unfold FormOk; infer_instance
/-- 'calqueref08.fits'. -/
theorem fits_any (x op form o f : Nat) (nm : ByteArray) (w : World) (hx : x < 4294967296) (hf : FormOk form) :
    Calls Try.prog 49 #[.agg (refVals op form o f nm), .int .u32 (x : Int)] w fun e w' => e = .returned (.bool (fitsN form o f x)) ∧ Below w.heap.size w w' := by
  unfold FormOk at hf
  rcases hf with rfl | rfl | rfl | rfl | rfl | rfl | rfl | rfl | rfl | rfl | rfl | rfl | rfl | rfl | rfl | rfl | rfl | rfl
  · exact fitsF_68 x op o f nm w hx
  · exact fitsF_88 x op o f nm w hx
  · exact fitsF_72 x op o f nm w hx
  · exact fitsF_77 x op o f nm w hx
  · exact fitsF_70 x op o f nm w hx
  · exact fitsF_76 x op o f nm w hx
  · exact fitsF_71 x op o f nm w hx
  · exact fitsF_84 x op o f nm w hx
  · exact fitsF_67 x op o f nm w hx
  · exact fitsF_89 x op o f nm w hx
  · exact fitsF_86 x op o f nm w hx
  · exact fitsF_90 x op o f nm w hx
  · exact fitsF_82 x op o f nm w hx
  · exact fitsF_73 x op o f nm w hx
  · exact fitsF_85 x op o f nm w hx
  · exact fitsF_80 x op o f nm w hx
  · exact fitsF_66 x op o f nm w hx
  · exact fitsF_74 x op o f nm w hx
/-- 'calqueref08.cut'. -/
theorem rcut_any (x op form o f : Nat) (nm : ByteArray) (w : World) (hx : x < 4294967296) (hf : FormOk form) :
    Calls Try.prog 50 #[.agg (refVals op form o f nm), .int .u32 (x : Int)] w fun e w' => e = .returned (.agg (insVals (refCut form op x))) ∧ Below w.heap.size w w' := by
  unfold FormOk at hf
  have bv := sx_lt (x % 65536) (by omega)
  rcases hf with rfl | rfl | rfl | rfl | rfl | rfl | rfl | rfl | rfl | rfl | rfl | rfl | rfl | rfl | rfl | rfl | rfl | rfl
  · exact cut_68 x op _ _ _ _ (o : Int) (f : Int) nm w hx (Lib.hid rfl) (Lib.hid rfl) (Lib.hid rfl) (Lib.hid rfl) (fld5_lt x 21) (fld5_lt x 16) (fld5_lt x 11) bv
  · exact cut_88 x op _ _ _ _ (o : Int) (f : Int) nm w hx (Lib.hid rfl) (Lib.hid rfl) (Lib.hid rfl) (Lib.hid rfl) (fld5_lt x 21) (fld5_lt x 16) (fld5_lt x 11) bv
  · exact cut_72 x op _ _ _ _ _ (o : Int) (f : Int) nm w hx (Lib.hid rfl) (Lib.hid rfl) (Lib.hid rfl) (Lib.hid rfl) (Lib.hid rfl) (fld5_lt x 21) (fld5_lt x 16) (fld5_lt x 11) bv (fld_lt x 6 5)
  · exact cut_77 x op _ _ _ _ (o : Int) (f : Int) nm w hx (Lib.hid rfl) (Lib.hid rfl) (Lib.hid rfl) (Lib.hid rfl) (fld5_lt x 21) (fld5_lt x 16) (fld5_lt x 11) bv
  · exact cut_70 x op _ _ _ _ (o : Int) (f : Int) nm w hx (Lib.hid rfl) (Lib.hid rfl) (Lib.hid rfl) (Lib.hid rfl) (fld5_lt x 21) (fld5_lt x 16) (fld5_lt x 11) bv
  · exact cut_76 x op _ _ _ _ (o : Int) (f : Int) nm w hx (Lib.hid rfl) (Lib.hid rfl) (Lib.hid rfl) (Lib.hid rfl) (fld5_lt x 21) (fld5_lt x 16) (fld5_lt x 11) bv
  · exact cut_71 x op _ _ _ _ (o : Int) (f : Int) nm w hx (Lib.hid rfl) (Lib.hid rfl) (Lib.hid rfl) (Lib.hid rfl) (fld5_lt x 21) (fld5_lt x 16) (fld5_lt x 11) bv
  · exact cut_84 x op _ _ _ _ _ (o : Int) (f : Int) nm w hx (Lib.hid rfl) (Lib.hid rfl) (Lib.hid rfl) (Lib.hid rfl) (Lib.hid rfl) (fld5_lt x 21) (fld5_lt x 16) (fld5_lt x 11) bv (fld_lt x 6 10)
  · exact cut_67 x op _ _ _ _ _ (o : Int) (f : Int) nm w hx (Lib.hid rfl) (Lib.hid rfl) (Lib.hid rfl) (Lib.hid rfl) (Lib.hid rfl) (fld5_lt x 21) (fld5_lt x 16) (fld5_lt x 11) bv (fld_lt x 6 20)
  · exact cut_89 x op _ _ _ _ (o : Int) (f : Int) nm w hx (Lib.hid rfl) (Lib.hid rfl) (Lib.hid rfl) (Lib.hid rfl) (fld5_lt x 21) (fld5_lt x 16) (fld5_lt x 11) bv
  · exact cut_86 x op _ _ _ _ (o : Int) (f : Int) nm w hx (Lib.hid rfl) (Lib.hid rfl) (Lib.hid rfl) (Lib.hid rfl) (fld5_lt x 21) (fld5_lt x 16) (fld5_lt x 11) bv
  · exact cut_90 x op _ _ _ _ (o : Int) (f : Int) nm w hx (Lib.hid rfl) (Lib.hid rfl) (Lib.hid rfl) (Lib.hid rfl) (fld5_lt x 21) (fld5_lt x 16) (fld5_lt x 11) bv
  · exact cut_82 x op _ _ _ _ (o : Int) (f : Int) nm w hx (Lib.hid rfl) (Lib.hid rfl) (Lib.hid rfl) (Lib.hid rfl) (fld5_lt x 21) (fld5_lt x 16) (fld5_lt x 11) bv
  · exact cut_73 x op _ _ _ _ (o : Int) (f : Int) nm w hx (Lib.hid rfl) (Lib.hid rfl) (Lib.hid rfl) (Lib.hid rfl) (fld5_lt x 21) (fld5_lt x 16) (fld5_lt x 11) bv
  · exact cut_85 x op _ _ _ _ (o : Int) (f : Int) nm w hx (Lib.hid rfl) (Lib.hid rfl) (Lib.hid rfl) (Lib.hid rfl) (fld5_lt x 21) (fld5_lt x 16) (fld5_lt x 11) bv
  · exact cut_80 x op _ _ _ _ (o : Int) (f : Int) nm w hx (Lib.hid rfl) (Lib.hid rfl) (Lib.hid rfl) (Lib.hid rfl) (fld5_lt x 21) (fld5_lt x 16) (fld5_lt x 11) bv
  · exact cut_66 x op _ _ _ _ (o : Int) (f : Int) nm w hx (Lib.hid rfl) (Lib.hid rfl) (Lib.hid rfl) (Lib.hid rfl) (fld5_lt x 21) (fld5_lt x 16) (fld5_lt x 11) bv
  · exact cut_74 x op _ _ _ _ _ (o : Int) (f : Int) nm w hx (Lib.hid rfl) (Lib.hid rfl) (Lib.hid rfl) (Lib.hid rfl) (Lib.hid rfl) (fld5_lt x 21) (fld5_lt x 16) (fld5_lt x 11) bv (fld_lt x 0 26)
/-- 'calqueref08.word'. -/
theorem rword_any (op form o f s t d a imm iop : Nat) (nm : ByteArray) (w : World) (hf : FormOk form) (ho : o < 64) (hf1 : f < 64) (hf2 : form = 82 → f < 32) (hs : s < 32) (ht : t < 32) (hd : d < 32) (ha : a < 32) (hi : imm < 4294967296) :
    Calls Try.prog 93 #[.agg (refVals op form o f nm), .agg (insVals ⟨iop, s, t, d, a, imm⟩)] w fun e w' => e = .returned (.int .u32 ((refWord form o f s t d a imm : Nat) : Int)) ∧ Below w.heap.size w w' := by
  unfold FormOk at hf
  rcases hf with rfl | rfl | rfl | rfl | rfl | rfl | rfl | rfl | rfl | rfl | rfl | rfl | rfl | rfl | rfl | rfl | rfl | rfl
  · exact word_68 op o f s t d a imm iop nm w ho hf1 hs ht hd ha hi
  · exact word_88 op o f s t d a imm iop nm w ho hf1 hs ht hd ha hi
  · exact word_72 op o f s t d a imm iop nm w ho hf1 hs ht hd ha hi
  · exact word_77 op o f s t d a imm iop nm w ho hf1 hs ht hd ha hi
  · exact word_70 op o f s t d a imm iop nm w ho hf1 hs ht hd ha hi
  · exact word_76 op o f s t d a imm iop nm w ho hf1 hs ht hd ha hi
  · exact word_71 op o f s t d a imm iop nm w ho hf1 hs ht hd ha hi
  · exact word_84 op o f s t d a imm iop nm w ho hf1 hs ht hd ha hi
  · exact word_67 op o f s t d a imm iop nm w ho hf1 hs ht hd ha hi
  · exact word_89 op o f s t d a imm iop nm w ho hf1 hs ht hd ha hi
  · exact word_86 op o f s t d a imm iop nm w ho hf1 hs ht hd ha hi
  · exact word_90 op o f s t d a imm iop nm w ho hf1 hs ht hd ha hi
  · exact word_82 op o f s t d a imm iop nm w ho (hf2 rfl) hs ht hd ha hi
  · exact word_73 op o f s t d a imm iop nm w ho hf1 hs ht hd ha hi
  · exact word_85 op o f s t d a imm iop nm w ho hf1 hs ht hd ha hi
  · exact word_80 op o f s t d a imm iop nm w ho hf1 hs ht hd ha hi
  · exact word_66 op o f s t d a imm iop nm w ho hf1 hs ht hd ha hi
  · exact word_74 op o f s t d a imm iop nm w ho hf1 hs ht hd ha hi
theorem refRows_ok : ∀ r ∈ refRows, FormOk r.2.1 ∧ r.2.2.1 < 64 ∧ r.2.2.2.1 < 64 ∧ (r.2.1 = 82 → r.2.2.2.1 < 32) := by decide +kernel
theorem refRows_length : refRows.length = 69 := by decide +kernel
abbrev RRow := Nat × Nat × Nat × Nat × List UInt8
def rrow (k : Nat) : RRow := refRows.getD k (0, 0, 0, 0, [])
theorem rrow_get (k : Nat) (hk : k < 69) : refRows[k]? = some (rrow k) := by
  have hl : k < refRows.length := by rw [refRows_length]; exact hk
  rw [rrow, List.getD, List.getElem?_eq_getElem hl]; rfl
theorem rrow_mem (k : Nat) (hk : k < 69) : rrow k ∈ refRows := List.mem_of_getElem? (rrow_get k hk)
theorem rrow_op : ∀ k, k < 69 → (rrow k).1 = k + 1 := by decide +kernel
def rrVals (r : RRow) : Array Value := refVals r.1 r.2.1 r.2.2.1 r.2.2.2.1 ⟨r.2.2.2.2.toArray⟩
theorem ref_cell (k j : Nat) (hk : k < 69) (hj : j < 5) : refTable[k * 5 + j]? = (rrVals (rrow k)).toList[j]? := by
  have h := flat_get refCells 5 (fun _ => rfl) refRows k j hj
  rw [rrow_get k hk] at h
  simpa [refTable, rrVals, refVals, refCells] using h
end Go.Proofs.Ytjoaenfibkgplaa
