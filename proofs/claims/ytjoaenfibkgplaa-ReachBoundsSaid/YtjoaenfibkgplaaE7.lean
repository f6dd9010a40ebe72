import Derived.Test.YtjoaenfibkgplaaE6
namespace Go.Proofs.Ytjoaenfibkgplaa
set_option linter.unusedSimpArgs false
open Go.RowKit Go.Cq
set_option linter.unusedVariables false
/-- 'calqueref01.Field': nothing is laid. -/
theorem rfield_eq (x a n : Nat) (w : World) (hx : x < 4294967296) (ha : a ≤ 31) (hn : n + a ≤ 32) (hn1 : 1 ≤ n) :
    Calls Try.prog 94 #[.int .u32 (x : Int), .int .i64 (a : Int), .int .i64 (n : Int)] w fun e w' => e = .returned (.int .u32 (fld x a n : Nat)) ∧ w = w' := by
  have hp : (0 : Int) < n := by omega
  by_cases h0 : a = 0
  · subst h0
    have h := fld_eq x 0 n hx (by omega)
    have H := Lib.hid h
    clear h
    go_enter Try.func94, Try.ntmps94
    go_wp2
    go_ret
    refine ⟨ret_u32 ?_, rfl⟩
    rw [← H.out]; simp
  · have hp2 : (0 : Int) < a := by omega
    have H := Lib.hid (fld_eq x a n hx (by omega))
    go_enter Try.func94, Try.ntmps94
    go_wp2
    go_ret
    exact ⟨ret_u32 H.out, rfl⟩
theorem rfield_to (x : Nat) (a n : Int) (v : Nat) (w : World) (hx : x < 4294967296) (ha : 0 ≤ a ∧ a ≤ 31) (hn : 1 ≤ n ∧ n + a ≤ 32) (hv : Hid (fld x a.toNat n.toNat = v)) :
    Calls Try.prog 94 #[.int .u32 (x : Int), .int .i64 a, .int .i64 n] w fun e w' => e = .returned (.int .u32 (v : Int)) ∧ w = w' := by
  obtain ⟨i, rfl⟩ := Int.eq_ofNat_of_zero_le ha.1
  obtain ⟨j, rfl⟩ := Int.eq_ofNat_of_zero_le (show 0 ≤ n by omega)
  rw [Int.toNat_natCast, Int.toNat_natCast] at hv
  rw [← hv.out]; exact rfield_eq x i j w hx (by omega) (by omega) (by omega)
theorem ret_bool {a b : Bool} (h : a = b) : Ending.returned (.bool a) = .returned (.bool b) := by rw [h]
/-- What a row asks of a word, behind its first six bits. -/
def fitsIn (form f x : Nat) : Bool :=
  if form = 68 ∨ form = 88 then fld x 0 6 == f && fld x 6 5 == 0
  else if form = 72 then fld x 0 6 == f && fld x 21 5 == 0
  else if form = 77 then fld x 0 6 == f && fld x 11 5 == 0 && fld x 6 5 == 0
  else if form = 70 then fld x 0 6 == f && fld x 21 5 == 0 && fld x 16 5 == 0 && fld x 6 5 == 0
  else if form = 76 then fld x 0 6 == f && fld x 16 5 == 0 && fld x 11 5 == 0 && fld x 6 5 == 0
  else if form = 71 then fld x 0 6 == f && fld x 16 5 == 0 && fld x 6 5 == 0
  else if form = 84 ∨ form = 67 then fld x 0 6 == f
  else if form = 89 then fld x 0 6 == f && fld x 6 5 == 0 && fld x 16 5 == fld x 11 5
  else if form = 86 then fld x 21 5 == 0
  else if form = 90 then fld x 16 5 == 0
  else if form = 82 then fld x 16 5 == f
  else true
def fitsN (form o f x : Nat) : Bool := x / 67108864 == o && fitsIn form f x
set_option maxRecDepth 4000 in
theorem fits_68_0 (x op s t d a k f o : Nat) (nm : ByteArray) (w : World) (hx : x < 4294967296) (hs : Hid (fld x 21 5 = s)) (ht : Hid (fld x 16 5 = t)) (hd : Hid (fld x 11 5 = d)) (ha : Hid (fld x 6 5 = a)) (hk : Hid (fld x 0 6 = k)) (ho : ¬ (x : Int) / 67108864 = (o : Int)) (bs : s < 64) (bt : t < 64) (bd : d < 64) (ba : a < 64) (bk : k < 64) :
    Calls Try.prog 49 #[.agg #[.int .i64 (op : Int), .int .u8 68, .int .i64 ((o : Int)), .int .i64 (f : Int), .string nm], .int .u32 (x : Int)] w fun e w' => e = .returned (.bool false) ∧ Below w.heap.size w w' := by
  go_enter Try.func49, Try.ntmps49
  go_wp2_with fail
  refine (rfield_to x 21 5 _ _ hx (by decide) (by decide) hs).mono ?_; rintro e w1 ⟨rfl, rfl⟩
  go_wp2_with fail
  refine (rfield_to x 16 5 _ _ hx (by decide) (by decide) ht).mono ?_; rintro e w1 ⟨rfl, rfl⟩
  go_wp2_with fail
  refine (rfield_to x 11 5 _ _ hx (by decide) (by decide) hd).mono ?_; rintro e w1 ⟨rfl, rfl⟩
  go_wp2_with fail
  refine (rfield_to x 6 5 _ _ hx (by decide) (by decide) ha).mono ?_; rintro e w1 ⟨rfl, rfl⟩
  go_wp2_with fail
  refine (rfield_to x 0 6 _ _ hx (by decide) (by decide) hk).mono ?_; rintro e w1 ⟨rfl, rfl⟩
  go_wp2
  go_ret
  refine ⟨ret_bool ?_, (Below.refl _ _).alloc (Nat.le_refl _) _⟩
  first | rfl | (simp; done) | (simp; omega)
set_option maxRecDepth 4000 in
theorem fits_68_1 (x op s t d a k f : Nat) (nm : ByteArray) (w : World) (hx : x < 4294967296) (hs : Hid (fld x 21 5 = s)) (ht : Hid (fld x 16 5 = t)) (hd : Hid (fld x 11 5 = d)) (ha : Hid (fld x 6 5 = a)) (hk : Hid (fld x 0 6 = k)) (hn : ¬ (k : Int) = (f : Int)) (bs : s < 64) (bt : t < 64) (bd : d < 64) (ba : a < 64) (bk : k < 64) :
    Calls Try.prog 49 #[.agg #[.int .i64 (op : Int), .int .u8 68, .int .i64 ((x : Int) / 67108864), .int .i64 (f : Int), .string nm], .int .u32 (x : Int)] w fun e w' => e = .returned (.bool false) ∧ Below w.heap.size w w' := by
  go_enter Try.func49, Try.ntmps49
  go_wp2_with fail
  refine (rfield_to x 21 5 _ _ hx (by decide) (by decide) hs).mono ?_; rintro e w1 ⟨rfl, rfl⟩
  go_wp2_with fail
  refine (rfield_to x 16 5 _ _ hx (by decide) (by decide) ht).mono ?_; rintro e w1 ⟨rfl, rfl⟩
  go_wp2_with fail
  refine (rfield_to x 11 5 _ _ hx (by decide) (by decide) hd).mono ?_; rintro e w1 ⟨rfl, rfl⟩
  go_wp2_with fail
  refine (rfield_to x 6 5 _ _ hx (by decide) (by decide) ha).mono ?_; rintro e w1 ⟨rfl, rfl⟩
  go_wp2_with fail
  refine (rfield_to x 0 6 _ _ hx (by decide) (by decide) hk).mono ?_; rintro e w1 ⟨rfl, rfl⟩
  go_wp2
  go_ret
  refine ⟨ret_bool ?_, (Below.refl _ _).alloc (Nat.le_refl _) _⟩
  first | rfl | (simp; done) | (simp; omega)
set_option maxRecDepth 4000 in
theorem fits_68_2 (x op s t d a k : Nat) (nm : ByteArray) (w : World) (hx : x < 4294967296) (hs : Hid (fld x 21 5 = s)) (ht : Hid (fld x 16 5 = t)) (hd : Hid (fld x 11 5 = d)) (ha : Hid (fld x 6 5 = a)) (hk : Hid (fld x 0 6 = k)) (hn : ¬ (a : Int) = 0) (bs : s < 64) (bt : t < 64) (bd : d < 64) (ba : a < 64) (bk : k < 64) :
    Calls Try.prog 49 #[.agg #[.int .i64 (op : Int), .int .u8 68, .int .i64 ((x : Int) / 67108864), .int .i64 (k : Int), .string nm], .int .u32 (x : Int)] w fun e w' => e = .returned (.bool false) ∧ Below w.heap.size w w' := by
  go_enter Try.func49, Try.ntmps49
  go_wp2_with fail
  refine (rfield_to x 21 5 _ _ hx (by decide) (by decide) hs).mono ?_; rintro e w1 ⟨rfl, rfl⟩
  go_wp2_with fail
  refine (rfield_to x 16 5 _ _ hx (by decide) (by decide) ht).mono ?_; rintro e w1 ⟨rfl, rfl⟩
  go_wp2_with fail
  refine (rfield_to x 11 5 _ _ hx (by decide) (by decide) hd).mono ?_; rintro e w1 ⟨rfl, rfl⟩
  go_wp2_with fail
  refine (rfield_to x 6 5 _ _ hx (by decide) (by decide) ha).mono ?_; rintro e w1 ⟨rfl, rfl⟩
  go_wp2_with fail
  refine (rfield_to x 0 6 _ _ hx (by decide) (by decide) hk).mono ?_; rintro e w1 ⟨rfl, rfl⟩
  go_wp2
  go_ret
  refine ⟨ret_bool ?_, (Below.refl _ _).alloc (Nat.le_refl _) _⟩
  first | rfl | (simp; done) | (simp; omega)
set_option maxRecDepth 4000 in
theorem fits_68_3 (x op s t d k : Nat) (nm : ByteArray) (w : World) (hx : x < 4294967296) (hs : Hid (fld x 21 5 = s)) (ht : Hid (fld x 16 5 = t)) (hd : Hid (fld x 11 5 = d)) (ha : Hid (fld x 6 5 = 0)) (hk : Hid (fld x 0 6 = k)) (bs : s < 64) (bt : t < 64) (bd : d < 64) (bk : k < 64) :
    Calls Try.prog 49 #[.agg #[.int .i64 (op : Int), .int .u8 68, .int .i64 ((x : Int) / 67108864), .int .i64 (k : Int), .string nm], .int .u32 (x : Int)] w fun e w' => e = .returned (.bool true) ∧ Below w.heap.size w w' := by
  go_enter Try.func49, Try.ntmps49
  go_wp2_with fail
  refine (rfield_to x 21 5 _ _ hx (by decide) (by decide) hs).mono ?_; rintro e w1 ⟨rfl, rfl⟩
  go_wp2_with fail
  refine (rfield_to x 16 5 _ _ hx (by decide) (by decide) ht).mono ?_; rintro e w1 ⟨rfl, rfl⟩
  go_wp2_with fail
  refine (rfield_to x 11 5 _ _ hx (by decide) (by decide) hd).mono ?_; rintro e w1 ⟨rfl, rfl⟩
  go_wp2_with fail
  refine (rfield_to x 6 5 _ _ hx (by decide) (by decide) ha).mono ?_; rintro e w1 ⟨rfl, rfl⟩
  go_wp2_with fail
  refine (rfield_to x 0 6 _ _ hx (by decide) (by decide) hk).mono ?_; rintro e w1 ⟨rfl, rfl⟩
  go_wp2
  go_ret
  refine ⟨ret_bool ?_, (Below.refl _ _).alloc (Nat.le_refl _) _⟩
  first | rfl | (simp; done) | (simp; omega)
set_option maxRecDepth 4000 in
theorem fits_88_0 (x op s t d a k f o : Nat) (nm : ByteArray) (w : World) (hx : x < 4294967296) (hs : Hid (fld x 21 5 = s)) (ht : Hid (fld x 16 5 = t)) (hd : Hid (fld x 11 5 = d)) (ha : Hid (fld x 6 5 = a)) (hk : Hid (fld x 0 6 = k)) (ho : ¬ (x : Int) / 67108864 = (o : Int)) (bs : s < 64) (bt : t < 64) (bd : d < 64) (ba : a < 64) (bk : k < 64) :
    Calls Try.prog 49 #[.agg #[.int .i64 (op : Int), .int .u8 88, .int .i64 ((o : Int)), .int .i64 (f : Int), .string nm], .int .u32 (x : Int)] w fun e w' => e = .returned (.bool false) ∧ Below w.heap.size w w' := by
  go_enter Try.func49, Try.ntmps49
  go_wp2_with fail
  refine (rfield_to x 21 5 _ _ hx (by decide) (by decide) hs).mono ?_; rintro e w1 ⟨rfl, rfl⟩
  go_wp2_with fail
  refine (rfield_to x 16 5 _ _ hx (by decide) (by decide) ht).mono ?_; rintro e w1 ⟨rfl, rfl⟩
  go_wp2_with fail
  refine (rfield_to x 11 5 _ _ hx (by decide) (by decide) hd).mono ?_; rintro e w1 ⟨rfl, rfl⟩
  go_wp2_with fail
  refine (rfield_to x 6 5 _ _ hx (by decide) (by decide) ha).mono ?_; rintro e w1 ⟨rfl, rfl⟩
  go_wp2_with fail
  refine (rfield_to x 0 6 _ _ hx (by decide) (by decide) hk).mono ?_; rintro e w1 ⟨rfl, rfl⟩
  go_wp2
  go_ret
  refine ⟨ret_bool ?_, (Below.refl _ _).alloc (Nat.le_refl _) _⟩
  first | rfl | (simp; done) | (simp; omega)
set_option maxRecDepth 4000 in
theorem fits_88_1 (x op s t d a k f : Nat) (nm : ByteArray) (w : World) (hx : x < 4294967296) (hs : Hid (fld x 21 5 = s)) (ht : Hid (fld x 16 5 = t)) (hd : Hid (fld x 11 5 = d)) (ha : Hid (fld x 6 5 = a)) (hk : Hid (fld x 0 6 = k)) (hn : ¬ (k : Int) = (f : Int)) (bs : s < 64) (bt : t < 64) (bd : d < 64) (ba : a < 64) (bk : k < 64) :
    Calls Try.prog 49 #[.agg #[.int .i64 (op : Int), .int .u8 88, .int .i64 ((x : Int) / 67108864), .int .i64 (f : Int), .string nm], .int .u32 (x : Int)] w fun e w' => e = .returned (.bool false) ∧ Below w.heap.size w w' := by
  go_enter Try.func49, Try.ntmps49
  go_wp2_with fail
  refine (rfield_to x 21 5 _ _ hx (by decide) (by decide) hs).mono ?_; rintro e w1 ⟨rfl, rfl⟩
  go_wp2_with fail
  refine (rfield_to x 16 5 _ _ hx (by decide) (by decide) ht).mono ?_; rintro e w1 ⟨rfl, rfl⟩
  go_wp2_with fail
  refine (rfield_to x 11 5 _ _ hx (by decide) (by decide) hd).mono ?_; rintro e w1 ⟨rfl, rfl⟩
  go_wp2_with fail
  refine (rfield_to x 6 5 _ _ hx (by decide) (by decide) ha).mono ?_; rintro e w1 ⟨rfl, rfl⟩
  go_wp2_with fail
  refine (rfield_to x 0 6 _ _ hx (by decide) (by decide) hk).mono ?_; rintro e w1 ⟨rfl, rfl⟩
  go_wp2
  go_ret
  refine ⟨ret_bool ?_, (Below.refl _ _).alloc (Nat.le_refl _) _⟩
  first | rfl | (simp; done) | (simp; omega)
set_option maxRecDepth 4000 in
theorem fits_88_2 (x op s t d a k : Nat) (nm : ByteArray) (w : World) (hx : x < 4294967296) (hs : Hid (fld x 21 5 = s)) (ht : Hid (fld x 16 5 = t)) (hd : Hid (fld x 11 5 = d)) (ha : Hid (fld x 6 5 = a)) (hk : Hid (fld x 0 6 = k)) (hn : ¬ (a : Int) = 0) (bs : s < 64) (bt : t < 64) (bd : d < 64) (ba : a < 64) (bk : k < 64) :
    Calls Try.prog 49 #[.agg #[.int .i64 (op : Int), .int .u8 88, .int .i64 ((x : Int) / 67108864), .int .i64 (k : Int), .string nm], .int .u32 (x : Int)] w fun e w' => e = .returned (.bool false) ∧ Below w.heap.size w w' := by
  go_enter Try.func49, Try.ntmps49
  go_wp2_with fail
  refine (rfield_to x 21 5 _ _ hx (by decide) (by decide) hs).mono ?_; rintro e w1 ⟨rfl, rfl⟩
  go_wp2_with fail
  refine (rfield_to x 16 5 _ _ hx (by decide) (by decide) ht).mono ?_; rintro e w1 ⟨rfl, rfl⟩
  go_wp2_with fail
  refine (rfield_to x 11 5 _ _ hx (by decide) (by decide) hd).mono ?_; rintro e w1 ⟨rfl, rfl⟩
  go_wp2_with fail
  refine (rfield_to x 6 5 _ _ hx (by decide) (by decide) ha).mono ?_; rintro e w1 ⟨rfl, rfl⟩
  go_wp2_with fail
  refine (rfield_to x 0 6 _ _ hx (by decide) (by decide) hk).mono ?_; rintro e w1 ⟨rfl, rfl⟩
  go_wp2
  go_ret
  refine ⟨ret_bool ?_, (Below.refl _ _).alloc (Nat.le_refl _) _⟩
  first | rfl | (simp; done) | (simp; omega)
set_option maxRecDepth 4000 in
theorem fits_88_3 (x op s t d k : Nat) (nm : ByteArray) (w : World) (hx : x < 4294967296) (hs : Hid (fld x 21 5 = s)) (ht : Hid (fld x 16 5 = t)) (hd : Hid (fld x 11 5 = d)) (ha : Hid (fld x 6 5 = 0)) (hk : Hid (fld x 0 6 = k)) (bs : s < 64) (bt : t < 64) (bd : d < 64) (bk : k < 64) :
    Calls Try.prog 49 #[.agg #[.int .i64 (op : Int), .int .u8 88, .int .i64 ((x : Int) / 67108864), .int .i64 (k : Int), .string nm], .int .u32 (x : Int)] w fun e w' => e = .returned (.bool true) ∧ Below w.heap.size w w' := by
  go_enter Try.func49, Try.ntmps49
  go_wp2_with fail
  refine (rfield_to x 21 5 _ _ hx (by decide) (by decide) hs).mono ?_; rintro e w1 ⟨rfl, rfl⟩
  go_wp2_with fail
  refine (rfield_to x 16 5 _ _ hx (by decide) (by decide) ht).mono ?_; rintro e w1 ⟨rfl, rfl⟩
  go_wp2_with fail
  refine (rfield_to x 11 5 _ _ hx (by decide) (by decide) hd).mono ?_; rintro e w1 ⟨rfl, rfl⟩
  go_wp2_with fail
  refine (rfield_to x 6 5 _ _ hx (by decide) (by decide) ha).mono ?_; rintro e w1 ⟨rfl, rfl⟩
  go_wp2_with fail
  refine (rfield_to x 0 6 _ _ hx (by decide) (by decide) hk).mono ?_; rintro e w1 ⟨rfl, rfl⟩
  go_wp2
  go_ret
  refine ⟨ret_bool ?_, (Below.refl _ _).alloc (Nat.le_refl _) _⟩
  first | rfl | (simp; done) | (simp; omega)
set_option maxRecDepth 4000 in
theorem fits_72_0 (x op s t d a k f o : Nat) (nm : ByteArray) (w : World) (hx : x < 4294967296) (hs : Hid (fld x 21 5 = s)) (ht : Hid (fld x 16 5 = t)) (hd : Hid (fld x 11 5 = d)) (ha : Hid (fld x 6 5 = a)) (hk : Hid (fld x 0 6 = k)) (ho : ¬ (x : Int) / 67108864 = (o : Int)) (bs : s < 64) (bt : t < 64) (bd : d < 64) (ba : a < 64) (bk : k < 64) :
    Calls Try.prog 49 #[.agg #[.int .i64 (op : Int), .int .u8 72, .int .i64 ((o : Int)), .int .i64 (f : Int), .string nm], .int .u32 (x : Int)] w fun e w' => e = .returned (.bool false) ∧ Below w.heap.size w w' := by
  go_enter Try.func49, Try.ntmps49
  go_wp2_with fail
  refine (rfield_to x 21 5 _ _ hx (by decide) (by decide) hs).mono ?_; rintro e w1 ⟨rfl, rfl⟩
  go_wp2_with fail
  refine (rfield_to x 16 5 _ _ hx (by decide) (by decide) ht).mono ?_; rintro e w1 ⟨rfl, rfl⟩
  go_wp2_with fail
  refine (rfield_to x 11 5 _ _ hx (by decide) (by decide) hd).mono ?_; rintro e w1 ⟨rfl, rfl⟩
  go_wp2_with fail
  refine (rfield_to x 6 5 _ _ hx (by decide) (by decide) ha).mono ?_; rintro e w1 ⟨rfl, rfl⟩
  go_wp2_with fail
  refine (rfield_to x 0 6 _ _ hx (by decide) (by decide) hk).mono ?_; rintro e w1 ⟨rfl, rfl⟩
  go_wp2
  go_ret
  refine ⟨ret_bool ?_, (Below.refl _ _).alloc (Nat.le_refl _) _⟩
  first | rfl | (simp; done) | (simp; omega)
set_option maxRecDepth 4000 in
theorem fits_72_1 (x op s t d a k f : Nat) (nm : ByteArray) (w : World) (hx : x < 4294967296) (hs : Hid (fld x 21 5 = s)) (ht : Hid (fld x 16 5 = t)) (hd : Hid (fld x 11 5 = d)) (ha : Hid (fld x 6 5 = a)) (hk : Hid (fld x 0 6 = k)) (hn : ¬ (k : Int) = (f : Int)) (bs : s < 64) (bt : t < 64) (bd : d < 64) (ba : a < 64) (bk : k < 64) :
    Calls Try.prog 49 #[.agg #[.int .i64 (op : Int), .int .u8 72, .int .i64 ((x : Int) / 67108864), .int .i64 (f : Int), .string nm], .int .u32 (x : Int)] w fun e w' => e = .returned (.bool false) ∧ Below w.heap.size w w' := by
  go_enter Try.func49, Try.ntmps49
  go_wp2_with fail
  refine (rfield_to x 21 5 _ _ hx (by decide) (by decide) hs).mono ?_; rintro e w1 ⟨rfl, rfl⟩
  go_wp2_with fail
  refine (rfield_to x 16 5 _ _ hx (by decide) (by decide) ht).mono ?_; rintro e w1 ⟨rfl, rfl⟩
  go_wp2_with fail
  refine (rfield_to x 11 5 _ _ hx (by decide) (by decide) hd).mono ?_; rintro e w1 ⟨rfl, rfl⟩
  go_wp2_with fail
  refine (rfield_to x 6 5 _ _ hx (by decide) (by decide) ha).mono ?_; rintro e w1 ⟨rfl, rfl⟩
  go_wp2_with fail
  refine (rfield_to x 0 6 _ _ hx (by decide) (by decide) hk).mono ?_; rintro e w1 ⟨rfl, rfl⟩
  go_wp2
  go_ret
  refine ⟨ret_bool ?_, (Below.refl _ _).alloc (Nat.le_refl _) _⟩
  first | rfl | (simp; done) | (simp; omega)
set_option maxRecDepth 4000 in
theorem fits_72_2 (x op s t d a k : Nat) (nm : ByteArray) (w : World) (hx : x < 4294967296) (hs : Hid (fld x 21 5 = s)) (ht : Hid (fld x 16 5 = t)) (hd : Hid (fld x 11 5 = d)) (ha : Hid (fld x 6 5 = a)) (hk : Hid (fld x 0 6 = k)) (hn : ¬ (s : Int) = 0) (bs : s < 64) (bt : t < 64) (bd : d < 64) (ba : a < 64) (bk : k < 64) :
    Calls Try.prog 49 #[.agg #[.int .i64 (op : Int), .int .u8 72, .int .i64 ((x : Int) / 67108864), .int .i64 (k : Int), .string nm], .int .u32 (x : Int)] w fun e w' => e = .returned (.bool false) ∧ Below w.heap.size w w' := by
  go_enter Try.func49, Try.ntmps49
  go_wp2_with fail
  refine (rfield_to x 21 5 _ _ hx (by decide) (by decide) hs).mono ?_; rintro e w1 ⟨rfl, rfl⟩
  go_wp2_with fail
  refine (rfield_to x 16 5 _ _ hx (by decide) (by decide) ht).mono ?_; rintro e w1 ⟨rfl, rfl⟩
  go_wp2_with fail
  refine (rfield_to x 11 5 _ _ hx (by decide) (by decide) hd).mono ?_; rintro e w1 ⟨rfl, rfl⟩
  go_wp2_with fail
  refine (rfield_to x 6 5 _ _ hx (by decide) (by decide) ha).mono ?_; rintro e w1 ⟨rfl, rfl⟩
  go_wp2_with fail
  refine (rfield_to x 0 6 _ _ hx (by decide) (by decide) hk).mono ?_; rintro e w1 ⟨rfl, rfl⟩
  go_wp2
  go_ret
  refine ⟨ret_bool ?_, (Below.refl _ _).alloc (Nat.le_refl _) _⟩
  first | rfl | (simp; done) | (simp; omega)
set_option maxRecDepth 4000 in
theorem fits_72_3 (x op t d a k : Nat) (nm : ByteArray) (w : World) (hx : x < 4294967296) (hs : Hid (fld x 21 5 = 0)) (ht : Hid (fld x 16 5 = t)) (hd : Hid (fld x 11 5 = d)) (ha : Hid (fld x 6 5 = a)) (hk : Hid (fld x 0 6 = k)) (bt : t < 64) (bd : d < 64) (ba : a < 64) (bk : k < 64) :
    Calls Try.prog 49 #[.agg #[.int .i64 (op : Int), .int .u8 72, .int .i64 ((x : Int) / 67108864), .int .i64 (k : Int), .string nm], .int .u32 (x : Int)] w fun e w' => e = .returned (.bool true) ∧ Below w.heap.size w w' := by
  go_enter Try.func49, Try.ntmps49
  go_wp2_with fail
  refine (rfield_to x 21 5 _ _ hx (by decide) (by decide) hs).mono ?_; rintro e w1 ⟨rfl, rfl⟩
  go_wp2_with fail
  refine (rfield_to x 16 5 _ _ hx (by decide) (by decide) ht).mono ?_; rintro e w1 ⟨rfl, rfl⟩
  go_wp2_with fail
  refine (rfield_to x 11 5 _ _ hx (by decide) (by decide) hd).mono ?_; rintro e w1 ⟨rfl, rfl⟩
  go_wp2_with fail
  refine (rfield_to x 6 5 _ _ hx (by decide) (by decide) ha).mono ?_; rintro e w1 ⟨rfl, rfl⟩
  go_wp2_with fail
  refine (rfield_to x 0 6 _ _ hx (by decide) (by decide) hk).mono ?_; rintro e w1 ⟨rfl, rfl⟩
  go_wp2
  go_ret
  refine ⟨ret_bool ?_, (Below.refl _ _).alloc (Nat.le_refl _) _⟩
  first | rfl | (simp; done) | (simp; omega)
set_option maxRecDepth 4000 in
theorem fits_77_0 (x op s t d a k f o : Nat) (nm : ByteArray) (w : World) (hx : x < 4294967296) (hs : Hid (fld x 21 5 = s)) (ht : Hid (fld x 16 5 = t)) (hd : Hid (fld x 11 5 = d)) (ha : Hid (fld x 6 5 = a)) (hk : Hid (fld x 0 6 = k)) (ho : ¬ (x : Int) / 67108864 = (o : Int)) (bs : s < 64) (bt : t < 64) (bd : d < 64) (ba : a < 64) (bk : k < 64) :
    Calls Try.prog 49 #[.agg #[.int .i64 (op : Int), .int .u8 77, .int .i64 ((o : Int)), .int .i64 (f : Int), .string nm], .int .u32 (x : Int)] w fun e w' => e = .returned (.bool false) ∧ Below w.heap.size w w' := by
  go_enter Try.func49, Try.ntmps49
  go_wp2_with fail
  refine (rfield_to x 21 5 _ _ hx (by decide) (by decide) hs).mono ?_; rintro e w1 ⟨rfl, rfl⟩
  go_wp2_with fail
  refine (rfield_to x 16 5 _ _ hx (by decide) (by decide) ht).mono ?_; rintro e w1 ⟨rfl, rfl⟩
  go_wp2_with fail
  refine (rfield_to x 11 5 _ _ hx (by decide) (by decide) hd).mono ?_; rintro e w1 ⟨rfl, rfl⟩
  go_wp2_with fail
  refine (rfield_to x 6 5 _ _ hx (by decide) (by decide) ha).mono ?_; rintro e w1 ⟨rfl, rfl⟩
  go_wp2_with fail
  refine (rfield_to x 0 6 _ _ hx (by decide) (by decide) hk).mono ?_; rintro e w1 ⟨rfl, rfl⟩
  go_wp2
  go_ret
  refine ⟨ret_bool ?_, (Below.refl _ _).alloc (Nat.le_refl _) _⟩
  first | rfl | (simp; done) | (simp; omega)
set_option maxRecDepth 4000 in
theorem fits_77_1 (x op s t d a k f : Nat) (nm : ByteArray) (w : World) (hx : x < 4294967296) (hs : Hid (fld x 21 5 = s)) (ht : Hid (fld x 16 5 = t)) (hd : Hid (fld x 11 5 = d)) (ha : Hid (fld x 6 5 = a)) (hk : Hid (fld x 0 6 = k)) (hn : ¬ (k : Int) = (f : Int)) (bs : s < 64) (bt : t < 64) (bd : d < 64) (ba : a < 64) (bk : k < 64) :
    Calls Try.prog 49 #[.agg #[.int .i64 (op : Int), .int .u8 77, .int .i64 ((x : Int) / 67108864), .int .i64 (f : Int), .string nm], .int .u32 (x : Int)] w fun e w' => e = .returned (.bool false) ∧ Below w.heap.size w w' := by
  go_enter Try.func49, Try.ntmps49
  go_wp2_with fail
  refine (rfield_to x 21 5 _ _ hx (by decide) (by decide) hs).mono ?_; rintro e w1 ⟨rfl, rfl⟩
  go_wp2_with fail
  refine (rfield_to x 16 5 _ _ hx (by decide) (by decide) ht).mono ?_; rintro e w1 ⟨rfl, rfl⟩
  go_wp2_with fail
  refine (rfield_to x 11 5 _ _ hx (by decide) (by decide) hd).mono ?_; rintro e w1 ⟨rfl, rfl⟩
  go_wp2_with fail
  refine (rfield_to x 6 5 _ _ hx (by decide) (by decide) ha).mono ?_; rintro e w1 ⟨rfl, rfl⟩
  go_wp2_with fail
  refine (rfield_to x 0 6 _ _ hx (by decide) (by decide) hk).mono ?_; rintro e w1 ⟨rfl, rfl⟩
  go_wp2
  go_ret
  refine ⟨ret_bool ?_, (Below.refl _ _).alloc (Nat.le_refl _) _⟩
  first | rfl | (simp; done) | (simp; omega)
set_option maxRecDepth 4000 in
theorem fits_77_2 (x op s t d a k : Nat) (nm : ByteArray) (w : World) (hx : x < 4294967296) (hs : Hid (fld x 21 5 = s)) (ht : Hid (fld x 16 5 = t)) (hd : Hid (fld x 11 5 = d)) (ha : Hid (fld x 6 5 = a)) (hk : Hid (fld x 0 6 = k)) (hn : ¬ (d : Int) = 0) (bs : s < 64) (bt : t < 64) (bd : d < 64) (ba : a < 64) (bk : k < 64) :
    Calls Try.prog 49 #[.agg #[.int .i64 (op : Int), .int .u8 77, .int .i64 ((x : Int) / 67108864), .int .i64 (k : Int), .string nm], .int .u32 (x : Int)] w fun e w' => e = .returned (.bool false) ∧ Below w.heap.size w w' := by
  go_enter Try.func49, Try.ntmps49
  go_wp2_with fail
  refine (rfield_to x 21 5 _ _ hx (by decide) (by decide) hs).mono ?_; rintro e w1 ⟨rfl, rfl⟩
  go_wp2_with fail
  refine (rfield_to x 16 5 _ _ hx (by decide) (by decide) ht).mono ?_; rintro e w1 ⟨rfl, rfl⟩
  go_wp2_with fail
  refine (rfield_to x 11 5 _ _ hx (by decide) (by decide) hd).mono ?_; rintro e w1 ⟨rfl, rfl⟩
  go_wp2_with fail
  refine (rfield_to x 6 5 _ _ hx (by decide) (by decide) ha).mono ?_; rintro e w1 ⟨rfl, rfl⟩
  go_wp2_with fail
  refine (rfield_to x 0 6 _ _ hx (by decide) (by decide) hk).mono ?_; rintro e w1 ⟨rfl, rfl⟩
  go_wp2
  go_ret
  refine ⟨ret_bool ?_, (Below.refl _ _).alloc (Nat.le_refl _) _⟩
  first | rfl | (simp; done) | (simp; omega)
set_option maxRecDepth 4000 in
theorem fits_77_3 (x op s t a k : Nat) (nm : ByteArray) (w : World) (hx : x < 4294967296) (hs : Hid (fld x 21 5 = s)) (ht : Hid (fld x 16 5 = t)) (hd : Hid (fld x 11 5 = 0)) (ha : Hid (fld x 6 5 = a)) (hk : Hid (fld x 0 6 = k)) (hn : ¬ (a : Int) = 0) (bs : s < 64) (bt : t < 64) (ba : a < 64) (bk : k < 64) :
    Calls Try.prog 49 #[.agg #[.int .i64 (op : Int), .int .u8 77, .int .i64 ((x : Int) / 67108864), .int .i64 (k : Int), .string nm], .int .u32 (x : Int)] w fun e w' => e = .returned (.bool false) ∧ Below w.heap.size w w' := by
  go_enter Try.func49, Try.ntmps49
  go_wp2_with fail
  refine (rfield_to x 21 5 _ _ hx (by decide) (by decide) hs).mono ?_; rintro e w1 ⟨rfl, rfl⟩
  go_wp2_with fail
  refine (rfield_to x 16 5 _ _ hx (by decide) (by decide) ht).mono ?_; rintro e w1 ⟨rfl, rfl⟩
  go_wp2_with fail
  refine (rfield_to x 11 5 _ _ hx (by decide) (by decide) hd).mono ?_; rintro e w1 ⟨rfl, rfl⟩
  go_wp2_with fail
  refine (rfield_to x 6 5 _ _ hx (by decide) (by decide) ha).mono ?_; rintro e w1 ⟨rfl, rfl⟩
  go_wp2_with fail
  refine (rfield_to x 0 6 _ _ hx (by decide) (by decide) hk).mono ?_; rintro e w1 ⟨rfl, rfl⟩
  go_wp2
  go_ret
  refine ⟨ret_bool ?_, (Below.refl _ _).alloc (Nat.le_refl _) _⟩
  first | rfl | (simp; done) | (simp; omega)
set_option maxRecDepth 4000 in
theorem fits_77_4 (x op s t k : Nat) (nm : ByteArray) (w : World) (hx : x < 4294967296) (hs : Hid (fld x 21 5 = s)) (ht : Hid (fld x 16 5 = t)) (hd : Hid (fld x 11 5 = 0)) (ha : Hid (fld x 6 5 = 0)) (hk : Hid (fld x 0 6 = k)) (bs : s < 64) (bt : t < 64) (bk : k < 64) :
    Calls Try.prog 49 #[.agg #[.int .i64 (op : Int), .int .u8 77, .int .i64 ((x : Int) / 67108864), .int .i64 (k : Int), .string nm], .int .u32 (x : Int)] w fun e w' => e = .returned (.bool true) ∧ Below w.heap.size w w' := by
  go_enter Try.func49, Try.ntmps49
  go_wp2_with fail
  refine (rfield_to x 21 5 _ _ hx (by decide) (by decide) hs).mono ?_; rintro e w1 ⟨rfl, rfl⟩
  go_wp2_with fail
  refine (rfield_to x 16 5 _ _ hx (by decide) (by decide) ht).mono ?_; rintro e w1 ⟨rfl, rfl⟩
  go_wp2_with fail
  refine (rfield_to x 11 5 _ _ hx (by decide) (by decide) hd).mono ?_; rintro e w1 ⟨rfl, rfl⟩
  go_wp2_with fail
  refine (rfield_to x 6 5 _ _ hx (by decide) (by decide) ha).mono ?_; rintro e w1 ⟨rfl, rfl⟩
  go_wp2_with fail
  refine (rfield_to x 0 6 _ _ hx (by decide) (by decide) hk).mono ?_; rintro e w1 ⟨rfl, rfl⟩
  go_wp2
  go_ret
  refine ⟨ret_bool ?_, (Below.refl _ _).alloc (Nat.le_refl _) _⟩
  first | rfl | (simp; done) | (simp; omega)
set_option maxRecDepth 4000 in
theorem fits_70_0 (x op s t d a k f o : Nat) (nm : ByteArray) (w : World) (hx : x < 4294967296) (hs : Hid (fld x 21 5 = s)) (ht : Hid (fld x 16 5 = t)) (hd : Hid (fld x 11 5 = d)) (ha : Hid (fld x 6 5 = a)) (hk : Hid (fld x 0 6 = k)) (ho : ¬ (x : Int) / 67108864 = (o : Int)) (bs : s < 64) (bt : t < 64) (bd : d < 64) (ba : a < 64) (bk : k < 64) :
    Calls Try.prog 49 #[.agg #[.int .i64 (op : Int), .int .u8 70, .int .i64 ((o : Int)), .int .i64 (f : Int), .string nm], .int .u32 (x : Int)] w fun e w' => e = .returned (.bool false) ∧ Below w.heap.size w w' := by
  go_enter Try.func49, Try.ntmps49
  go_wp2_with fail
  refine (rfield_to x 21 5 _ _ hx (by decide) (by decide) hs).mono ?_; rintro e w1 ⟨rfl, rfl⟩
  go_wp2_with fail
  refine (rfield_to x 16 5 _ _ hx (by decide) (by decide) ht).mono ?_; rintro e w1 ⟨rfl, rfl⟩
  go_wp2_with fail
  refine (rfield_to x 11 5 _ _ hx (by decide) (by decide) hd).mono ?_; rintro e w1 ⟨rfl, rfl⟩
  go_wp2_with fail
  refine (rfield_to x 6 5 _ _ hx (by decide) (by decide) ha).mono ?_; rintro e w1 ⟨rfl, rfl⟩
  go_wp2_with fail
  refine (rfield_to x 0 6 _ _ hx (by decide) (by decide) hk).mono ?_; rintro e w1 ⟨rfl, rfl⟩
  go_wp2
  go_ret
  refine ⟨ret_bool ?_, (Below.refl _ _).alloc (Nat.le_refl _) _⟩
  first | rfl | (simp; done) | (simp; omega)
set_option maxRecDepth 4000 in
theorem fits_70_1 (x op s t d a k f : Nat) (nm : ByteArray) (w : World) (hx : x < 4294967296) (hs : Hid (fld x 21 5 = s)) (ht : Hid (fld x 16 5 = t)) (hd : Hid (fld x 11 5 = d)) (ha : Hid (fld x 6 5 = a)) (hk : Hid (fld x 0 6 = k)) (hn : ¬ (k : Int) = (f : Int)) (bs : s < 64) (bt : t < 64) (bd : d < 64) (ba : a < 64) (bk : k < 64) :
    Calls Try.prog 49 #[.agg #[.int .i64 (op : Int), .int .u8 70, .int .i64 ((x : Int) / 67108864), .int .i64 (f : Int), .string nm], .int .u32 (x : Int)] w fun e w' => e = .returned (.bool false) ∧ Below w.heap.size w w' := by
  go_enter Try.func49, Try.ntmps49
  go_wp2_with fail
  refine (rfield_to x 21 5 _ _ hx (by decide) (by decide) hs).mono ?_; rintro e w1 ⟨rfl, rfl⟩
  go_wp2_with fail
  refine (rfield_to x 16 5 _ _ hx (by decide) (by decide) ht).mono ?_; rintro e w1 ⟨rfl, rfl⟩
  go_wp2_with fail
  refine (rfield_to x 11 5 _ _ hx (by decide) (by decide) hd).mono ?_; rintro e w1 ⟨rfl, rfl⟩
  go_wp2_with fail
  refine (rfield_to x 6 5 _ _ hx (by decide) (by decide) ha).mono ?_; rintro e w1 ⟨rfl, rfl⟩
  go_wp2_with fail
  refine (rfield_to x 0 6 _ _ hx (by decide) (by decide) hk).mono ?_; rintro e w1 ⟨rfl, rfl⟩
  go_wp2
  go_ret
  refine ⟨ret_bool ?_, (Below.refl _ _).alloc (Nat.le_refl _) _⟩
  first | rfl | (simp; done) | (simp; omega)
set_option maxRecDepth 4000 in
theorem fits_70_2 (x op s t d a k : Nat) (nm : ByteArray) (w : World) (hx : x < 4294967296) (hs : Hid (fld x 21 5 = s)) (ht : Hid (fld x 16 5 = t)) (hd : Hid (fld x 11 5 = d)) (ha : Hid (fld x 6 5 = a)) (hk : Hid (fld x 0 6 = k)) (hn : ¬ (s : Int) = 0) (bs : s < 64) (bt : t < 64) (bd : d < 64) (ba : a < 64) (bk : k < 64) :
    Calls Try.prog 49 #[.agg #[.int .i64 (op : Int), .int .u8 70, .int .i64 ((x : Int) / 67108864), .int .i64 (k : Int), .string nm], .int .u32 (x : Int)] w fun e w' => e = .returned (.bool false) ∧ Below w.heap.size w w' := by
  go_enter Try.func49, Try.ntmps49
  go_wp2_with fail
  refine (rfield_to x 21 5 _ _ hx (by decide) (by decide) hs).mono ?_; rintro e w1 ⟨rfl, rfl⟩
  go_wp2_with fail
  refine (rfield_to x 16 5 _ _ hx (by decide) (by decide) ht).mono ?_; rintro e w1 ⟨rfl, rfl⟩
  go_wp2_with fail
  refine (rfield_to x 11 5 _ _ hx (by decide) (by decide) hd).mono ?_; rintro e w1 ⟨rfl, rfl⟩
  go_wp2_with fail
  refine (rfield_to x 6 5 _ _ hx (by decide) (by decide) ha).mono ?_; rintro e w1 ⟨rfl, rfl⟩
  go_wp2_with fail
  refine (rfield_to x 0 6 _ _ hx (by decide) (by decide) hk).mono ?_; rintro e w1 ⟨rfl, rfl⟩
  go_wp2
  go_ret
  refine ⟨ret_bool ?_, (Below.refl _ _).alloc (Nat.le_refl _) _⟩
  first | rfl | (simp; done) | (simp; omega)
set_option maxRecDepth 4000 in
theorem fits_70_3 (x op t d a k : Nat) (nm : ByteArray) (w : World) (hx : x < 4294967296) (hs : Hid (fld x 21 5 = 0)) (ht : Hid (fld x 16 5 = t)) (hd : Hid (fld x 11 5 = d)) (ha : Hid (fld x 6 5 = a)) (hk : Hid (fld x 0 6 = k)) (hn : ¬ (t : Int) = 0) (bt : t < 64) (bd : d < 64) (ba : a < 64) (bk : k < 64) :
    Calls Try.prog 49 #[.agg #[.int .i64 (op : Int), .int .u8 70, .int .i64 ((x : Int) / 67108864), .int .i64 (k : Int), .string nm], .int .u32 (x : Int)] w fun e w' => e = .returned (.bool false) ∧ Below w.heap.size w w' := by
  go_enter Try.func49, Try.ntmps49
  go_wp2_with fail
  refine (rfield_to x 21 5 _ _ hx (by decide) (by decide) hs).mono ?_; rintro e w1 ⟨rfl, rfl⟩
  go_wp2_with fail
  refine (rfield_to x 16 5 _ _ hx (by decide) (by decide) ht).mono ?_; rintro e w1 ⟨rfl, rfl⟩
  go_wp2_with fail
  refine (rfield_to x 11 5 _ _ hx (by decide) (by decide) hd).mono ?_; rintro e w1 ⟨rfl, rfl⟩
  go_wp2_with fail
  refine (rfield_to x 6 5 _ _ hx (by decide) (by decide) ha).mono ?_; rintro e w1 ⟨rfl, rfl⟩
  go_wp2_with fail
  refine (rfield_to x 0 6 _ _ hx (by decide) (by decide) hk).mono ?_; rintro e w1 ⟨rfl, rfl⟩
  go_wp2
  go_ret
  refine ⟨ret_bool ?_, (Below.refl _ _).alloc (Nat.le_refl _) _⟩
  first | rfl | (simp; done) | (simp; omega)
set_option maxRecDepth 4000 in
theorem fits_70_4 (x op d a k : Nat) (nm : ByteArray) (w : World) (hx : x < 4294967296) (hs : Hid (fld x 21 5 = 0)) (ht : Hid (fld x 16 5 = 0)) (hd : Hid (fld x 11 5 = d)) (ha : Hid (fld x 6 5 = a)) (hk : Hid (fld x 0 6 = k)) (hn : ¬ (a : Int) = 0) (bd : d < 64) (ba : a < 64) (bk : k < 64) :
    Calls Try.prog 49 #[.agg #[.int .i64 (op : Int), .int .u8 70, .int .i64 ((x : Int) / 67108864), .int .i64 (k : Int), .string nm], .int .u32 (x : Int)] w fun e w' => e = .returned (.bool false) ∧ Below w.heap.size w w' := by
  go_enter Try.func49, Try.ntmps49
  go_wp2_with fail
  refine (rfield_to x 21 5 _ _ hx (by decide) (by decide) hs).mono ?_; rintro e w1 ⟨rfl, rfl⟩
  go_wp2_with fail
  refine (rfield_to x 16 5 _ _ hx (by decide) (by decide) ht).mono ?_; rintro e w1 ⟨rfl, rfl⟩
  go_wp2_with fail
  refine (rfield_to x 11 5 _ _ hx (by decide) (by decide) hd).mono ?_; rintro e w1 ⟨rfl, rfl⟩
  go_wp2_with fail
  refine (rfield_to x 6 5 _ _ hx (by decide) (by decide) ha).mono ?_; rintro e w1 ⟨rfl, rfl⟩
  go_wp2_with fail
  refine (rfield_to x 0 6 _ _ hx (by decide) (by decide) hk).mono ?_; rintro e w1 ⟨rfl, rfl⟩
  go_wp2
  go_ret
  refine ⟨ret_bool ?_, (Below.refl _ _).alloc (Nat.le_refl _) _⟩
  first | rfl | (simp; done) | (simp; omega)
end Go.Proofs.Ytjoaenfibkgplaa
