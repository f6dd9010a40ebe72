import Derived.Test.YtjoaenfibkgplaaE7
namespace Go.Proofs.Ytjoaenfibkgplaa
set_option linter.unusedSimpArgs false
open Go.RowKit Go.Cq
set_option linter.unusedVariables false
set_option maxRecDepth 4000 in
theorem fits_89_3 (x op s t d k : Nat) (nm : ByteArray) (w : World) (hx : x < 4294967296) (hs : Hid (fld x 21 5 = s)) (ht : Hid (fld x 16 5 = t)) (hd : Hid (fld x 11 5 = d)) (ha : Hid (fld x 6 5 = 0)) (hk : Hid (fld x 0 6 = k)) (hn : ¬ (t : Int) = (d : Int)) (bs : s < 64) (bt : t < 64) (bd : d < 64) (bk : k < 64) :
    Calls Try.prog 49 #[.agg #[.int .i64 (op : Int), .int .u8 89, .int .i64 ((x : Int) / 67108864), .int .i64 (k : Int), .string nm], .int .u32 (x : Int)] w fun e w' => e = .returned (.bool false) ∧ Below w.heap.size w w' := by
  go_enter Try.func49, Try.ntmps49
  go_wp2_with fail
  refine (rfield_to x 21 5 _ _ hx (by decide) (by decide) hs).mono ?_; rintro e w1 ⟨rfl, rfl⟩
  go_wp2_with fail
  refine (rfield_to x 16 5 _ _ hx (by decide) (by decide) ht).mono ?_; rintro e w1 ⟨rfl, rfl⟩
  go_wp2_with fail
  refine (rfield_to x 11 5 _ _ hx (by decide) (by decide) hd).mono ?_; rintro e w1 ⟨rfl, rfl⟩
  go_wp2_with fail
  refine (rfield_to x 6 5 _ _ hx (by decide) (by decide) ha).mono ?_; rintro e w1 ⟨rfl, rfl⟩
  go_wp2_with fail
  refine (rfield_to x 0 6 _ _ hx (by decide) (by decide) hk).mono ?_; rintro e w1 ⟨rfl, rfl⟩
  go_wp2
  go_ret
  refine ⟨ret_bool ?_, (Below.refl _ _).alloc (Nat.le_refl _) _⟩
  first | rfl | (simp; done) | (simp; omega)
set_option maxRecDepth 4000 in
theorem fits_89_4 (x op s t k : Nat) (nm : ByteArray) (w : World) (hx : x < 4294967296) (hs : Hid (fld x 21 5 = s)) (ht : Hid (fld x 16 5 = t)) (hd : Hid (fld x 11 5 = t)) (ha : Hid (fld x 6 5 = 0)) (hk : Hid (fld x 0 6 = k)) (bs : s < 64) (bt : t < 64) (bk : k < 64) :
    Calls Try.prog 49 #[.agg #[.int .i64 (op : Int), .int .u8 89, .int .i64 ((x : Int) / 67108864), .int .i64 (k : Int), .string nm], .int .u32 (x : Int)] w fun e w' => e = .returned (.bool true) ∧ Below w.heap.size w w' := by
  go_enter Try.func49, Try.ntmps49
  go_wp2_with fail
  refine (rfield_to x 21 5 _ _ hx (by decide) (by decide) hs).mono ?_; rintro e w1 ⟨rfl, rfl⟩
  go_wp2_with fail
  refine (rfield_to x 16 5 _ _ hx (by decide) (by decide) ht).mono ?_; rintro e w1 ⟨rfl, rfl⟩
  go_wp2_with fail
  refine (rfield_to x 11 5 _ _ hx (by decide) (by decide) hd).mono ?_; rintro e w1 ⟨rfl, rfl⟩
  go_wp2_with fail
  refine (rfield_to x 6 5 _ _ hx (by decide) (by decide) ha).mono ?_; rintro e w1 ⟨rfl, rfl⟩
  go_wp2_with fail
  refine (rfield_to x 0 6 _ _ hx (by decide) (by decide) hk).mono ?_; rintro e w1 ⟨rfl, rfl⟩
  go_wp2
  go_ret
  refine ⟨ret_bool ?_, (Below.refl _ _).alloc (Nat.le_refl _) _⟩
  first | rfl | (simp; done) | (simp; omega)
set_option maxRecDepth 4000 in
theorem fits_86_0 (x op s t d a k f o : Nat) (nm : ByteArray) (w : World) (hx : x < 4294967296) (hs : Hid (fld x 21 5 = s)) (ht : Hid (fld x 16 5 = t)) (hd : Hid (fld x 11 5 = d)) (ha : Hid (fld x 6 5 = a)) (hk : Hid (fld x 0 6 = k)) (ho : ¬ (x : Int) / 67108864 = (o : Int)) (bs : s < 64) (bt : t < 64) (bd : d < 64) (ba : a < 64) (bk : k < 64) :
    Calls Try.prog 49 #[.agg #[.int .i64 (op : Int), .int .u8 86, .int .i64 ((o : Int)), .int .i64 (f : Int), .string nm], .int .u32 (x : Int)] w fun e w' => e = .returned (.bool false) ∧ Below w.heap.size w w' := by
  go_enter Try.func49, Try.ntmps49
  go_wp2_with fail
  refine (rfield_to x 21 5 _ _ hx (by decide) (by decide) hs).mono ?_; rintro e w1 ⟨rfl, rfl⟩
  go_wp2_with fail
  refine (rfield_to x 16 5 _ _ hx (by decide) (by decide) ht).mono ?_; rintro e w1 ⟨rfl, rfl⟩
  go_wp2_with fail
  refine (rfield_to x 11 5 _ _ hx (by decide) (by decide) hd).mono ?_; rintro e w1 ⟨rfl, rfl⟩
  go_wp2_with fail
  refine (rfield_to x 6 5 _ _ hx (by decide) (by decide) ha).mono ?_; rintro e w1 ⟨rfl, rfl⟩
  go_wp2_with fail
  refine (rfield_to x 0 6 _ _ hx (by decide) (by decide) hk).mono ?_; rintro e w1 ⟨rfl, rfl⟩
  go_wp2
  go_ret
  refine ⟨ret_bool ?_, (Below.refl _ _).alloc (Nat.le_refl _) _⟩
  first | rfl | (simp; done) | (simp; omega)
set_option maxRecDepth 4000 in
theorem fits_86_1 (x op s t d a k f : Nat) (nm : ByteArray) (w : World) (hx : x < 4294967296) (hs : Hid (fld x 21 5 = s)) (ht : Hid (fld x 16 5 = t)) (hd : Hid (fld x 11 5 = d)) (ha : Hid (fld x 6 5 = a)) (hk : Hid (fld x 0 6 = k)) (hn : ¬ (s : Int) = 0) (bs : s < 64) (bt : t < 64) (bd : d < 64) (ba : a < 64) (bk : k < 64) :
    Calls Try.prog 49 #[.agg #[.int .i64 (op : Int), .int .u8 86, .int .i64 ((x : Int) / 67108864), .int .i64 (f : Int), .string nm], .int .u32 (x : Int)] w fun e w' => e = .returned (.bool false) ∧ Below w.heap.size w w' := by
  go_enter Try.func49, Try.ntmps49
  go_wp2_with fail
  refine (rfield_to x 21 5 _ _ hx (by decide) (by decide) hs).mono ?_; rintro e w1 ⟨rfl, rfl⟩
  go_wp2_with fail
  refine (rfield_to x 16 5 _ _ hx (by decide) (by decide) ht).mono ?_; rintro e w1 ⟨rfl, rfl⟩
  go_wp2_with fail
  refine (rfield_to x 11 5 _ _ hx (by decide) (by decide) hd).mono ?_; rintro e w1 ⟨rfl, rfl⟩
  go_wp2_with fail
  refine (rfield_to x 6 5 _ _ hx (by decide) (by decide) ha).mono ?_; rintro e w1 ⟨rfl, rfl⟩
  go_wp2_with fail
  refine (rfield_to x 0 6 _ _ hx (by decide) (by decide) hk).mono ?_; rintro e w1 ⟨rfl, rfl⟩
  go_wp2
  go_ret
  refine ⟨ret_bool ?_, (Below.refl _ _).alloc (Nat.le_refl _) _⟩
  first | rfl | (simp; done) | (simp; omega)
set_option maxRecDepth 4000 in
theorem fits_86_2 (x op t d a k f : Nat) (nm : ByteArray) (w : World) (hx : x < 4294967296) (hs : Hid (fld x 21 5 = 0)) (ht : Hid (fld x 16 5 = t)) (hd : Hid (fld x 11 5 = d)) (ha : Hid (fld x 6 5 = a)) (hk : Hid (fld x 0 6 = k)) (bt : t < 64) (bd : d < 64) (ba : a < 64) (bk : k < 64) :
    Calls Try.prog 49 #[.agg #[.int .i64 (op : Int), .int .u8 86, .int .i64 ((x : Int) / 67108864), .int .i64 (f : Int), .string nm], .int .u32 (x : Int)] w fun e w' => e = .returned (.bool true) ∧ Below w.heap.size w w' := by
  go_enter Try.func49, Try.ntmps49
  go_wp2_with fail
  refine (rfield_to x 21 5 _ _ hx (by decide) (by decide) hs).mono ?_; rintro e w1 ⟨rfl, rfl⟩
  go_wp2_with fail
  refine (rfield_to x 16 5 _ _ hx (by decide) (by decide) ht).mono ?_; rintro e w1 ⟨rfl, rfl⟩
  go_wp2_with fail
  refine (rfield_to x 11 5 _ _ hx (by decide) (by decide) hd).mono ?_; rintro e w1 ⟨rfl, rfl⟩
  go_wp2_with fail
  refine (rfield_to x 6 5 _ _ hx (by decide) (by decide) ha).mono ?_; rintro e w1 ⟨rfl, rfl⟩
  go_wp2_with fail
  refine (rfield_to x 0 6 _ _ hx (by decide) (by decide) hk).mono ?_; rintro e w1 ⟨rfl, rfl⟩
  go_wp2
  go_ret
  refine ⟨ret_bool ?_, (Below.refl _ _).alloc (Nat.le_refl _) _⟩
  first | rfl | (simp; done) | (simp; omega)
set_option maxRecDepth 4000 in
theorem fits_90_0 (x op s t d a k f o : Nat) (nm : ByteArray) (w : World) (hx : x < 4294967296) (hs : Hid (fld x 21 5 = s)) (ht : Hid (fld x 16 5 = t)) (hd : Hid (fld x 11 5 = d)) (ha : Hid (fld x 6 5 = a)) (hk : Hid (fld x 0 6 = k)) (ho : ¬ (x : Int) / 67108864 = (o : Int)) (bs : s < 64) (bt : t < 64) (bd : d < 64) (ba : a < 64) (bk : k < 64) :
    Calls Try.prog 49 #[.agg #[.int .i64 (op : Int), .int .u8 90, .int .i64 ((o : Int)), .int .i64 (f : Int), .string nm], .int .u32 (x : Int)] w fun e w' => e = .returned (.bool false) ∧ Below w.heap.size w w' := by
  go_enter Try.func49, Try.ntmps49
  go_wp2_with fail
  refine (rfield_to x 21 5 _ _ hx (by decide) (by decide) hs).mono ?_; rintro e w1 ⟨rfl, rfl⟩
  go_wp2_with fail
  refine (rfield_to x 16 5 _ _ hx (by decide) (by decide) ht).mono ?_; rintro e w1 ⟨rfl, rfl⟩
  go_wp2_with fail
  refine (rfield_to x 11 5 _ _ hx (by decide) (by decide) hd).mono ?_; rintro e w1 ⟨rfl, rfl⟩
  go_wp2_with fail
  refine (rfield_to x 6 5 _ _ hx (by decide) (by decide) ha).mono ?_; rintro e w1 ⟨rfl, rfl⟩
  go_wp2_with fail
  refine (rfield_to x 0 6 _ _ hx (by decide) (by decide) hk).mono ?_; rintro e w1 ⟨rfl, rfl⟩
  go_wp2
  go_ret
  refine ⟨ret_bool ?_, (Below.refl _ _).alloc (Nat.le_refl _) _⟩
  first | rfl | (simp; done) | (simp; omega)
set_option maxRecDepth 4000 in
theorem fits_90_1 (x op s t d a k f : Nat) (nm : ByteArray) (w : World) (hx : x < 4294967296) (hs : Hid (fld x 21 5 = s)) (ht : Hid (fld x 16 5 = t)) (hd : Hid (fld x 11 5 = d)) (ha : Hid (fld x 6 5 = a)) (hk : Hid (fld x 0 6 = k)) (hn : ¬ (t : Int) = 0) (bs : s < 64) (bt : t < 64) (bd : d < 64) (ba : a < 64) (bk : k < 64) :
    Calls Try.prog 49 #[.agg #[.int .i64 (op : Int), .int .u8 90, .int .i64 ((x : Int) / 67108864), .int .i64 (f : Int), .string nm], .int .u32 (x : Int)] w fun e w' => e = .returned (.bool false) ∧ Below w.heap.size w w' := by
  go_enter Try.func49, Try.ntmps49
  go_wp2_with fail
  refine (rfield_to x 21 5 _ _ hx (by decide) (by decide) hs).mono ?_; rintro e w1 ⟨rfl, rfl⟩
  go_wp2_with fail
  refine (rfield_to x 16 5 _ _ hx (by decide) (by decide) ht).mono ?_; rintro e w1 ⟨rfl, rfl⟩
  go_wp2_with fail
  refine (rfield_to x 11 5 _ _ hx (by decide) (by decide) hd).mono ?_; rintro e w1 ⟨rfl, rfl⟩
  go_wp2_with fail
  refine (rfield_to x 6 5 _ _ hx (by decide) (by decide) ha).mono ?_; rintro e w1 ⟨rfl, rfl⟩
  go_wp2_with fail
  refine (rfield_to x 0 6 _ _ hx (by decide) (by decide) hk).mono ?_; rintro e w1 ⟨rfl, rfl⟩
  go_wp2
  go_ret
  refine ⟨ret_bool ?_, (Below.refl _ _).alloc (Nat.le_refl _) _⟩
  first | rfl | (simp; done) | (simp; omega)
set_option maxRecDepth 4000 in
theorem fits_90_2 (x op s d a k f : Nat) (nm : ByteArray) (w : World) (hx : x < 4294967296) (hs : Hid (fld x 21 5 = s)) (ht : Hid (fld x 16 5 = 0)) (hd : Hid (fld x 11 5 = d)) (ha : Hid (fld x 6 5 = a)) (hk : Hid (fld x 0 6 = k)) (bs : s < 64) (bd : d < 64) (ba : a < 64) (bk : k < 64) :
    Calls Try.prog 49 #[.agg #[.int .i64 (op : Int), .int .u8 90, .int .i64 ((x : Int) / 67108864), .int .i64 (f : Int), .string nm], .int .u32 (x : Int)] w fun e w' => e = .returned (.bool true) ∧ Below w.heap.size w w' := by
  go_enter Try.func49, Try.ntmps49
  go_wp2_with fail
  refine (rfield_to x 21 5 _ _ hx (by decide) (by decide) hs).mono ?_; rintro e w1 ⟨rfl, rfl⟩
  go_wp2_with fail
  refine (rfield_to x 16 5 _ _ hx (by decide) (by decide) ht).mono ?_; rintro e w1 ⟨rfl, rfl⟩
  go_wp2_with fail
  refine (rfield_to x 11 5 _ _ hx (by decide) (by decide) hd).mono ?_; rintro e w1 ⟨rfl, rfl⟩
  go_wp2_with fail
  refine (rfield_to x 6 5 _ _ hx (by decide) (by decide) ha).mono ?_; rintro e w1 ⟨rfl, rfl⟩
  go_wp2_with fail
  refine (rfield_to x 0 6 _ _ hx (by decide) (by decide) hk).mono ?_; rintro e w1 ⟨rfl, rfl⟩
  go_wp2
  go_ret
  refine ⟨ret_bool ?_, (Below.refl _ _).alloc (Nat.le_refl _) _⟩
  first | rfl | (simp; done) | (simp; omega)
set_option maxRecDepth 4000 in
theorem fits_82_0 (x op s t d a k f o : Nat) (nm : ByteArray) (w : World) (hx : x < 4294967296) (hs : Hid (fld x 21 5 = s)) (ht : Hid (fld x 16 5 = t)) (hd : Hid (fld x 11 5 = d)) (ha : Hid (fld x 6 5 = a)) (hk : Hid (fld x 0 6 = k)) (ho : ¬ (x : Int) / 67108864 = (o : Int)) (bs : s < 64) (bt : t < 64) (bd : d < 64) (ba : a < 64) (bk : k < 64) :
    Calls Try.prog 49 #[.agg #[.int .i64 (op : Int), .int .u8 82, .int .i64 ((o : Int)), .int .i64 (f : Int), .string nm], .int .u32 (x : Int)] w fun e w' => e = .returned (.bool false) ∧ Below w.heap.size w w' := by
  go_enter Try.func49, Try.ntmps49
  go_wp2_with fail
  refine (rfield_to x 21 5 _ _ hx (by decide) (by decide) hs).mono ?_; rintro e w1 ⟨rfl, rfl⟩
  go_wp2_with fail
  refine (rfield_to x 16 5 _ _ hx (by decide) (by decide) ht).mono ?_; rintro e w1 ⟨rfl, rfl⟩
  go_wp2_with fail
  refine (rfield_to x 11 5 _ _ hx (by decide) (by decide) hd).mono ?_; rintro e w1 ⟨rfl, rfl⟩
  go_wp2_with fail
  refine (rfield_to x 6 5 _ _ hx (by decide) (by decide) ha).mono ?_; rintro e w1 ⟨rfl, rfl⟩
  go_wp2_with fail
  refine (rfield_to x 0 6 _ _ hx (by decide) (by decide) hk).mono ?_; rintro e w1 ⟨rfl, rfl⟩
  go_wp2
  go_ret
  refine ⟨ret_bool ?_, (Below.refl _ _).alloc (Nat.le_refl _) _⟩
  first | rfl | (simp; done) | (simp; omega)
set_option maxRecDepth 4000 in
theorem fits_82_1 (x op s t d a k f : Nat) (nm : ByteArray) (w : World) (hx : x < 4294967296) (hs : Hid (fld x 21 5 = s)) (ht : Hid (fld x 16 5 = t)) (hd : Hid (fld x 11 5 = d)) (ha : Hid (fld x 6 5 = a)) (hk : Hid (fld x 0 6 = k)) (hn : ¬ (t : Int) = (f : Int)) (bs : s < 64) (bt : t < 64) (bd : d < 64) (ba : a < 64) (bk : k < 64) :
    Calls Try.prog 49 #[.agg #[.int .i64 (op : Int), .int .u8 82, .int .i64 ((x : Int) / 67108864), .int .i64 (f : Int), .string nm], .int .u32 (x : Int)] w fun e w' => e = .returned (.bool false) ∧ Below w.heap.size w w' := by
  go_enter Try.func49, Try.ntmps49
  go_wp2_with fail
  refine (rfield_to x 21 5 _ _ hx (by decide) (by decide) hs).mono ?_; rintro e w1 ⟨rfl, rfl⟩
  go_wp2_with fail
  refine (rfield_to x 16 5 _ _ hx (by decide) (by decide) ht).mono ?_; rintro e w1 ⟨rfl, rfl⟩
  go_wp2_with fail
  refine (rfield_to x 11 5 _ _ hx (by decide) (by decide) hd).mono ?_; rintro e w1 ⟨rfl, rfl⟩
  go_wp2_with fail
  refine (rfield_to x 6 5 _ _ hx (by decide) (by decide) ha).mono ?_; rintro e w1 ⟨rfl, rfl⟩
  go_wp2_with fail
  refine (rfield_to x 0 6 _ _ hx (by decide) (by decide) hk).mono ?_; rintro e w1 ⟨rfl, rfl⟩
  go_wp2
  go_ret
  refine ⟨ret_bool ?_, (Below.refl _ _).alloc (Nat.le_refl _) _⟩
  first | rfl | (simp; done) | (simp; omega)
set_option maxRecDepth 4000 in
theorem fits_82_2 (x op s t d a k : Nat) (nm : ByteArray) (w : World) (hx : x < 4294967296) (hs : Hid (fld x 21 5 = s)) (ht : Hid (fld x 16 5 = t)) (hd : Hid (fld x 11 5 = d)) (ha : Hid (fld x 6 5 = a)) (hk : Hid (fld x 0 6 = k)) (bs : s < 64) (bt : t < 64) (bd : d < 64) (ba : a < 64) (bk : k < 64) :
    Calls Try.prog 49 #[.agg #[.int .i64 (op : Int), .int .u8 82, .int .i64 ((x : Int) / 67108864), .int .i64 (t : Int), .string nm], .int .u32 (x : Int)] w fun e w' => e = .returned (.bool true) ∧ Below w.heap.size w w' := by
  go_enter Try.func49, Try.ntmps49
  go_wp2_with fail
  refine (rfield_to x 21 5 _ _ hx (by decide) (by decide) hs).mono ?_; rintro e w1 ⟨rfl, rfl⟩
  go_wp2_with fail
  refine (rfield_to x 16 5 _ _ hx (by decide) (by decide) ht).mono ?_; rintro e w1 ⟨rfl, rfl⟩
  go_wp2_with fail
  refine (rfield_to x 11 5 _ _ hx (by decide) (by decide) hd).mono ?_; rintro e w1 ⟨rfl, rfl⟩
  go_wp2_with fail
  refine (rfield_to x 6 5 _ _ hx (by decide) (by decide) ha).mono ?_; rintro e w1 ⟨rfl, rfl⟩
  go_wp2_with fail
  refine (rfield_to x 0 6 _ _ hx (by decide) (by decide) hk).mono ?_; rintro e w1 ⟨rfl, rfl⟩
  go_wp2
  go_ret
  refine ⟨ret_bool ?_, (Below.refl _ _).alloc (Nat.le_refl _) _⟩
  first | rfl | (simp; done) | (simp; omega)
set_option maxRecDepth 4000 in
theorem fits_73_0 (x op s t d a k f o : Nat) (nm : ByteArray) (w : World) (hx : x < 4294967296) (hs : Hid (fld x 21 5 = s)) (ht : Hid (fld x 16 5 = t)) (hd : Hid (fld x 11 5 = d)) (ha : Hid (fld x 6 5 = a)) (hk : Hid (fld x 0 6 = k)) (ho : ¬ (x : Int) / 67108864 = (o : Int)) (bs : s < 64) (bt : t < 64) (bd : d < 64) (ba : a < 64) (bk : k < 64) :
    Calls Try.prog 49 #[.agg #[.int .i64 (op : Int), .int .u8 73, .int .i64 ((o : Int)), .int .i64 (f : Int), .string nm], .int .u32 (x : Int)] w fun e w' => e = .returned (.bool false) ∧ Below w.heap.size w w' := by
  go_enter Try.func49, Try.ntmps49
  go_wp2_with fail
  refine (rfield_to x 21 5 _ _ hx (by decide) (by decide) hs).mono ?_; rintro e w1 ⟨rfl, rfl⟩
  go_wp2_with fail
  refine (rfield_to x 16 5 _ _ hx (by decide) (by decide) ht).mono ?_; rintro e w1 ⟨rfl, rfl⟩
  go_wp2_with fail
  refine (rfield_to x 11 5 _ _ hx (by decide) (by decide) hd).mono ?_; rintro e w1 ⟨rfl, rfl⟩
  go_wp2_with fail
  refine (rfield_to x 6 5 _ _ hx (by decide) (by decide) ha).mono ?_; rintro e w1 ⟨rfl, rfl⟩
  go_wp2_with fail
  refine (rfield_to x 0 6 _ _ hx (by decide) (by decide) hk).mono ?_; rintro e w1 ⟨rfl, rfl⟩
  go_wp2
  go_ret
  refine ⟨ret_bool ?_, (Below.refl _ _).alloc (Nat.le_refl _) _⟩
  first | rfl | (simp; done) | (simp; omega)
set_option maxRecDepth 4000 in
theorem fits_73_1 (x op s t d a k f : Nat) (nm : ByteArray) (w : World) (hx : x < 4294967296) (hs : Hid (fld x 21 5 = s)) (ht : Hid (fld x 16 5 = t)) (hd : Hid (fld x 11 5 = d)) (ha : Hid (fld x 6 5 = a)) (hk : Hid (fld x 0 6 = k)) (bs : s < 64) (bt : t < 64) (bd : d < 64) (ba : a < 64) (bk : k < 64) :
    Calls Try.prog 49 #[.agg #[.int .i64 (op : Int), .int .u8 73, .int .i64 ((x : Int) / 67108864), .int .i64 (f : Int), .string nm], .int .u32 (x : Int)] w fun e w' => e = .returned (.bool true) ∧ Below w.heap.size w w' := by
  go_enter Try.func49, Try.ntmps49
  go_wp2_with fail
  refine (rfield_to x 21 5 _ _ hx (by decide) (by decide) hs).mono ?_; rintro e w1 ⟨rfl, rfl⟩
  go_wp2_with fail
  refine (rfield_to x 16 5 _ _ hx (by decide) (by decide) ht).mono ?_; rintro e w1 ⟨rfl, rfl⟩
  go_wp2_with fail
  refine (rfield_to x 11 5 _ _ hx (by decide) (by decide) hd).mono ?_; rintro e w1 ⟨rfl, rfl⟩
  go_wp2_with fail
  refine (rfield_to x 6 5 _ _ hx (by decide) (by decide) ha).mono ?_; rintro e w1 ⟨rfl, rfl⟩
  go_wp2_with fail
  refine (rfield_to x 0 6 _ _ hx (by decide) (by decide) hk).mono ?_; rintro e w1 ⟨rfl, rfl⟩
  go_wp2
  go_ret
  refine ⟨ret_bool ?_, (Below.refl _ _).alloc (Nat.le_refl _) _⟩
  first | rfl | (simp; done) | (simp; omega)
set_option maxRecDepth 4000 in
theorem fits_85_0 (x op s t d a k f o : Nat) (nm : ByteArray) (w : World) (hx : x < 4294967296) (hs : Hid (fld x 21 5 = s)) (ht : Hid (fld x 16 5 = t)) (hd : Hid (fld x 11 5 = d)) (ha : Hid (fld x 6 5 = a)) (hk : Hid (fld x 0 6 = k)) (ho : ¬ (x : Int) / 67108864 = (o : Int)) (bs : s < 64) (bt : t < 64) (bd : d < 64) (ba : a < 64) (bk : k < 64) :
    Calls Try.prog 49 #[.agg #[.int .i64 (op : Int), .int .u8 85, .int .i64 ((o : Int)), .int .i64 (f : Int), .string nm], .int .u32 (x : Int)] w fun e w' => e = .returned (.bool false) ∧ Below w.heap.size w w' := by
  go_enter Try.func49, Try.ntmps49
  go_wp2_with fail
  refine (rfield_to x 21 5 _ _ hx (by decide) (by decide) hs).mono ?_; rintro e w1 ⟨rfl, rfl⟩
  go_wp2_with fail
  refine (rfield_to x 16 5 _ _ hx (by decide) (by decide) ht).mono ?_; rintro e w1 ⟨rfl, rfl⟩
  go_wp2_with fail
  refine (rfield_to x 11 5 _ _ hx (by decide) (by decide) hd).mono ?_; rintro e w1 ⟨rfl, rfl⟩
  go_wp2_with fail
  refine (rfield_to x 6 5 _ _ hx (by decide) (by decide) ha).mono ?_; rintro e w1 ⟨rfl, rfl⟩
  go_wp2_with fail
  refine (rfield_to x 0 6 _ _ hx (by decide) (by decide) hk).mono ?_; rintro e w1 ⟨rfl, rfl⟩
  go_wp2
  go_ret
  refine ⟨ret_bool ?_, (Below.refl _ _).alloc (Nat.le_refl _) _⟩
  first | rfl | (simp; done) | (simp; omega)
set_option maxRecDepth 4000 in
theorem fits_85_1 (x op s t d a k f : Nat) (nm : ByteArray) (w : World) (hx : x < 4294967296) (hs : Hid (fld x 21 5 = s)) (ht : Hid (fld x 16 5 = t)) (hd : Hid (fld x 11 5 = d)) (ha : Hid (fld x 6 5 = a)) (hk : Hid (fld x 0 6 = k)) (bs : s < 64) (bt : t < 64) (bd : d < 64) (ba : a < 64) (bk : k < 64) :
    Calls Try.prog 49 #[.agg #[.int .i64 (op : Int), .int .u8 85, .int .i64 ((x : Int) / 67108864), .int .i64 (f : Int), .string nm], .int .u32 (x : Int)] w fun e w' => e = .returned (.bool true) ∧ Below w.heap.size w w' := by
  go_enter Try.func49, Try.ntmps49
  go_wp2_with fail
  refine (rfield_to x 21 5 _ _ hx (by decide) (by decide) hs).mono ?_; rintro e w1 ⟨rfl, rfl⟩
  go_wp2_with fail
  refine (rfield_to x 16 5 _ _ hx (by decide) (by decide) ht).mono ?_; rintro e w1 ⟨rfl, rfl⟩
  go_wp2_with fail
  refine (rfield_to x 11 5 _ _ hx (by decide) (by decide) hd).mono ?_; rintro e w1 ⟨rfl, rfl⟩
  go_wp2_with fail
  refine (rfield_to x 6 5 _ _ hx (by decide) (by decide) ha).mono ?_; rintro e w1 ⟨rfl, rfl⟩
  go_wp2_with fail
  refine (rfield_to x 0 6 _ _ hx (by decide) (by decide) hk).mono ?_; rintro e w1 ⟨rfl, rfl⟩
  go_wp2
  go_ret
  refine ⟨ret_bool ?_, (Below.refl _ _).alloc (Nat.le_refl _) _⟩
  first | rfl | (simp; done) | (simp; omega)
set_option maxRecDepth 4000 in
theorem fits_80_0 (x op s t d a k f o : Nat) (nm : ByteArray) (w : World) (hx : x < 4294967296) (hs : Hid (fld x 21 5 = s)) (ht : Hid (fld x 16 5 = t)) (hd : Hid (fld x 11 5 = d)) (ha : Hid (fld x 6 5 = a)) (hk : Hid (fld x 0 6 = k)) (ho : ¬ (x : Int) / 67108864 = (o : Int)) (bs : s < 64) (bt : t < 64) (bd : d < 64) (ba : a < 64) (bk : k < 64) :
    Calls Try.prog 49 #[.agg #[.int .i64 (op : Int), .int .u8 80, .int .i64 ((o : Int)), .int .i64 (f : Int), .string nm], .int .u32 (x : Int)] w fun e w' => e = .returned (.bool false) ∧ Below w.heap.size w w' := by
  go_enter Try.func49, Try.ntmps49
  go_wp2_with fail
  refine (rfield_to x 21 5 _ _ hx (by decide) (by decide) hs).mono ?_; rintro e w1 ⟨rfl, rfl⟩
  go_wp2_with fail
  refine (rfield_to x 16 5 _ _ hx (by decide) (by decide) ht).mono ?_; rintro e w1 ⟨rfl, rfl⟩
  go_wp2_with fail
  refine (rfield_to x 11 5 _ _ hx (by decide) (by decide) hd).mono ?_; rintro e w1 ⟨rfl, rfl⟩
  go_wp2_with fail
  refine (rfield_to x 6 5 _ _ hx (by decide) (by decide) ha).mono ?_; rintro e w1 ⟨rfl, rfl⟩
  go_wp2_with fail
  refine (rfield_to x 0 6 _ _ hx (by decide) (by decide) hk).mono ?_; rintro e w1 ⟨rfl, rfl⟩
  go_wp2
  go_ret
  refine ⟨ret_bool ?_, (Below.refl _ _).alloc (Nat.le_refl _) _⟩
  first | rfl | (simp; done) | (simp; omega)
set_option maxRecDepth 4000 in
theorem fits_80_1 (x op s t d a k f : Nat) (nm : ByteArray) (w : World) (hx : x < 4294967296) (hs : Hid (fld x 21 5 = s)) (ht : Hid (fld x 16 5 = t)) (hd : Hid (fld x 11 5 = d)) (ha : Hid (fld x 6 5 = a)) (hk : Hid (fld x 0 6 = k)) (bs : s < 64) (bt : t < 64) (bd : d < 64) (ba : a < 64) (bk : k < 64) :
    Calls Try.prog 49 #[.agg #[.int .i64 (op : Int), .int .u8 80, .int .i64 ((x : Int) / 67108864), .int .i64 (f : Int), .string nm], .int .u32 (x : Int)] w fun e w' => e = .returned (.bool true) ∧ Below w.heap.size w w' := by
  go_enter Try.func49, Try.ntmps49
  go_wp2_with fail
  refine (rfield_to x 21 5 _ _ hx (by decide) (by decide) hs).mono ?_; rintro e w1 ⟨rfl, rfl⟩
  go_wp2_with fail
  refine (rfield_to x 16 5 _ _ hx (by decide) (by decide) ht).mono ?_; rintro e w1 ⟨rfl, rfl⟩
  go_wp2_with fail
  refine (rfield_to x 11 5 _ _ hx (by decide) (by decide) hd).mono ?_; rintro e w1 ⟨rfl, rfl⟩
  go_wp2_with fail
  refine (rfield_to x 6 5 _ _ hx (by decide) (by decide) ha).mono ?_; rintro e w1 ⟨rfl, rfl⟩
  go_wp2_with fail
  refine (rfield_to x 0 6 _ _ hx (by decide) (by decide) hk).mono ?_; rintro e w1 ⟨rfl, rfl⟩
  go_wp2
  go_ret
  refine ⟨ret_bool ?_, (Below.refl _ _).alloc (Nat.le_refl _) _⟩
  first | rfl | (simp; done) | (simp; omega)
set_option maxRecDepth 4000 in
theorem fits_66_0 (x op s t d a k f o : Nat) (nm : ByteArray) (w : World) (hx : x < 4294967296) (hs : Hid (fld x 21 5 = s)) (ht : Hid (fld x 16 5 = t)) (hd : Hid (fld x 11 5 = d)) (ha : Hid (fld x 6 5 = a)) (hk : Hid (fld x 0 6 = k)) (ho : ¬ (x : Int) / 67108864 = (o : Int)) (bs : s < 64) (bt : t < 64) (bd : d < 64) (ba : a < 64) (bk : k < 64) :
    Calls Try.prog 49 #[.agg #[.int .i64 (op : Int), .int .u8 66, .int .i64 ((o : Int)), .int .i64 (f : Int), .string nm], .int .u32 (x : Int)] w fun e w' => e = .returned (.bool false) ∧ Below w.heap.size w w' := by
  go_enter Try.func49, Try.ntmps49
  go_wp2_with fail
  refine (rfield_to x 21 5 _ _ hx (by decide) (by decide) hs).mono ?_; rintro e w1 ⟨rfl, rfl⟩
  go_wp2_with fail
  refine (rfield_to x 16 5 _ _ hx (by decide) (by decide) ht).mono ?_; rintro e w1 ⟨rfl, rfl⟩
  go_wp2_with fail
  refine (rfield_to x 11 5 _ _ hx (by decide) (by decide) hd).mono ?_; rintro e w1 ⟨rfl, rfl⟩
  go_wp2_with fail
  refine (rfield_to x 6 5 _ _ hx (by decide) (by decide) ha).mono ?_; rintro e w1 ⟨rfl, rfl⟩
  go_wp2_with fail
  refine (rfield_to x 0 6 _ _ hx (by decide) (by decide) hk).mono ?_; rintro e w1 ⟨rfl, rfl⟩
  go_wp2
  go_ret
  refine ⟨ret_bool ?_, (Below.refl _ _).alloc (Nat.le_refl _) _⟩
  first | rfl | (simp; done) | (simp; omega)
set_option maxRecDepth 4000 in
theorem fits_66_1 (x op s t d a k f : Nat) (nm : ByteArray) (w : World) (hx : x < 4294967296) (hs : Hid (fld x 21 5 = s)) (ht : Hid (fld x 16 5 = t)) (hd : Hid (fld x 11 5 = d)) (ha : Hid (fld x 6 5 = a)) (hk : Hid (fld x 0 6 = k)) (bs : s < 64) (bt : t < 64) (bd : d < 64) (ba : a < 64) (bk : k < 64) :
    Calls Try.prog 49 #[.agg #[.int .i64 (op : Int), .int .u8 66, .int .i64 ((x : Int) / 67108864), .int .i64 (f : Int), .string nm], .int .u32 (x : Int)] w fun e w' => e = .returned (.bool true) ∧ Below w.heap.size w w' := by
  go_enter Try.func49, Try.ntmps49
  go_wp2_with fail
  refine (rfield_to x 21 5 _ _ hx (by decide) (by decide) hs).mono ?_; rintro e w1 ⟨rfl, rfl⟩
  go_wp2_with fail
  refine (rfield_to x 16 5 _ _ hx (by decide) (by decide) ht).mono ?_; rintro e w1 ⟨rfl, rfl⟩
  go_wp2_with fail
  refine (rfield_to x 11 5 _ _ hx (by decide) (by decide) hd).mono ?_; rintro e w1 ⟨rfl, rfl⟩
  go_wp2_with fail
  refine (rfield_to x 6 5 _ _ hx (by decide) (by decide) ha).mono ?_; rintro e w1 ⟨rfl, rfl⟩
  go_wp2_with fail
  refine (rfield_to x 0 6 _ _ hx (by decide) (by decide) hk).mono ?_; rintro e w1 ⟨rfl, rfl⟩
  go_wp2
  go_ret
  refine ⟨ret_bool ?_, (Below.refl _ _).alloc (Nat.le_refl _) _⟩
  first | rfl | (simp; done) | (simp; omega)
set_option maxRecDepth 4000 in
theorem fits_74_0 (x op s t d a k f o : Nat) (nm : ByteArray) (w : World) (hx : x < 4294967296) (hs : Hid (fld x 21 5 = s)) (ht : Hid (fld x 16 5 = t)) (hd : Hid (fld x 11 5 = d)) (ha : Hid (fld x 6 5 = a)) (hk : Hid (fld x 0 6 = k)) (ho : ¬ (x : Int) / 67108864 = (o : Int)) (bs : s < 64) (bt : t < 64) (bd : d < 64) (ba : a < 64) (bk : k < 64) :
    Calls Try.prog 49 #[.agg #[.int .i64 (op : Int), .int .u8 74, .int .i64 ((o : Int)), .int .i64 (f : Int), .string nm], .int .u32 (x : Int)] w fun e w' => e = .returned (.bool false) ∧ Below w.heap.size w w' := by
  go_enter Try.func49, Try.ntmps49
  go_wp2_with fail
  refine (rfield_to x 21 5 _ _ hx (by decide) (by decide) hs).mono ?_; rintro e w1 ⟨rfl, rfl⟩
  go_wp2_with fail
  refine (rfield_to x 16 5 _ _ hx (by decide) (by decide) ht).mono ?_; rintro e w1 ⟨rfl, rfl⟩
  go_wp2_with fail
  refine (rfield_to x 11 5 _ _ hx (by decide) (by decide) hd).mono ?_; rintro e w1 ⟨rfl, rfl⟩
  go_wp2_with fail
  refine (rfield_to x 6 5 _ _ hx (by decide) (by decide) ha).mono ?_; rintro e w1 ⟨rfl, rfl⟩
  go_wp2_with fail
  refine (rfield_to x 0 6 _ _ hx (by decide) (by decide) hk).mono ?_; rintro e w1 ⟨rfl, rfl⟩
  go_wp2
  go_ret
  refine ⟨ret_bool ?_, (Below.refl _ _).alloc (Nat.le_refl _) _⟩
  first | rfl | (simp; done) | (simp; omega)
set_option maxRecDepth 4000 in
theorem fits_74_1 (x op s t d a k f : Nat) (nm : ByteArray) (w : World) (hx : x < 4294967296) (hs : Hid (fld x 21 5 = s)) (ht : Hid (fld x 16 5 = t)) (hd : Hid (fld x 11 5 = d)) (ha : Hid (fld x 6 5 = a)) (hk : Hid (fld x 0 6 = k)) (bs : s < 64) (bt : t < 64) (bd : d < 64) (ba : a < 64) (bk : k < 64) :
    Calls Try.prog 49 #[.agg #[.int .i64 (op : Int), .int .u8 74, .int .i64 ((x : Int) / 67108864), .int .i64 (f : Int), .string nm], .int .u32 (x : Int)] w fun e w' => e = .returned (.bool true) ∧ Below w.heap.size w w' := by
  go_enter Try.func49, Try.ntmps49
  go_wp2_with fail
  refine (rfield_to x 21 5 _ _ hx (by decide) (by decide) hs).mono ?_; rintro e w1 ⟨rfl, rfl⟩
  go_wp2_with fail
  refine (rfield_to x 16 5 _ _ hx (by decide) (by decide) ht).mono ?_; rintro e w1 ⟨rfl, rfl⟩
  go_wp2_with fail
  refine (rfield_to x 11 5 _ _ hx (by decide) (by decide) hd).mono ?_; rintro e w1 ⟨rfl, rfl⟩
  go_wp2_with fail
  refine (rfield_to x 6 5 _ _ hx (by decide) (by decide) ha).mono ?_; rintro e w1 ⟨rfl, rfl⟩
  go_wp2_with fail
  refine (rfield_to x 0 6 _ _ hx (by decide) (by decide) hk).mono ?_; rintro e w1 ⟨rfl, rfl⟩
  go_wp2
  go_ret
  refine ⟨ret_bool ?_, (Below.refl _ _).alloc (Nat.le_refl _) _⟩
  first | rfl | (simp; done) | (simp; omega)
end Go.Proofs.Ytjoaenfibkgplaa
