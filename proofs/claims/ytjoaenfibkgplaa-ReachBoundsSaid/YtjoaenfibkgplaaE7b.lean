import Derived.Test.YtjoaenfibkgplaaE7
namespace Go.Proofs.Ytjoaenfibkgplaa
set_option linter.unusedSimpArgs false
open Go.RowKit Go.Cq
set_option linter.unusedVariables false
set_option maxRecDepth 4000 in
theorem fits_70_5 (x op d k : Nat) (nm : ByteArray) (w : World) (hx : x < 4294967296) (hs : Hid (fld x 21 5 = 0)) (ht : Hid (fld x 16 5 = 0)) (hd : Hid (fld x 11 5 = d)) (ha : Hid (fld x 6 5 = 0)) (hk : Hid (fld x 0 6 = k)) (bd : d < 64) (bk : k < 64) :
    Calls Try.prog 49 #[.agg #[.int .i64 (op : Int), .int .u8 70, .int .i64 ((x : Int) / 67108864), .int .i64 (k : Int), .string nm], .int .u32 (x : Int)] w fun e w' => e = .returned (.bool true) ∧ Below w.heap.size w w' := by
  go_enter Try.func49, Try.ntmps49
  go_wp2_with fail
  refine (rfield_to x 21 5 _ _ hx (by decide) (by decide) hs).mono ?_; rintro e w1 ⟨rfl, rfl⟩
  go_wp2_with fail
  refine (rfield_to x 16 5 _ _ hx (by decide) (by decide) ht).mono ?_; rintro e w1 ⟨rfl, rfl⟩
  go_wp2_with fail
  refine (rfield_to x 11 5 _ _ hx (by decide) (by decide) hd).mono ?_; rintro e w1 ⟨rfl, rfl⟩
  go_wp2_with fail
  refine (rfield_to x 6 5 _ _ hx (by decide) (by decide) ha).mono ?_; rintro e w1 ⟨rfl, rfl⟩
  go_wp2_with fail
  refine (rfield_to x 0 6 _ _ hx (by decide) (by decide) hk).mono ?_; rintro e w1 ⟨rfl, rfl⟩
  go_wp2
  go_ret
  refine ⟨ret_bool ?_, (Below.refl _ _).alloc (Nat.le_refl _) _⟩
  first | rfl | (simp; done) | (simp; omega)
set_option maxRecDepth 4000 in
theorem fits_76_0 (x op s t d a k f o : Nat) (nm : ByteArray) (w : World) (hx : x < 4294967296) (hs : Hid (fld x 21 5 = s)) (ht : Hid (fld x 16 5 = t)) (hd : Hid (fld x 11 5 = d)) (ha : Hid (fld x 6 5 = a)) (hk : Hid (fld x 0 6 = k)) (ho : ¬ (x : Int) / 67108864 = (o : Int)) (bs : s < 64) (bt : t < 64) (bd : d < 64) (ba : a < 64) (bk : k < 64) :
    Calls Try.prog 49 #[.agg #[.int .i64 (op : Int), .int .u8 76, .int .i64 ((o : Int)), .int .i64 (f : Int), .string nm], .int .u32 (x : Int)] w fun e w' => e = .returned (.bool false) ∧ Below w.heap.size w w' := by
  go_enter Try.func49, Try.ntmps49
  go_wp2_with fail
  refine (rfield_to x 21 5 _ _ hx (by decide) (by decide) hs).mono ?_; rintro e w1 ⟨rfl, rfl⟩
  go_wp2_with fail
  refine (rfield_to x 16 5 _ _ hx (by decide) (by decide) ht).mono ?_; rintro e w1 ⟨rfl, rfl⟩
  go_wp2_with fail
  refine (rfield_to x 11 5 _ _ hx (by decide) (by decide) hd).mono ?_; rintro e w1 ⟨rfl, rfl⟩
  go_wp2_with fail
  refine (rfield_to x 6 5 _ _ hx (by decide) (by decide) ha).mono ?_; rintro e w1 ⟨rfl, rfl⟩
  go_wp2_with fail
  refine (rfield_to x 0 6 _ _ hx (by decide) (by decide) hk).mono ?_; rintro e w1 ⟨rfl, rfl⟩
  go_wp2
  go_ret
  refine ⟨ret_bool ?_, (Below.refl _ _).alloc (Nat.le_refl _) _⟩
  first | rfl | (simp; done) | (simp; omega)
set_option maxRecDepth 4000 in
theorem fits_76_1 (x op s t d a k f : Nat) (nm : ByteArray) (w : World) (hx : x < 4294967296) (hs : Hid (fld x 21 5 = s)) (ht : Hid (fld x 16 5 = t)) (hd : Hid (fld x 11 5 = d)) (ha : Hid (fld x 6 5 = a)) (hk : Hid (fld x 0 6 = k)) (hn : ¬ (k : Int) = (f : Int)) (bs : s < 64) (bt : t < 64) (bd : d < 64) (ba : a < 64) (bk : k < 64) :
    Calls Try.prog 49 #[.agg #[.int .i64 (op : Int), .int .u8 76, .int .i64 ((x : Int) / 67108864), .int .i64 (f : Int), .string nm], .int .u32 (x : Int)] w fun e w' => e = .returned (.bool false) ∧ Below w.heap.size w w' := by
  go_enter Try.func49, Try.ntmps49
  go_wp2_with fail
  refine (rfield_to x 21 5 _ _ hx (by decide) (by decide) hs).mono ?_; rintro e w1 ⟨rfl, rfl⟩
  go_wp2_with fail
  refine (rfield_to x 16 5 _ _ hx (by decide) (by decide) ht).mono ?_; rintro e w1 ⟨rfl, rfl⟩
  go_wp2_with fail
  refine (rfield_to x 11 5 _ _ hx (by decide) (by decide) hd).mono ?_; rintro e w1 ⟨rfl, rfl⟩
  go_wp2_with fail
  refine (rfield_to x 6 5 _ _ hx (by decide) (by decide) ha).mono ?_; rintro e w1 ⟨rfl, rfl⟩
  go_wp2_with fail
  refine (rfield_to x 0 6 _ _ hx (by decide) (by decide) hk).mono ?_; rintro e w1 ⟨rfl, rfl⟩
  go_wp2
  go_ret
  refine ⟨ret_bool ?_, (Below.refl _ _).alloc (Nat.le_refl _) _⟩
  first | rfl | (simp; done) | (simp; omega)
set_option maxRecDepth 4000 in
theorem fits_76_2 (x op s t d a k : Nat) (nm : ByteArray) (w : World) (hx : x < 4294967296) (hs : Hid (fld x 21 5 = s)) (ht : Hid (fld x 16 5 = t)) (hd : Hid (fld x 11 5 = d)) (ha : Hid (fld x 6 5 = a)) (hk : Hid (fld x 0 6 = k)) (hn : ¬ (t : Int) = 0) (bs : s < 64) (bt : t < 64) (bd : d < 64) (ba : a < 64) (bk : k < 64) :
    Calls Try.prog 49 #[.agg #[.int .i64 (op : Int), .int .u8 76, .int .i64 ((x : Int) / 67108864), .int .i64 (k : Int), .string nm], .int .u32 (x : Int)] w fun e w' => e = .returned (.bool false) ∧ Below w.heap.size w w' := by
  go_enter Try.func49, Try.ntmps49
  go_wp2_with fail
  refine (rfield_to x 21 5 _ _ hx (by decide) (by decide) hs).mono ?_; rintro e w1 ⟨rfl, rfl⟩
  go_wp2_with fail
  refine (rfield_to x 16 5 _ _ hx (by decide) (by decide) ht).mono ?_; rintro e w1 ⟨rfl, rfl⟩
  go_wp2_with fail
  refine (rfield_to x 11 5 _ _ hx (by decide) (by decide) hd).mono ?_; rintro e w1 ⟨rfl, rfl⟩
  go_wp2_with fail
  refine (rfield_to x 6 5 _ _ hx (by decide) (by decide) ha).mono ?_; rintro e w1 ⟨rfl, rfl⟩
  go_wp2_with fail
  refine (rfield_to x 0 6 _ _ hx (by decide) (by decide) hk).mono ?_; rintro e w1 ⟨rfl, rfl⟩
  go_wp2
  go_ret
  refine ⟨ret_bool ?_, (Below.refl _ _).alloc (Nat.le_refl _) _⟩
  first | rfl | (simp; done) | (simp; omega)
set_option maxRecDepth 4000 in
theorem fits_76_3 (x op s d a k : Nat) (nm : ByteArray) (w : World) (hx : x < 4294967296) (hs : Hid (fld x 21 5 = s)) (ht : Hid (fld x 16 5 = 0)) (hd : Hid (fld x 11 5 = d)) (ha : Hid (fld x 6 5 = a)) (hk : Hid (fld x 0 6 = k)) (hn : ¬ (d : Int) = 0) (bs : s < 64) (bd : d < 64) (ba : a < 64) (bk : k < 64) :
    Calls Try.prog 49 #[.agg #[.int .i64 (op : Int), .int .u8 76, .int .i64 ((x : Int) / 67108864), .int .i64 (k : Int), .string nm], .int .u32 (x : Int)] w fun e w' => e = .returned (.bool false) ∧ Below w.heap.size w w' := by
  go_enter Try.func49, Try.ntmps49
  go_wp2_with fail
  refine (rfield_to x 21 5 _ _ hx (by decide) (by decide) hs).mono ?_; rintro e w1 ⟨rfl, rfl⟩
  go_wp2_with fail
  refine (rfield_to x 16 5 _ _ hx (by decide) (by decide) ht).mono ?_; rintro e w1 ⟨rfl, rfl⟩
  go_wp2_with fail
  refine (rfield_to x 11 5 _ _ hx (by decide) (by decide) hd).mono ?_; rintro e w1 ⟨rfl, rfl⟩
  go_wp2_with fail
  refine (rfield_to x 6 5 _ _ hx (by decide) (by decide) ha).mono ?_; rintro e w1 ⟨rfl, rfl⟩
  go_wp2_with fail
  refine (rfield_to x 0 6 _ _ hx (by decide) (by decide) hk).mono ?_; rintro e w1 ⟨rfl, rfl⟩
  go_wp2
  go_ret
  refine ⟨ret_bool ?_, (Below.refl _ _).alloc (Nat.le_refl _) _⟩
  first | rfl | (simp; done) | (simp; omega)
set_option maxRecDepth 4000 in
theorem fits_76_4 (x op s a k : Nat) (nm : ByteArray) (w : World) (hx : x < 4294967296) (hs : Hid (fld x 21 5 = s)) (ht : Hid (fld x 16 5 = 0)) (hd : Hid (fld x 11 5 = 0)) (ha : Hid (fld x 6 5 = a)) (hk : Hid (fld x 0 6 = k)) (hn : ¬ (a : Int) = 0) (bs : s < 64) (ba : a < 64) (bk : k < 64) :
    Calls Try.prog 49 #[.agg #[.int .i64 (op : Int), .int .u8 76, .int .i64 ((x : Int) / 67108864), .int .i64 (k : Int), .string nm], .int .u32 (x : Int)] w fun e w' => e = .returned (.bool false) ∧ Below w.heap.size w w' := by
  go_enter Try.func49, Try.ntmps49
  go_wp2_with fail
  refine (rfield_to x 21 5 _ _ hx (by decide) (by decide) hs).mono ?_; rintro e w1 ⟨rfl, rfl⟩
  go_wp2_with fail
  refine (rfield_to x 16 5 _ _ hx (by decide) (by decide) ht).mono ?_; rintro e w1 ⟨rfl, rfl⟩
  go_wp2_with fail
  refine (rfield_to x 11 5 _ _ hx (by decide) (by decide) hd).mono ?_; rintro e w1 ⟨rfl, rfl⟩
  go_wp2_with fail
  refine (rfield_to x 6 5 _ _ hx (by decide) (by decide) ha).mono ?_; rintro e w1 ⟨rfl, rfl⟩
  go_wp2_with fail
  refine (rfield_to x 0 6 _ _ hx (by decide) (by decide) hk).mono ?_; rintro e w1 ⟨rfl, rfl⟩
  go_wp2
  go_ret
  refine ⟨ret_bool ?_, (Below.refl _ _).alloc (Nat.le_refl _) _⟩
  first | rfl | (simp; done) | (simp; omega)
set_option maxRecDepth 4000 in
theorem fits_76_5 (x op s k : Nat) (nm : ByteArray) (w : World) (hx : x < 4294967296) (hs : Hid (fld x 21 5 = s)) (ht : Hid (fld x 16 5 = 0)) (hd : Hid (fld x 11 5 = 0)) (ha : Hid (fld x 6 5 = 0)) (hk : Hid (fld x 0 6 = k)) (bs : s < 64) (bk : k < 64) :
    Calls Try.prog 49 #[.agg #[.int .i64 (op : Int), .int .u8 76, .int .i64 ((x : Int) / 67108864), .int .i64 (k : Int), .string nm], .int .u32 (x : Int)] w fun e w' => e = .returned (.bool true) ∧ Below w.heap.size w w' := by
  go_enter Try.func49, Try.ntmps49
  go_wp2_with fail
  refine (rfield_to x 21 5 _ _ hx (by decide) (by decide) hs).mono ?_; rintro e w1 ⟨rfl, rfl⟩
  go_wp2_with fail
  refine (rfield_to x 16 5 _ _ hx (by decide) (by decide) ht).mono ?_; rintro e w1 ⟨rfl, rfl⟩
  go_wp2_with fail
  refine (rfield_to x 11 5 _ _ hx (by decide) (by decide) hd).mono ?_; rintro e w1 ⟨rfl, rfl⟩
  go_wp2_with fail
  refine (rfield_to x 6 5 _ _ hx (by decide) (by decide) ha).mono ?_; rintro e w1 ⟨rfl, rfl⟩
  go_wp2_with fail
  refine (rfield_to x 0 6 _ _ hx (by decide) (by decide) hk).mono ?_; rintro e w1 ⟨rfl, rfl⟩
  go_wp2
  go_ret
  refine ⟨ret_bool ?_, (Below.refl _ _).alloc (Nat.le_refl _) _⟩
  first | rfl | (simp; done) | (simp; omega)
set_option maxRecDepth 4000 in
theorem fits_71_0 (x op s t d a k f o : Nat) (nm : ByteArray) (w : World) (hx : x < 4294967296) (hs : Hid (fld x 21 5 = s)) (ht : Hid (fld x 16 5 = t)) (hd : Hid (fld x 11 5 = d)) (ha : Hid (fld x 6 5 = a)) (hk : Hid (fld x 0 6 = k)) (ho : ¬ (x : Int) / 67108864 = (o : Int)) (bs : s < 64) (bt : t < 64) (bd : d < 64) (ba : a < 64) (bk : k < 64) :
    Calls Try.prog 49 #[.agg #[.int .i64 (op : Int), .int .u8 71, .int .i64 ((o : Int)), .int .i64 (f : Int), .string nm], .int .u32 (x : Int)] w fun e w' => e = .returned (.bool false) ∧ Below w.heap.size w w' := by
  go_enter Try.func49, Try.ntmps49
  go_wp2_with fail
  refine (rfield_to x 21 5 _ _ hx (by decide) (by decide) hs).mono ?_; rintro e w1 ⟨rfl, rfl⟩
  go_wp2_with fail
  refine (rfield_to x 16 5 _ _ hx (by decide) (by decide) ht).mono ?_; rintro e w1 ⟨rfl, rfl⟩
  go_wp2_with fail
  refine (rfield_to x 11 5 _ _ hx (by decide) (by decide) hd).mono ?_; rintro e w1 ⟨rfl, rfl⟩
  go_wp2_with fail
  refine (rfield_to x 6 5 _ _ hx (by decide) (by decide) ha).mono ?_; rintro e w1 ⟨rfl, rfl⟩
  go_wp2_with fail
  refine (rfield_to x 0 6 _ _ hx (by decide) (by decide) hk).mono ?_; rintro e w1 ⟨rfl, rfl⟩
  go_wp2
  go_ret
  refine ⟨ret_bool ?_, (Below.refl _ _).alloc (Nat.le_refl _) _⟩
  first | rfl | (simp; done) | (simp; omega)
set_option maxRecDepth 4000 in
theorem fits_71_1 (x op s t d a k f : Nat) (nm : ByteArray) (w : World) (hx : x < 4294967296) (hs : Hid (fld x 21 5 = s)) (ht : Hid (fld x 16 5 = t)) (hd : Hid (fld x 11 5 = d)) (ha : Hid (fld x 6 5 = a)) (hk : Hid (fld x 0 6 = k)) (hn : ¬ (k : Int) = (f : Int)) (bs : s < 64) (bt : t < 64) (bd : d < 64) (ba : a < 64) (bk : k < 64) :
    Calls Try.prog 49 #[.agg #[.int .i64 (op : Int), .int .u8 71, .int .i64 ((x : Int) / 67108864), .int .i64 (f : Int), .string nm], .int .u32 (x : Int)] w fun e w' => e = .returned (.bool false) ∧ Below w.heap.size w w' := by
  go_enter Try.func49, Try.ntmps49
  go_wp2_with fail
  refine (rfield_to x 21 5 _ _ hx (by decide) (by decide) hs).mono ?_; rintro e w1 ⟨rfl, rfl⟩
  go_wp2_with fail
  refine (rfield_to x 16 5 _ _ hx (by decide) (by decide) ht).mono ?_; rintro e w1 ⟨rfl, rfl⟩
  go_wp2_with fail
  refine (rfield_to x 11 5 _ _ hx (by decide) (by decide) hd).mono ?_; rintro e w1 ⟨rfl, rfl⟩
  go_wp2_with fail
  refine (rfield_to x 6 5 _ _ hx (by decide) (by decide) ha).mono ?_; rintro e w1 ⟨rfl, rfl⟩
  go_wp2_with fail
  refine (rfield_to x 0 6 _ _ hx (by decide) (by decide) hk).mono ?_; rintro e w1 ⟨rfl, rfl⟩
  go_wp2
  go_ret
  refine ⟨ret_bool ?_, (Below.refl _ _).alloc (Nat.le_refl _) _⟩
  first | rfl | (simp; done) | (simp; omega)
set_option maxRecDepth 4000 in
theorem fits_71_2 (x op s t d a k : Nat) (nm : ByteArray) (w : World) (hx : x < 4294967296) (hs : Hid (fld x 21 5 = s)) (ht : Hid (fld x 16 5 = t)) (hd : Hid (fld x 11 5 = d)) (ha : Hid (fld x 6 5 = a)) (hk : Hid (fld x 0 6 = k)) (hn : ¬ (t : Int) = 0) (bs : s < 64) (bt : t < 64) (bd : d < 64) (ba : a < 64) (bk : k < 64) :
    Calls Try.prog 49 #[.agg #[.int .i64 (op : Int), .int .u8 71, .int .i64 ((x : Int) / 67108864), .int .i64 (k : Int), .string nm], .int .u32 (x : Int)] w fun e w' => e = .returned (.bool false) ∧ Below w.heap.size w w' := by
  go_enter Try.func49, Try.ntmps49
  go_wp2_with fail
  refine (rfield_to x 21 5 _ _ hx (by decide) (by decide) hs).mono ?_; rintro e w1 ⟨rfl, rfl⟩
  go_wp2_with fail
  refine (rfield_to x 16 5 _ _ hx (by decide) (by decide) ht).mono ?_; rintro e w1 ⟨rfl, rfl⟩
  go_wp2_with fail
  refine (rfield_to x 11 5 _ _ hx (by decide) (by decide) hd).mono ?_; rintro e w1 ⟨rfl, rfl⟩
  go_wp2_with fail
  refine (rfield_to x 6 5 _ _ hx (by decide) (by decide) ha).mono ?_; rintro e w1 ⟨rfl, rfl⟩
  go_wp2_with fail
  refine (rfield_to x 0 6 _ _ hx (by decide) (by decide) hk).mono ?_; rintro e w1 ⟨rfl, rfl⟩
  go_wp2
  go_ret
  refine ⟨ret_bool ?_, (Below.refl _ _).alloc (Nat.le_refl _) _⟩
  first | rfl | (simp; done) | (simp; omega)
set_option maxRecDepth 4000 in
theorem fits_71_3 (x op s d a k : Nat) (nm : ByteArray) (w : World) (hx : x < 4294967296) (hs : Hid (fld x 21 5 = s)) (ht : Hid (fld x 16 5 = 0)) (hd : Hid (fld x 11 5 = d)) (ha : Hid (fld x 6 5 = a)) (hk : Hid (fld x 0 6 = k)) (hn : ¬ (a : Int) = 0) (bs : s < 64) (bd : d < 64) (ba : a < 64) (bk : k < 64) :
    Calls Try.prog 49 #[.agg #[.int .i64 (op : Int), .int .u8 71, .int .i64 ((x : Int) / 67108864), .int .i64 (k : Int), .string nm], .int .u32 (x : Int)] w fun e w' => e = .returned (.bool false) ∧ Below w.heap.size w w' := by
  go_enter Try.func49, Try.ntmps49
  go_wp2_with fail
  refine (rfield_to x 21 5 _ _ hx (by decide) (by decide) hs).mono ?_; rintro e w1 ⟨rfl, rfl⟩
  go_wp2_with fail
  refine (rfield_to x 16 5 _ _ hx (by decide) (by decide) ht).mono ?_; rintro e w1 ⟨rfl, rfl⟩
  go_wp2_with fail
  refine (rfield_to x 11 5 _ _ hx (by decide) (by decide) hd).mono ?_; rintro e w1 ⟨rfl, rfl⟩
  go_wp2_with fail
  refine (rfield_to x 6 5 _ _ hx (by decide) (by decide) ha).mono ?_; rintro e w1 ⟨rfl, rfl⟩
  go_wp2_with fail
  refine (rfield_to x 0 6 _ _ hx (by decide) (by decide) hk).mono ?_; rintro e w1 ⟨rfl, rfl⟩
  go_wp2
  go_ret
  refine ⟨ret_bool ?_, (Below.refl _ _).alloc (Nat.le_refl _) _⟩
  first | rfl | (simp; done) | (simp; omega)
set_option maxRecDepth 4000 in
theorem fits_71_4 (x op s d k : Nat) (nm : ByteArray) (w : World) (hx : x < 4294967296) (hs : Hid (fld x 21 5 = s)) (ht : Hid (fld x 16 5 = 0)) (hd : Hid (fld x 11 5 = d)) (ha : Hid (fld x 6 5 = 0)) (hk : Hid (fld x 0 6 = k)) (bs : s < 64) (bd : d < 64) (bk : k < 64) :
    Calls Try.prog 49 #[.agg #[.int .i64 (op : Int), .int .u8 71, .int .i64 ((x : Int) / 67108864), .int .i64 (k : Int), .string nm], .int .u32 (x : Int)] w fun e w' => e = .returned (.bool true) ∧ Below w.heap.size w w' := by
  go_enter Try.func49, Try.ntmps49
  go_wp2_with fail
  refine (rfield_to x 21 5 _ _ hx (by decide) (by decide) hs).mono ?_; rintro e w1 ⟨rfl, rfl⟩
  go_wp2_with fail
  refine (rfield_to x 16 5 _ _ hx (by decide) (by decide) ht).mono ?_; rintro e w1 ⟨rfl, rfl⟩
  go_wp2_with fail
  refine (rfield_to x 11 5 _ _ hx (by decide) (by decide) hd).mono ?_; rintro e w1 ⟨rfl, rfl⟩
  go_wp2_with fail
  refine (rfield_to x 6 5 _ _ hx (by decide) (by decide) ha).mono ?_; rintro e w1 ⟨rfl, rfl⟩
  go_wp2_with fail
  refine (rfield_to x 0 6 _ _ hx (by decide) (by decide) hk).mono ?_; rintro e w1 ⟨rfl, rfl⟩
  go_wp2
  go_ret
  refine ⟨ret_bool ?_, (Below.refl _ _).alloc (Nat.le_refl _) _⟩
  first | rfl | (simp; done) | (simp; omega)
set_option maxRecDepth 4000 in
theorem fits_84_0 (x op s t d a k f o : Nat) (nm : ByteArray) (w : World) (hx : x < 4294967296) (hs : Hid (fld x 21 5 = s)) (ht : Hid (fld x 16 5 = t)) (hd : Hid (fld x 11 5 = d)) (ha : Hid (fld x 6 5 = a)) (hk : Hid (fld x 0 6 = k)) (ho : ¬ (x : Int) / 67108864 = (o : Int)) (bs : s < 64) (bt : t < 64) (bd : d < 64) (ba : a < 64) (bk : k < 64) :
    Calls Try.prog 49 #[.agg #[.int .i64 (op : Int), .int .u8 84, .int .i64 ((o : Int)), .int .i64 (f : Int), .string nm], .int .u32 (x : Int)] w fun e w' => e = .returned (.bool false) ∧ Below w.heap.size w w' := by
  go_enter Try.func49, Try.ntmps49
  go_wp2_with fail
  refine (rfield_to x 21 5 _ _ hx (by decide) (by decide) hs).mono ?_; rintro e w1 ⟨rfl, rfl⟩
  go_wp2_with fail
  refine (rfield_to x 16 5 _ _ hx (by decide) (by decide) ht).mono ?_; rintro e w1 ⟨rfl, rfl⟩
  go_wp2_with fail
  refine (rfield_to x 11 5 _ _ hx (by decide) (by decide) hd).mono ?_; rintro e w1 ⟨rfl, rfl⟩
  go_wp2_with fail
  refine (rfield_to x 6 5 _ _ hx (by decide) (by decide) ha).mono ?_; rintro e w1 ⟨rfl, rfl⟩
  go_wp2_with fail
  refine (rfield_to x 0 6 _ _ hx (by decide) (by decide) hk).mono ?_; rintro e w1 ⟨rfl, rfl⟩
  go_wp2
  go_ret
  refine ⟨ret_bool ?_, (Below.refl _ _).alloc (Nat.le_refl _) _⟩
  first | rfl | (simp; done) | (simp; omega)
set_option maxRecDepth 4000 in
theorem fits_84_1 (x op s t d a k f : Nat) (nm : ByteArray) (w : World) (hx : x < 4294967296) (hs : Hid (fld x 21 5 = s)) (ht : Hid (fld x 16 5 = t)) (hd : Hid (fld x 11 5 = d)) (ha : Hid (fld x 6 5 = a)) (hk : Hid (fld x 0 6 = k)) (hn : ¬ (k : Int) = (f : Int)) (bs : s < 64) (bt : t < 64) (bd : d < 64) (ba : a < 64) (bk : k < 64) :
    Calls Try.prog 49 #[.agg #[.int .i64 (op : Int), .int .u8 84, .int .i64 ((x : Int) / 67108864), .int .i64 (f : Int), .string nm], .int .u32 (x : Int)] w fun e w' => e = .returned (.bool false) ∧ Below w.heap.size w w' := by
  go_enter Try.func49, Try.ntmps49
  go_wp2_with fail
  refine (rfield_to x 21 5 _ _ hx (by decide) (by decide) hs).mono ?_; rintro e w1 ⟨rfl, rfl⟩
  go_wp2_with fail
  refine (rfield_to x 16 5 _ _ hx (by decide) (by decide) ht).mono ?_; rintro e w1 ⟨rfl, rfl⟩
  go_wp2_with fail
  refine (rfield_to x 11 5 _ _ hx (by decide) (by decide) hd).mono ?_; rintro e w1 ⟨rfl, rfl⟩
  go_wp2_with fail
  refine (rfield_to x 6 5 _ _ hx (by decide) (by decide) ha).mono ?_; rintro e w1 ⟨rfl, rfl⟩
  go_wp2_with fail
  refine (rfield_to x 0 6 _ _ hx (by decide) (by decide) hk).mono ?_; rintro e w1 ⟨rfl, rfl⟩
  go_wp2
  go_ret
  refine ⟨ret_bool ?_, (Below.refl _ _).alloc (Nat.le_refl _) _⟩
  first | rfl | (simp; done) | (simp; omega)
set_option maxRecDepth 4000 in
theorem fits_84_2 (x op s t d a k : Nat) (nm : ByteArray) (w : World) (hx : x < 4294967296) (hs : Hid (fld x 21 5 = s)) (ht : Hid (fld x 16 5 = t)) (hd : Hid (fld x 11 5 = d)) (ha : Hid (fld x 6 5 = a)) (hk : Hid (fld x 0 6 = k)) (bs : s < 64) (bt : t < 64) (bd : d < 64) (ba : a < 64) (bk : k < 64) :
    Calls Try.prog 49 #[.agg #[.int .i64 (op : Int), .int .u8 84, .int .i64 ((x : Int) / 67108864), .int .i64 (k : Int), .string nm], .int .u32 (x : Int)] w fun e w' => e = .returned (.bool true) ∧ Below w.heap.size w w' := by
  go_enter Try.func49, Try.ntmps49
  go_wp2_with fail
  refine (rfield_to x 21 5 _ _ hx (by decide) (by decide) hs).mono ?_; rintro e w1 ⟨rfl, rfl⟩
  go_wp2_with fail
  refine (rfield_to x 16 5 _ _ hx (by decide) (by decide) ht).mono ?_; rintro e w1 ⟨rfl, rfl⟩
  go_wp2_with fail
  refine (rfield_to x 11 5 _ _ hx (by decide) (by decide) hd).mono ?_; rintro e w1 ⟨rfl, rfl⟩
  go_wp2_with fail
  refine (rfield_to x 6 5 _ _ hx (by decide) (by decide) ha).mono ?_; rintro e w1 ⟨rfl, rfl⟩
  go_wp2_with fail
  refine (rfield_to x 0 6 _ _ hx (by decide) (by decide) hk).mono ?_; rintro e w1 ⟨rfl, rfl⟩
  go_wp2
  go_ret
  refine ⟨ret_bool ?_, (Below.refl _ _).alloc (Nat.le_refl _) _⟩
  first | rfl | (simp; done) | (simp; omega)
set_option maxRecDepth 4000 in
theorem fits_67_0 (x op s t d a k f o : Nat) (nm : ByteArray) (w : World) (hx : x < 4294967296) (hs : Hid (fld x 21 5 = s)) (ht : Hid (fld x 16 5 = t)) (hd : Hid (fld x 11 5 = d)) (ha : Hid (fld x 6 5 = a)) (hk : Hid (fld x 0 6 = k)) (ho : ¬ (x : Int) / 67108864 = (o : Int)) (bs : s < 64) (bt : t < 64) (bd : d < 64) (ba : a < 64) (bk : k < 64) :
    Calls Try.prog 49 #[.agg #[.int .i64 (op : Int), .int .u8 67, .int .i64 ((o : Int)), .int .i64 (f : Int), .string nm], .int .u32 (x : Int)] w fun e w' => e = .returned (.bool false) ∧ Below w.heap.size w w' := by
  go_enter Try.func49, Try.ntmps49
  go_wp2_with fail
  refine (rfield_to x 21 5 _ _ hx (by decide) (by decide) hs).mono ?_; rintro e w1 ⟨rfl, rfl⟩
  go_wp2_with fail
  refine (rfield_to x 16 5 _ _ hx (by decide) (by decide) ht).mono ?_; rintro e w1 ⟨rfl, rfl⟩
  go_wp2_with fail
  refine (rfield_to x 11 5 _ _ hx (by decide) (by decide) hd).mono ?_; rintro e w1 ⟨rfl, rfl⟩
  go_wp2_with fail
  refine (rfield_to x 6 5 _ _ hx (by decide) (by decide) ha).mono ?_; rintro e w1 ⟨rfl, rfl⟩
  go_wp2_with fail
  refine (rfield_to x 0 6 _ _ hx (by decide) (by decide) hk).mono ?_; rintro e w1 ⟨rfl, rfl⟩
  go_wp2
  go_ret
  refine ⟨ret_bool ?_, (Below.refl _ _).alloc (Nat.le_refl _) _⟩
  first | rfl | (simp; done) | (simp; omega)
set_option maxRecDepth 4000 in
theorem fits_67_1 (x op s t d a k f : Nat) (nm : ByteArray) (w : World) (hx : x < 4294967296) (hs : Hid (fld x 21 5 = s)) (ht : Hid (fld x 16 5 = t)) (hd : Hid (fld x 11 5 = d)) (ha : Hid (fld x 6 5 = a)) (hk : Hid (fld x 0 6 = k)) (hn : ¬ (k : Int) = (f : Int)) (bs : s < 64) (bt : t < 64) (bd : d < 64) (ba : a < 64) (bk : k < 64) :
    Calls Try.prog 49 #[.agg #[.int .i64 (op : Int), .int .u8 67, .int .i64 ((x : Int) / 67108864), .int .i64 (f : Int), .string nm], .int .u32 (x : Int)] w fun e w' => e = .returned (.bool false) ∧ Below w.heap.size w w' := by
  go_enter Try.func49, Try.ntmps49
  go_wp2_with fail
  refine (rfield_to x 21 5 _ _ hx (by decide) (by decide) hs).mono ?_; rintro e w1 ⟨rfl, rfl⟩
  go_wp2_with fail
  refine (rfield_to x 16 5 _ _ hx (by decide) (by decide) ht).mono ?_; rintro e w1 ⟨rfl, rfl⟩
  go_wp2_with fail
  refine (rfield_to x 11 5 _ _ hx (by decide) (by decide) hd).mono ?_; rintro e w1 ⟨rfl, rfl⟩
  go_wp2_with fail
  refine (rfield_to x 6 5 _ _ hx (by decide) (by decide) ha).mono ?_; rintro e w1 ⟨rfl, rfl⟩
  go_wp2_with fail
  refine (rfield_to x 0 6 _ _ hx (by decide) (by decide) hk).mono ?_; rintro e w1 ⟨rfl, rfl⟩
  go_wp2
  go_ret
  refine ⟨ret_bool ?_, (Below.refl _ _).alloc (Nat.le_refl _) _⟩
  first | rfl | (simp; done) | (simp; omega)
set_option maxRecDepth 4000 in
theorem fits_67_2 (x op s t d a k : Nat) (nm : ByteArray) (w : World) (hx : x < 4294967296) (hs : Hid (fld x 21 5 = s)) (ht : Hid (fld x 16 5 = t)) (hd : Hid (fld x 11 5 = d)) (ha : Hid (fld x 6 5 = a)) (hk : Hid (fld x 0 6 = k)) (bs : s < 64) (bt : t < 64) (bd : d < 64) (ba : a < 64) (bk : k < 64) :
    Calls Try.prog 49 #[.agg #[.int .i64 (op : Int), .int .u8 67, .int .i64 ((x : Int) / 67108864), .int .i64 (k : Int), .string nm], .int .u32 (x : Int)] w fun e w' => e = .returned (.bool true) ∧ Below w.heap.size w w' := by
  go_enter Try.func49, Try.ntmps49
  go_wp2_with fail
  refine (rfield_to x 21 5 _ _ hx (by decide) (by decide) hs).mono ?_; rintro e w1 ⟨rfl, rfl⟩
  go_wp2_with fail
  refine (rfield_to x 16 5 _ _ hx (by decide) (by decide) ht).mono ?_; rintro e w1 ⟨rfl, rfl⟩
  go_wp2_with fail
  refine (rfield_to x 11 5 _ _ hx (by decide) (by decide) hd).mono ?_; rintro e w1 ⟨rfl, rfl⟩
  go_wp2_with fail
  refine (rfield_to x 6 5 _ _ hx (by decide) (by decide) ha).mono ?_; rintro e w1 ⟨rfl, rfl⟩
  go_wp2_with fail
  refine (rfield_to x 0 6 _ _ hx (by decide) (by decide) hk).mono ?_; rintro e w1 ⟨rfl, rfl⟩
  go_wp2
  go_ret
  refine ⟨ret_bool ?_, (Below.refl _ _).alloc (Nat.le_refl _) _⟩
  first | rfl | (simp; done) | (simp; omega)
set_option maxRecDepth 4000 in
theorem fits_89_0 (x op s t d a k f o : Nat) (nm : ByteArray) (w : World) (hx : x < 4294967296) (hs : Hid (fld x 21 5 = s)) (ht : Hid (fld x 16 5 = t)) (hd : Hid (fld x 11 5 = d)) (ha : Hid (fld x 6 5 = a)) (hk : Hid (fld x 0 6 = k)) (ho : ¬ (x : Int) / 67108864 = (o : Int)) (bs : s < 64) (bt : t < 64) (bd : d < 64) (ba : a < 64) (bk : k < 64) :
    Calls Try.prog 49 #[.agg #[.int .i64 (op : Int), .int .u8 89, .int .i64 ((o : Int)), .int .i64 (f : Int), .string nm], .int .u32 (x : Int)] w fun e w' => e = .returned (.bool false) ∧ Below w.heap.size w w' := by
  go_enter Try.func49, Try.ntmps49
  go_wp2_with fail
  refine (rfield_to x 21 5 _ _ hx (by decide) (by decide) hs).mono ?_; rintro e w1 ⟨rfl, rfl⟩
  go_wp2_with fail
  refine (rfield_to x 16 5 _ _ hx (by decide) (by decide) ht).mono ?_; rintro e w1 ⟨rfl, rfl⟩
  go_wp2_with fail
  refine (rfield_to x 11 5 _ _ hx (by decide) (by decide) hd).mono ?_; rintro e w1 ⟨rfl, rfl⟩
  go_wp2_with fail
  refine (rfield_to x 6 5 _ _ hx (by decide) (by decide) ha).mono ?_; rintro e w1 ⟨rfl, rfl⟩
  go_wp2_with fail
  refine (rfield_to x 0 6 _ _ hx (by decide) (by decide) hk).mono ?_; rintro e w1 ⟨rfl, rfl⟩
  go_wp2
  go_ret
  refine ⟨ret_bool ?_, (Below.refl _ _).alloc (Nat.le_refl _) _⟩
  first | rfl | (simp; done) | (simp; omega)
set_option maxRecDepth 4000 in
theorem fits_89_1 (x op s t d a k f : Nat) (nm : ByteArray) (w : World) (hx : x < 4294967296) (hs : Hid (fld x 21 5 = s)) (ht : Hid (fld x 16 5 = t)) (hd : Hid (fld x 11 5 = d)) (ha : Hid (fld x 6 5 = a)) (hk : Hid (fld x 0 6 = k)) (hn : ¬ (k : Int) = (f : Int)) (bs : s < 64) (bt : t < 64) (bd : d < 64) (ba : a < 64) (bk : k < 64) :
    Calls Try.prog 49 #[.agg #[.int .i64 (op : Int), .int .u8 89, .int .i64 ((x : Int) / 67108864), .int .i64 (f : Int), .string nm], .int .u32 (x : Int)] w fun e w' => e = .returned (.bool false) ∧ Below w.heap.size w w' := by
  go_enter Try.func49, Try.ntmps49
  go_wp2_with fail
  refine (rfield_to x 21 5 _ _ hx (by decide) (by decide) hs).mono ?_; rintro e w1 ⟨rfl, rfl⟩
  go_wp2_with fail
  refine (rfield_to x 16 5 _ _ hx (by decide) (by decide) ht).mono ?_; rintro e w1 ⟨rfl, rfl⟩
  go_wp2_with fail
  refine (rfield_to x 11 5 _ _ hx (by decide) (by decide) hd).mono ?_; rintro e w1 ⟨rfl, rfl⟩
  go_wp2_with fail
  refine (rfield_to x 6 5 _ _ hx (by decide) (by decide) ha).mono ?_; rintro e w1 ⟨rfl, rfl⟩
  go_wp2_with fail
  refine (rfield_to x 0 6 _ _ hx (by decide) (by decide) hk).mono ?_; rintro e w1 ⟨rfl, rfl⟩
  go_wp2
  go_ret
  refine ⟨ret_bool ?_, (Below.refl _ _).alloc (Nat.le_refl _) _⟩
  first | rfl | (simp; done) | (simp; omega)
set_option maxRecDepth 4000 in
theorem fits_89_2 (x op s t d a k : Nat) (nm : ByteArray) (w : World) (hx : x < 4294967296) (hs : Hid (fld x 21 5 = s)) (ht : Hid (fld x 16 5 = t)) (hd : Hid (fld x 11 5 = d)) (ha : Hid (fld x 6 5 = a)) (hk : Hid (fld x 0 6 = k)) (hn : ¬ (a : Int) = 0) (bs : s < 64) (bt : t < 64) (bd : d < 64) (ba : a < 64) (bk : k < 64) :
    Calls Try.prog 49 #[.agg #[.int .i64 (op : Int), .int .u8 89, .int .i64 ((x : Int) / 67108864), .int .i64 (k : Int), .string nm], .int .u32 (x : Int)] w fun e w' => e = .returned (.bool false) ∧ Below w.heap.size w w' := by
  go_enter Try.func49, Try.ntmps49
  go_wp2_with fail
  refine (rfield_to x 21 5 _ _ hx (by decide) (by decide) hs).mono ?_; rintro e w1 ⟨rfl, rfl⟩
  go_wp2_with fail
  refine (rfield_to x 16 5 _ _ hx (by decide) (by decide) ht).mono ?_; rintro e w1 ⟨rfl, rfl⟩
  go_wp2_with fail
  refine (rfield_to x 11 5 _ _ hx (by decide) (by decide) hd).mono ?_; rintro e w1 ⟨rfl, rfl⟩
  go_wp2_with fail
  refine (rfield_to x 6 5 _ _ hx (by decide) (by decide) ha).mono ?_; rintro e w1 ⟨rfl, rfl⟩
  go_wp2_with fail
  refine (rfield_to x 0 6 _ _ hx (by decide) (by decide) hk).mono ?_; rintro e w1 ⟨rfl, rfl⟩
  go_wp2
  go_ret
  refine ⟨ret_bool ?_, (Below.refl _ _).alloc (Nat.le_refl _) _⟩
  first | rfl | (simp; done) | (simp; omega)
end Go.Proofs.Ytjoaenfibkgplaa
