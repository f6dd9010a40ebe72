import Derived.Test.YtjoaenfibkgplaaE7
namespace Go.Proofs.Ytjoaenfibkgplaa
set_option linter.unusedSimpArgs false
open Go.RowKit Go.Cq
set_option linter.unusedVariables false
theorem rsext_to (x v : Nat) (w : World) (hx : x < 4294967296) (hv : Hid (sx (x % 65536) = v)) :
    Calls Try.prog 95 #[.int .u32 (x : Int), .int .i64 16] w fun e w' => e = .returned (.int .u32 (v : Int)) ∧ w = w' := by
  rw [← hv.out]; exact rsext_any x w hx
/-- What a form's word says. -/
def refCut (form op x : Nat) : Insn :=
  if form = 68 ∨ form = 88 ∨ form = 89 then ⟨op, fld x 21 5, fld x 16 5, fld x 11 5, 0, 0⟩
  else if form = 72 then ⟨op, 0, fld x 16 5, fld x 11 5, fld x 6 5, 0⟩
  else if form = 77 then ⟨op, fld x 21 5, fld x 16 5, 0, 0, 0⟩
  else if form = 70 then ⟨op, 0, 0, fld x 11 5, 0, 0⟩
  else if form = 76 then ⟨op, fld x 21 5, 0, 0, 0, 0⟩
  else if form = 71 then ⟨op, fld x 21 5, 0, fld x 11 5, 0, 0⟩
  else if form = 84 then ⟨op, fld x 21 5, fld x 16 5, 0, 0, fld x 6 10⟩
  else if form = 67 then ⟨op, 0, 0, 0, 0, fld x 6 20⟩
  else if form = 73 ∨ form = 80 then ⟨op, fld x 21 5, fld x 16 5, 0, 0, sx (x % 65536)⟩
  else if form = 85 then ⟨op, fld x 21 5, fld x 16 5, 0, 0, x % 65536⟩
  else if form = 86 then ⟨op, 0, fld x 16 5, 0, 0, x % 65536⟩
  else if form = 66 then ⟨op, fld x 21 5, fld x 16 5, 0, 0, sx (x % 65536) * 4 % 4294967296⟩
  else if form = 90 ∨ form = 82 then ⟨op, fld x 21 5, 0, 0, 0, sx (x % 65536) * 4 % 4294967296⟩
  else if form = 74 then ⟨op, 0, 0, 0, 0, fld x 0 26 * 4⟩
  else ⟨op, 0, 0, 0, 0, 0⟩
theorem agg6 {a b c d e f a' b' c' d' e' f' : Int} (ha : a = a') (hb : b = b') (hc : c = c') (hd : d = d') (he : e = e') (hf : f = f') :
    Ending.returned (.agg #[.int .i64 a, .int .i64 b, .int .i64 c, .int .i64 d, .int .i64 e, .int .u32 f]) = .returned (.agg #[.int .i64 a', .int .i64 b', .int .i64 c', .int .i64 d', .int .i64 e', .int .u32 f']) := by subst ha hb hc hd he hf; rfl
theorem alloc_mid (w : World) (A : Obj) (cs : Array Value) (t : TypeId) (C : Obj) : (((w.alloc A).alloc (.cells cs t)).alloc C).heap[w.heap.size + 1]? = some (.cells cs t (0, 0)) := by
  have h := blk_alloc (heap_alloc_last (w.alloc A) (.cells cs t)) C
  have e : (w.alloc A).heap.size = w.heap.size + 1 := by simp
  rw [e] at h
  exact h
theorem cut_end {W : World} {b : Nat} {cs : Array Value} {tmps : Array Value} {R : Ending → World → Prop} (hp : tmps.getD 4 undef = .pointer (some ⟨b, 0, none⟩)) (hb : W.heap[b]? = some (.cells cs 43 (0, 0))) (hs : cs.size = 6)
    (hR : R (.returned (.agg cs)) W) : bodyPost Try.prog Try.f50 R .ret ⟨tmps, []⟩ W :=
  bodyPost_ret (results_cell_row rfl _ _ b 43 cs (0, 0) _ hp hb Try.underlying43 rfl (by rw [hs]; exact Try.info43)) rfl hR
set_option maxRecDepth 4000 in
theorem cut_68 (x op s t d v : Nat) (o f : Int) (nm : ByteArray) (w : World) (hx : x < 4294967296) (hs : Hid (fld x 21 5 = s)) (ht : Hid (fld x 16 5 = t)) (hd : Hid (fld x 11 5 = d)) (hv : Hid (sx (x % 65536) = v)) (bs : s < 32) (bt : t < 32) (bd : d < 32) (bv : v < 4294967296) :
    Calls Try.prog 50 #[.agg #[.int .i64 (op : Int), .int .u8 68, .int .i64 o, .int .i64 f, .string nm], .int .u32 (x : Int)] w fun e w' => e = .returned (.agg (insVals (refCut 68 op x))) ∧ Below w.heap.size w w' := by
  go_enter Try.func50, Try.ntmps50
  go_wp2_with (refine wpList_store_row rfl 43 _ _ rfl _ _ rfl rfl 43 _ (heap_alloc_last _ _) Try.info43 rfl (six_one _ _ _ _ _ _) ?_; rw [World.setRow_alloc_new])
  refine (rfield_to x 21 5 _ _ hx (by decide) (by decide) hs).mono ?_; rintro e w1 ⟨rfl, rfl⟩
  go_wp2_with fail
  refine (rfield_to x 16 5 _ _ hx (by decide) (by decide) ht).mono ?_; rintro e w1 ⟨rfl, rfl⟩
  go_wp2_with fail
  refine (rfield_to x 11 5 _ _ hx (by decide) (by decide) hd).mono ?_; rintro e w1 ⟨rfl, rfl⟩
  go_wp2_with fail
  refine (rsext_to x _ _ hx hv).mono ?_; rintro e w1 ⟨rfl, rfl⟩
  go_wp2_with (first
    | (refine wpList_load_row rfl 43 _ rfl (w.heap.size + 1 + 1) rfl 43 _ (0, 0) _ (heap_alloc_last _ _) Try.underlying43 rfl Try.info43 ?_)
    | (refine wpList_store_row rfl 43 _ _ rfl (w.heap.size + 1) _ rfl rfl 43 _ (blk_alloc (heap_alloc_last _ _) _) Try.info43 rfl (six_one _ _ _ _ _ _) ?_))
  refine cut_end rfl (alloc_mid _ _ _ _ _) (by rfl) ⟨?_, (((Below.refl _ _).alloc (Nat.le_refl _) _).alloc (by simp) _).alloc (by simp; omega) _⟩
  have e : refCut 68 op x = ⟨op, s, t, d, 0, 0⟩ := by rw [← hs.out, ← ht.out, ← hd.out]; rfl
  rw [e]
  refine agg6 ?_ ?_ ?_ ?_ ?_ ?_ <;> first | rfl | (simp; done) | (rw [u32_mask16 _ hx]) | omega
set_option maxRecDepth 4000 in
theorem cut_88 (x op s t d v : Nat) (o f : Int) (nm : ByteArray) (w : World) (hx : x < 4294967296) (hs : Hid (fld x 21 5 = s)) (ht : Hid (fld x 16 5 = t)) (hd : Hid (fld x 11 5 = d)) (hv : Hid (sx (x % 65536) = v)) (bs : s < 32) (bt : t < 32) (bd : d < 32) (bv : v < 4294967296) :
    Calls Try.prog 50 #[.agg #[.int .i64 (op : Int), .int .u8 88, .int .i64 o, .int .i64 f, .string nm], .int .u32 (x : Int)] w fun e w' => e = .returned (.agg (insVals (refCut 88 op x))) ∧ Below w.heap.size w w' := by
  go_enter Try.func50, Try.ntmps50
  go_wp2_with (refine wpList_store_row rfl 43 _ _ rfl _ _ rfl rfl 43 _ (heap_alloc_last _ _) Try.info43 rfl (six_one _ _ _ _ _ _) ?_; rw [World.setRow_alloc_new])
  refine (rfield_to x 21 5 _ _ hx (by decide) (by decide) hs).mono ?_; rintro e w1 ⟨rfl, rfl⟩
  go_wp2_with fail
  refine (rfield_to x 16 5 _ _ hx (by decide) (by decide) ht).mono ?_; rintro e w1 ⟨rfl, rfl⟩
  go_wp2_with fail
  refine (rfield_to x 11 5 _ _ hx (by decide) (by decide) hd).mono ?_; rintro e w1 ⟨rfl, rfl⟩
  go_wp2_with fail
  refine (rsext_to x _ _ hx hv).mono ?_; rintro e w1 ⟨rfl, rfl⟩
  go_wp2_with (first
    | (refine wpList_load_row rfl 43 _ rfl (w.heap.size + 1 + 1) rfl 43 _ (0, 0) _ (heap_alloc_last _ _) Try.underlying43 rfl Try.info43 ?_)
    | (refine wpList_store_row rfl 43 _ _ rfl (w.heap.size + 1) _ rfl rfl 43 _ (blk_alloc (heap_alloc_last _ _) _) Try.info43 rfl (six_one _ _ _ _ _ _) ?_))
  refine cut_end rfl (alloc_mid _ _ _ _ _) (by rfl) ⟨?_, (((Below.refl _ _).alloc (Nat.le_refl _) _).alloc (by simp) _).alloc (by simp; omega) _⟩
  have e : refCut 88 op x = ⟨op, s, t, d, 0, 0⟩ := by rw [← hs.out, ← ht.out, ← hd.out]; rfl
  rw [e]
  refine agg6 ?_ ?_ ?_ ?_ ?_ ?_ <;> first | rfl | (simp; done) | (rw [u32_mask16 _ hx]) | omega
set_option maxRecDepth 4000 in
theorem cut_89 (x op s t d v : Nat) (o f : Int) (nm : ByteArray) (w : World) (hx : x < 4294967296) (hs : Hid (fld x 21 5 = s)) (ht : Hid (fld x 16 5 = t)) (hd : Hid (fld x 11 5 = d)) (hv : Hid (sx (x % 65536) = v)) (bs : s < 32) (bt : t < 32) (bd : d < 32) (bv : v < 4294967296) :
    Calls Try.prog 50 #[.agg #[.int .i64 (op : Int), .int .u8 89, .int .i64 o, .int .i64 f, .string nm], .int .u32 (x : Int)] w fun e w' => e = .returned (.agg (insVals (refCut 89 op x))) ∧ Below w.heap.size w w' := by
  go_enter Try.func50, Try.ntmps50
  go_wp2_with (refine wpList_store_row rfl 43 _ _ rfl _ _ rfl rfl 43 _ (heap_alloc_last _ _) Try.info43 rfl (six_one _ _ _ _ _ _) ?_; rw [World.setRow_alloc_new])
  refine (rfield_to x 21 5 _ _ hx (by decide) (by decide) hs).mono ?_; rintro e w1 ⟨rfl, rfl⟩
  go_wp2_with fail
  refine (rfield_to x 16 5 _ _ hx (by decide) (by decide) ht).mono ?_; rintro e w1 ⟨rfl, rfl⟩
  go_wp2_with fail
  refine (rfield_to x 11 5 _ _ hx (by decide) (by decide) hd).mono ?_; rintro e w1 ⟨rfl, rfl⟩
  go_wp2_with fail
  refine (rsext_to x _ _ hx hv).mono ?_; rintro e w1 ⟨rfl, rfl⟩
  go_wp2_with (first
    | (refine wpList_load_row rfl 43 _ rfl (w.heap.size + 1 + 1) rfl 43 _ (0, 0) _ (heap_alloc_last _ _) Try.underlying43 rfl Try.info43 ?_)
    | (refine wpList_store_row rfl 43 _ _ rfl (w.heap.size + 1) _ rfl rfl 43 _ (blk_alloc (heap_alloc_last _ _) _) Try.info43 rfl (six_one _ _ _ _ _ _) ?_))
  refine cut_end rfl (alloc_mid _ _ _ _ _) (by rfl) ⟨?_, (((Below.refl _ _).alloc (Nat.le_refl _) _).alloc (by simp) _).alloc (by simp; omega) _⟩
  have e : refCut 89 op x = ⟨op, s, t, d, 0, 0⟩ := by rw [← hs.out, ← ht.out, ← hd.out]; rfl
  rw [e]
  refine agg6 ?_ ?_ ?_ ?_ ?_ ?_ <;> first | rfl | (simp; done) | (rw [u32_mask16 _ hx]) | omega
set_option maxRecDepth 4000 in
theorem cut_72 (x op s t d v u : Nat) (o f : Int) (nm : ByteArray) (w : World) (hx : x < 4294967296) (hs : Hid (fld x 21 5 = s)) (ht : Hid (fld x 16 5 = t)) (hd : Hid (fld x 11 5 = d)) (hv : Hid (sx (x % 65536) = v)) (hu : Hid (fld x 6 5 = u)) (bs : s < 32) (bt : t < 32) (bd : d < 32) (bv : v < 4294967296) (bu : u < 32) :
    Calls Try.prog 50 #[.agg #[.int .i64 (op : Int), .int .u8 72, .int .i64 o, .int .i64 f, .string nm], .int .u32 (x : Int)] w fun e w' => e = .returned (.agg (insVals (refCut 72 op x))) ∧ Below w.heap.size w w' := by
  go_enter Try.func50, Try.ntmps50
  go_wp2_with (refine wpList_store_row rfl 43 _ _ rfl _ _ rfl rfl 43 _ (heap_alloc_last _ _) Try.info43 rfl (six_one _ _ _ _ _ _) ?_; rw [World.setRow_alloc_new])
  refine (rfield_to x 21 5 _ _ hx (by decide) (by decide) hs).mono ?_; rintro e w1 ⟨rfl, rfl⟩
  go_wp2_with fail
  refine (rfield_to x 16 5 _ _ hx (by decide) (by decide) ht).mono ?_; rintro e w1 ⟨rfl, rfl⟩
  go_wp2_with fail
  refine (rfield_to x 11 5 _ _ hx (by decide) (by decide) hd).mono ?_; rintro e w1 ⟨rfl, rfl⟩
  go_wp2_with fail
  refine (rsext_to x _ _ hx hv).mono ?_; rintro e w1 ⟨rfl, rfl⟩
  go_wp2_with fail
  refine (rfield_to x 6 5 _ _ hx (by decide) (by decide) hu).mono ?_; rintro e w1 ⟨rfl, rfl⟩
  go_wp2_with (first
    | (refine wpList_load_row rfl 43 _ rfl (w.heap.size + 1 + 1) rfl 43 _ (0, 0) _ (heap_alloc_last _ _) Try.underlying43 rfl Try.info43 ?_)
    | (refine wpList_store_row rfl 43 _ _ rfl (w.heap.size + 1) _ rfl rfl 43 _ (blk_alloc (heap_alloc_last _ _) _) Try.info43 rfl (six_one _ _ _ _ _ _) ?_))
  refine cut_end rfl (alloc_mid _ _ _ _ _) (by rfl) ⟨?_, (((Below.refl _ _).alloc (Nat.le_refl _) _).alloc (by simp) _).alloc (by simp; omega) _⟩
  have e : refCut 72 op x = ⟨op, 0, t, d, u, 0⟩ := by rw [← ht.out, ← hd.out, ← hu.out]; rfl
  rw [e]
  refine agg6 ?_ ?_ ?_ ?_ ?_ ?_ <;> first | rfl | (simp; done) | (rw [u32_mask16 _ hx]) | omega
set_option maxRecDepth 4000 in
theorem cut_77 (x op s t d v : Nat) (o f : Int) (nm : ByteArray) (w : World) (hx : x < 4294967296) (hs : Hid (fld x 21 5 = s)) (ht : Hid (fld x 16 5 = t)) (hd : Hid (fld x 11 5 = d)) (hv : Hid (sx (x % 65536) = v)) (bs : s < 32) (bt : t < 32) (bd : d < 32) (bv : v < 4294967296) :
    Calls Try.prog 50 #[.agg #[.int .i64 (op : Int), .int .u8 77, .int .i64 o, .int .i64 f, .string nm], .int .u32 (x : Int)] w fun e w' => e = .returned (.agg (insVals (refCut 77 op x))) ∧ Below w.heap.size w w' := by
  go_enter Try.func50, Try.ntmps50
  go_wp2_with (refine wpList_store_row rfl 43 _ _ rfl _ _ rfl rfl 43 _ (heap_alloc_last _ _) Try.info43 rfl (six_one _ _ _ _ _ _) ?_; rw [World.setRow_alloc_new])
  refine (rfield_to x 21 5 _ _ hx (by decide) (by decide) hs).mono ?_; rintro e w1 ⟨rfl, rfl⟩
  go_wp2_with fail
  refine (rfield_to x 16 5 _ _ hx (by decide) (by decide) ht).mono ?_; rintro e w1 ⟨rfl, rfl⟩
  go_wp2_with fail
  refine (rfield_to x 11 5 _ _ hx (by decide) (by decide) hd).mono ?_; rintro e w1 ⟨rfl, rfl⟩
  go_wp2_with fail
  refine (rsext_to x _ _ hx hv).mono ?_; rintro e w1 ⟨rfl, rfl⟩
  go_wp2_with (first
    | (refine wpList_load_row rfl 43 _ rfl (w.heap.size + 1 + 1) rfl 43 _ (0, 0) _ (heap_alloc_last _ _) Try.underlying43 rfl Try.info43 ?_)
    | (refine wpList_store_row rfl 43 _ _ rfl (w.heap.size + 1) _ rfl rfl 43 _ (blk_alloc (heap_alloc_last _ _) _) Try.info43 rfl (six_one _ _ _ _ _ _) ?_))
  refine cut_end rfl (alloc_mid _ _ _ _ _) (by rfl) ⟨?_, (((Below.refl _ _).alloc (Nat.le_refl _) _).alloc (by simp) _).alloc (by simp; omega) _⟩
  have e : refCut 77 op x = ⟨op, s, t, 0, 0, 0⟩ := by rw [← hs.out, ← ht.out]; rfl
  rw [e]
  refine agg6 ?_ ?_ ?_ ?_ ?_ ?_ <;> first | rfl | (simp; done) | (rw [u32_mask16 _ hx]) | omega
set_option maxRecDepth 4000 in
theorem cut_70 (x op s t d v : Nat) (o f : Int) (nm : ByteArray) (w : World) (hx : x < 4294967296) (hs : Hid (fld x 21 5 = s)) (ht : Hid (fld x 16 5 = t)) (hd : Hid (fld x 11 5 = d)) (hv : Hid (sx (x % 65536) = v)) (bs : s < 32) (bt : t < 32) (bd : d < 32) (bv : v < 4294967296) :
    Calls Try.prog 50 #[.agg #[.int .i64 (op : Int), .int .u8 70, .int .i64 o, .int .i64 f, .string nm], .int .u32 (x : Int)] w fun e w' => e = .returned (.agg (insVals (refCut 70 op x))) ∧ Below w.heap.size w w' := by
  go_enter Try.func50, Try.ntmps50
  go_wp2_with (refine wpList_store_row rfl 43 _ _ rfl _ _ rfl rfl 43 _ (heap_alloc_last _ _) Try.info43 rfl (six_one _ _ _ _ _ _) ?_; rw [World.setRow_alloc_new])
  refine (rfield_to x 21 5 _ _ hx (by decide) (by decide) hs).mono ?_; rintro e w1 ⟨rfl, rfl⟩
  go_wp2_with fail
  refine (rfield_to x 16 5 _ _ hx (by decide) (by decide) ht).mono ?_; rintro e w1 ⟨rfl, rfl⟩
  go_wp2_with fail
  refine (rfield_to x 11 5 _ _ hx (by decide) (by decide) hd).mono ?_; rintro e w1 ⟨rfl, rfl⟩
  go_wp2_with fail
  refine (rsext_to x _ _ hx hv).mono ?_; rintro e w1 ⟨rfl, rfl⟩
  go_wp2_with (first
    | (refine wpList_load_row rfl 43 _ rfl (w.heap.size + 1 + 1) rfl 43 _ (0, 0) _ (heap_alloc_last _ _) Try.underlying43 rfl Try.info43 ?_)
    | (refine wpList_store_row rfl 43 _ _ rfl (w.heap.size + 1) _ rfl rfl 43 _ (blk_alloc (heap_alloc_last _ _) _) Try.info43 rfl (six_one _ _ _ _ _ _) ?_))
  refine cut_end rfl (alloc_mid _ _ _ _ _) (by rfl) ⟨?_, (((Below.refl _ _).alloc (Nat.le_refl _) _).alloc (by simp) _).alloc (by simp; omega) _⟩
  have e : refCut 70 op x = ⟨op, 0, 0, d, 0, 0⟩ := by rw [← hd.out]; rfl
  rw [e]
  refine agg6 ?_ ?_ ?_ ?_ ?_ ?_ <;> first | rfl | (simp; done) | (rw [u32_mask16 _ hx]) | omega
set_option maxRecDepth 4000 in
theorem cut_76 (x op s t d v : Nat) (o f : Int) (nm : ByteArray) (w : World) (hx : x < 4294967296) (hs : Hid (fld x 21 5 = s)) (ht : Hid (fld x 16 5 = t)) (hd : Hid (fld x 11 5 = d)) (hv : Hid (sx (x % 65536) = v)) (bs : s < 32) (bt : t < 32) (bd : d < 32) (bv : v < 4294967296) :
    Calls Try.prog 50 #[.agg #[.int .i64 (op : Int), .int .u8 76, .int .i64 o, .int .i64 f, .string nm], .int .u32 (x : Int)] w fun e w' => e = .returned (.agg (insVals (refCut 76 op x))) ∧ Below w.heap.size w w' := by
  go_enter Try.func50, Try.ntmps50
  go_wp2_with (refine wpList_store_row rfl 43 _ _ rfl _ _ rfl rfl 43 _ (heap_alloc_last _ _) Try.info43 rfl (six_one _ _ _ _ _ _) ?_; rw [World.setRow_alloc_new])
  refine (rfield_to x 21 5 _ _ hx (by decide) (by decide) hs).mono ?_; rintro e w1 ⟨rfl, rfl⟩
  go_wp2_with fail
  refine (rfield_to x 16 5 _ _ hx (by decide) (by decide) ht).mono ?_; rintro e w1 ⟨rfl, rfl⟩
  go_wp2_with fail
  refine (rfield_to x 11 5 _ _ hx (by decide) (by decide) hd).mono ?_; rintro e w1 ⟨rfl, rfl⟩
  go_wp2_with fail
  refine (rsext_to x _ _ hx hv).mono ?_; rintro e w1 ⟨rfl, rfl⟩
  go_wp2_with (first
    | (refine wpList_load_row rfl 43 _ rfl (w.heap.size + 1 + 1) rfl 43 _ (0, 0) _ (heap_alloc_last _ _) Try.underlying43 rfl Try.info43 ?_)
    | (refine wpList_store_row rfl 43 _ _ rfl (w.heap.size + 1) _ rfl rfl 43 _ (blk_alloc (heap_alloc_last _ _) _) Try.info43 rfl (six_one _ _ _ _ _ _) ?_))
  refine cut_end rfl (alloc_mid _ _ _ _ _) (by rfl) ⟨?_, (((Below.refl _ _).alloc (Nat.le_refl _) _).alloc (by simp) _).alloc (by simp; omega) _⟩
  have e : refCut 76 op x = ⟨op, s, 0, 0, 0, 0⟩ := by rw [← hs.out]; rfl
  rw [e]
  refine agg6 ?_ ?_ ?_ ?_ ?_ ?_ <;> first | rfl | (simp; done) | (rw [u32_mask16 _ hx]) | omega
set_option maxRecDepth 4000 in
theorem cut_71 (x op s t d v : Nat) (o f : Int) (nm : ByteArray) (w : World) (hx : x < 4294967296) (hs : Hid (fld x 21 5 = s)) (ht : Hid (fld x 16 5 = t)) (hd : Hid (fld x 11 5 = d)) (hv : Hid (sx (x % 65536) = v)) (bs : s < 32) (bt : t < 32) (bd : d < 32) (bv : v < 4294967296) :
    Calls Try.prog 50 #[.agg #[.int .i64 (op : Int), .int .u8 71, .int .i64 o, .int .i64 f, .string nm], .int .u32 (x : Int)] w fun e w' => e = .returned (.agg (insVals (refCut 71 op x))) ∧ Below w.heap.size w w' := by
  go_enter Try.func50, Try.ntmps50
  go_wp2_with (refine wpList_store_row rfl 43 _ _ rfl _ _ rfl rfl 43 _ (heap_alloc_last _ _) Try.info43 rfl (six_one _ _ _ _ _ _) ?_; rw [World.setRow_alloc_new])
  refine (rfield_to x 21 5 _ _ hx (by decide) (by decide) hs).mono ?_; rintro e w1 ⟨rfl, rfl⟩
  go_wp2_with fail
  refine (rfield_to x 16 5 _ _ hx (by decide) (by decide) ht).mono ?_; rintro e w1 ⟨rfl, rfl⟩
  go_wp2_with fail
  refine (rfield_to x 11 5 _ _ hx (by decide) (by decide) hd).mono ?_; rintro e w1 ⟨rfl, rfl⟩
  go_wp2_with fail
  refine (rsext_to x _ _ hx hv).mono ?_; rintro e w1 ⟨rfl, rfl⟩
  go_wp2_with (first
    | (refine wpList_load_row rfl 43 _ rfl (w.heap.size + 1 + 1) rfl 43 _ (0, 0) _ (heap_alloc_last _ _) Try.underlying43 rfl Try.info43 ?_)
    | (refine wpList_store_row rfl 43 _ _ rfl (w.heap.size + 1) _ rfl rfl 43 _ (blk_alloc (heap_alloc_last _ _) _) Try.info43 rfl (six_one _ _ _ _ _ _) ?_))
  refine cut_end rfl (alloc_mid _ _ _ _ _) (by rfl) ⟨?_, (((Below.refl _ _).alloc (Nat.le_refl _) _).alloc (by simp) _).alloc (by simp; omega) _⟩
  have e : refCut 71 op x = ⟨op, s, 0, d, 0, 0⟩ := by rw [← hs.out, ← hd.out]; rfl
  rw [e]
  refine agg6 ?_ ?_ ?_ ?_ ?_ ?_ <;> first | rfl | (simp; done) | (rw [u32_mask16 _ hx]) | omega
set_option maxRecDepth 4000 in
theorem cut_84 (x op s t d v u : Nat) (o f : Int) (nm : ByteArray) (w : World) (hx : x < 4294967296) (hs : Hid (fld x 21 5 = s)) (ht : Hid (fld x 16 5 = t)) (hd : Hid (fld x 11 5 = d)) (hv : Hid (sx (x % 65536) = v)) (hu : Hid (fld x 6 10 = u)) (bs : s < 32) (bt : t < 32) (bd : d < 32) (bv : v < 4294967296) (bu : u < 1024) :
    Calls Try.prog 50 #[.agg #[.int .i64 (op : Int), .int .u8 84, .int .i64 o, .int .i64 f, .string nm], .int .u32 (x : Int)] w fun e w' => e = .returned (.agg (insVals (refCut 84 op x))) ∧ Below w.heap.size w w' := by
  go_enter Try.func50, Try.ntmps50
  go_wp2_with (refine wpList_store_row rfl 43 _ _ rfl _ _ rfl rfl 43 _ (heap_alloc_last _ _) Try.info43 rfl (six_one _ _ _ _ _ _) ?_; rw [World.setRow_alloc_new])
  refine (rfield_to x 21 5 _ _ hx (by decide) (by decide) hs).mono ?_; rintro e w1 ⟨rfl, rfl⟩
  go_wp2_with fail
  refine (rfield_to x 16 5 _ _ hx (by decide) (by decide) ht).mono ?_; rintro e w1 ⟨rfl, rfl⟩
  go_wp2_with fail
  refine (rfield_to x 11 5 _ _ hx (by decide) (by decide) hd).mono ?_; rintro e w1 ⟨rfl, rfl⟩
  go_wp2_with fail
  refine (rsext_to x _ _ hx hv).mono ?_; rintro e w1 ⟨rfl, rfl⟩
  go_wp2_with fail
  refine (rfield_to x 6 10 _ _ hx (by decide) (by decide) hu).mono ?_; rintro e w1 ⟨rfl, rfl⟩
  go_wp2_with (first
    | (refine wpList_load_row rfl 43 _ rfl (w.heap.size + 1 + 1) rfl 43 _ (0, 0) _ (heap_alloc_last _ _) Try.underlying43 rfl Try.info43 ?_)
    | (refine wpList_store_row rfl 43 _ _ rfl (w.heap.size + 1) _ rfl rfl 43 _ (blk_alloc (heap_alloc_last _ _) _) Try.info43 rfl (six_one _ _ _ _ _ _) ?_))
  refine cut_end rfl (alloc_mid _ _ _ _ _) (by rfl) ⟨?_, (((Below.refl _ _).alloc (Nat.le_refl _) _).alloc (by simp) _).alloc (by simp; omega) _⟩
  have e : refCut 84 op x = ⟨op, s, t, 0, 0, u⟩ := by rw [← hs.out, ← ht.out, ← hu.out]; rfl
  rw [e]
  refine agg6 ?_ ?_ ?_ ?_ ?_ ?_ <;> first | rfl | (simp; done) | (rw [u32_mask16 _ hx]) | omega
set_option maxRecDepth 4000 in
theorem cut_67 (x op s t d v u : Nat) (o f : Int) (nm : ByteArray) (w : World) (hx : x < 4294967296) (hs : Hid (fld x 21 5 = s)) (ht : Hid (fld x 16 5 = t)) (hd : Hid (fld x 11 5 = d)) (hv : Hid (sx (x % 65536) = v)) (hu : Hid (fld x 6 20 = u)) (bs : s < 32) (bt : t < 32) (bd : d < 32) (bv : v < 4294967296) (bu : u < 1048576) :
    Calls Try.prog 50 #[.agg #[.int .i64 (op : Int), .int .u8 67, .int .i64 o, .int .i64 f, .string nm], .int .u32 (x : Int)] w fun e w' => e = .returned (.agg (insVals (refCut 67 op x))) ∧ Below w.heap.size w w' := by
  go_enter Try.func50, Try.ntmps50
  go_wp2_with (refine wpList_store_row rfl 43 _ _ rfl _ _ rfl rfl 43 _ (heap_alloc_last _ _) Try.info43 rfl (six_one _ _ _ _ _ _) ?_; rw [World.setRow_alloc_new])
  refine (rfield_to x 21 5 _ _ hx (by decide) (by decide) hs).mono ?_; rintro e w1 ⟨rfl, rfl⟩
  go_wp2_with fail
  refine (rfield_to x 16 5 _ _ hx (by decide) (by decide) ht).mono ?_; rintro e w1 ⟨rfl, rfl⟩
  go_wp2_with fail
  refine (rfield_to x 11 5 _ _ hx (by decide) (by decide) hd).mono ?_; rintro e w1 ⟨rfl, rfl⟩
  go_wp2_with fail
  refine (rsext_to x _ _ hx hv).mono ?_; rintro e w1 ⟨rfl, rfl⟩
  go_wp2_with fail
  refine (rfield_to x 6 20 _ _ hx (by decide) (by decide) hu).mono ?_; rintro e w1 ⟨rfl, rfl⟩
  go_wp2_with (first
    | (refine wpList_load_row rfl 43 _ rfl (w.heap.size + 1 + 1) rfl 43 _ (0, 0) _ (heap_alloc_last _ _) Try.underlying43 rfl Try.info43 ?_)
    | (refine wpList_store_row rfl 43 _ _ rfl (w.heap.size + 1) _ rfl rfl 43 _ (blk_alloc (heap_alloc_last _ _) _) Try.info43 rfl (six_one _ _ _ _ _ _) ?_))
  refine cut_end rfl (alloc_mid _ _ _ _ _) (by rfl) ⟨?_, (((Below.refl _ _).alloc (Nat.le_refl _) _).alloc (by simp) _).alloc (by simp; omega) _⟩
  have e : refCut 67 op x = ⟨op, 0, 0, 0, 0, u⟩ := by rw [← hu.out]; rfl
  rw [e]
  refine agg6 ?_ ?_ ?_ ?_ ?_ ?_ <;> first | rfl | (simp; done) | (rw [u32_mask16 _ hx]) | omega
set_option maxRecDepth 4000 in
theorem cut_73 (x op s t d v : Nat) (o f : Int) (nm : ByteArray) (w : World) (hx : x < 4294967296) (hs : Hid (fld x 21 5 = s)) (ht : Hid (fld x 16 5 = t)) (hd : Hid (fld x 11 5 = d)) (hv : Hid (sx (x % 65536) = v)) (bs : s < 32) (bt : t < 32) (bd : d < 32) (bv : v < 4294967296) :
    Calls Try.prog 50 #[.agg #[.int .i64 (op : Int), .int .u8 73, .int .i64 o, .int .i64 f, .string nm], .int .u32 (x : Int)] w fun e w' => e = .returned (.agg (insVals (refCut 73 op x))) ∧ Below w.heap.size w w' := by
  go_enter Try.func50, Try.ntmps50
  go_wp2_with (refine wpList_store_row rfl 43 _ _ rfl _ _ rfl rfl 43 _ (heap_alloc_last _ _) Try.info43 rfl (six_one _ _ _ _ _ _) ?_; rw [World.setRow_alloc_new])
  refine (rfield_to x 21 5 _ _ hx (by decide) (by decide) hs).mono ?_; rintro e w1 ⟨rfl, rfl⟩
  go_wp2_with fail
  refine (rfield_to x 16 5 _ _ hx (by decide) (by decide) ht).mono ?_; rintro e w1 ⟨rfl, rfl⟩
  go_wp2_with fail
  refine (rfield_to x 11 5 _ _ hx (by decide) (by decide) hd).mono ?_; rintro e w1 ⟨rfl, rfl⟩
  go_wp2_with fail
  refine (rsext_to x _ _ hx hv).mono ?_; rintro e w1 ⟨rfl, rfl⟩
  go_wp2_with (first
    | (refine wpList_load_row rfl 43 _ rfl (w.heap.size + 1 + 1) rfl 43 _ (0, 0) _ (heap_alloc_last _ _) Try.underlying43 rfl Try.info43 ?_)
    | (refine wpList_store_row rfl 43 _ _ rfl (w.heap.size + 1) _ rfl rfl 43 _ (blk_alloc (heap_alloc_last _ _) _) Try.info43 rfl (six_one _ _ _ _ _ _) ?_))
  refine cut_end rfl (alloc_mid _ _ _ _ _) (by rfl) ⟨?_, (((Below.refl _ _).alloc (Nat.le_refl _) _).alloc (by simp) _).alloc (by simp; omega) _⟩
  have e : refCut 73 op x = ⟨op, s, t, 0, 0, v⟩ := by rw [← hs.out, ← ht.out, ← hv.out]; rfl
  rw [e]
  refine agg6 ?_ ?_ ?_ ?_ ?_ ?_ <;> first | rfl | (simp; done) | (rw [u32_mask16 _ hx]) | omega
set_option maxRecDepth 4000 in
theorem cut_80 (x op s t d v : Nat) (o f : Int) (nm : ByteArray) (w : World) (hx : x < 4294967296) (hs : Hid (fld x 21 5 = s)) (ht : Hid (fld x 16 5 = t)) (hd : Hid (fld x 11 5 = d)) (hv : Hid (sx (x % 65536) = v)) (bs : s < 32) (bt : t < 32) (bd : d < 32) (bv : v < 4294967296) :
    Calls Try.prog 50 #[.agg #[.int .i64 (op : Int), .int .u8 80, .int .i64 o, .int .i64 f, .string nm], .int .u32 (x : Int)] w fun e w' => e = .returned (.agg (insVals (refCut 80 op x))) ∧ Below w.heap.size w w' := by
  go_enter Try.func50, Try.ntmps50
  go_wp2_with (refine wpList_store_row rfl 43 _ _ rfl _ _ rfl rfl 43 _ (heap_alloc_last _ _) Try.info43 rfl (six_one _ _ _ _ _ _) ?_; rw [World.setRow_alloc_new])
  refine (rfield_to x 21 5 _ _ hx (by decide) (by decide) hs).mono ?_; rintro e w1 ⟨rfl, rfl⟩
  go_wp2_with fail
  refine (rfield_to x 16 5 _ _ hx (by decide) (by decide) ht).mono ?_; rintro e w1 ⟨rfl, rfl⟩
  go_wp2_with fail
  refine (rfield_to x 11 5 _ _ hx (by decide) (by decide) hd).mono ?_; rintro e w1 ⟨rfl, rfl⟩
  go_wp2_with fail
  refine (rsext_to x _ _ hx hv).mono ?_; rintro e w1 ⟨rfl, rfl⟩
  go_wp2_with (first
    | (refine wpList_load_row rfl 43 _ rfl (w.heap.size + 1 + 1) rfl 43 _ (0, 0) _ (heap_alloc_last _ _) Try.underlying43 rfl Try.info43 ?_)
    | (refine wpList_store_row rfl 43 _ _ rfl (w.heap.size + 1) _ rfl rfl 43 _ (blk_alloc (heap_alloc_last _ _) _) Try.info43 rfl (six_one _ _ _ _ _ _) ?_))
  refine cut_end rfl (alloc_mid _ _ _ _ _) (by rfl) ⟨?_, (((Below.refl _ _).alloc (Nat.le_refl _) _).alloc (by simp) _).alloc (by simp; omega) _⟩
  have e : refCut 80 op x = ⟨op, s, t, 0, 0, v⟩ := by rw [← hs.out, ← ht.out, ← hv.out]; rfl
  rw [e]
  refine agg6 ?_ ?_ ?_ ?_ ?_ ?_ <;> first | rfl | (simp; done) | (rw [u32_mask16 _ hx]) | omega
set_option maxRecDepth 4000 in
theorem cut_85 (x op s t d v : Nat) (o f : Int) (nm : ByteArray) (w : World) (hx : x < 4294967296) (hs : Hid (fld x 21 5 = s)) (ht : Hid (fld x 16 5 = t)) (hd : Hid (fld x 11 5 = d)) (hv : Hid (sx (x % 65536) = v)) (bs : s < 32) (bt : t < 32) (bd : d < 32) (bv : v < 4294967296) :
    Calls Try.prog 50 #[.agg #[.int .i64 (op : Int), .int .u8 85, .int .i64 o, .int .i64 f, .string nm], .int .u32 (x : Int)] w fun e w' => e = .returned (.agg (insVals (refCut 85 op x))) ∧ Below w.heap.size w w' := by
  go_enter Try.func50, Try.ntmps50
  go_wp2_with (refine wpList_store_row rfl 43 _ _ rfl _ _ rfl rfl 43 _ (heap_alloc_last _ _) Try.info43 rfl (six_one _ _ _ _ _ _) ?_; rw [World.setRow_alloc_new])
  refine (rfield_to x 21 5 _ _ hx (by decide) (by decide) hs).mono ?_; rintro e w1 ⟨rfl, rfl⟩
  go_wp2_with fail
  refine (rfield_to x 16 5 _ _ hx (by decide) (by decide) ht).mono ?_; rintro e w1 ⟨rfl, rfl⟩
  go_wp2_with fail
  refine (rfield_to x 11 5 _ _ hx (by decide) (by decide) hd).mono ?_; rintro e w1 ⟨rfl, rfl⟩
  go_wp2_with fail
  refine (rsext_to x _ _ hx hv).mono ?_; rintro e w1 ⟨rfl, rfl⟩
  go_wp2_with (first
    | (refine wpList_load_row rfl 43 _ rfl (w.heap.size + 1 + 1) rfl 43 _ (0, 0) _ (heap_alloc_last _ _) Try.underlying43 rfl Try.info43 ?_)
    | (refine wpList_store_row rfl 43 _ _ rfl (w.heap.size + 1) _ rfl rfl 43 _ (blk_alloc (heap_alloc_last _ _) _) Try.info43 rfl (six_one _ _ _ _ _ _) ?_))
  refine cut_end rfl (alloc_mid _ _ _ _ _) (by rfl) ⟨?_, (((Below.refl _ _).alloc (Nat.le_refl _) _).alloc (by simp) _).alloc (by simp; omega) _⟩
  have e : refCut 85 op x = ⟨op, s, t, 0, 0, (x%65536)⟩ := by rw [← hs.out, ← ht.out]; rfl
  rw [e]
  refine agg6 ?_ ?_ ?_ ?_ ?_ ?_ <;> first | rfl | (simp; done) | (rw [u32_mask16 _ hx]) | omega
set_option maxRecDepth 4000 in
theorem cut_86 (x op s t d v : Nat) (o f : Int) (nm : ByteArray) (w : World) (hx : x < 4294967296) (hs : Hid (fld x 21 5 = s)) (ht : Hid (fld x 16 5 = t)) (hd : Hid (fld x 11 5 = d)) (hv : Hid (sx (x % 65536) = v)) (bs : s < 32) (bt : t < 32) (bd : d < 32) (bv : v < 4294967296) :
    Calls Try.prog 50 #[.agg #[.int .i64 (op : Int), .int .u8 86, .int .i64 o, .int .i64 f, .string nm], .int .u32 (x : Int)] w fun e w' => e = .returned (.agg (insVals (refCut 86 op x))) ∧ Below w.heap.size w w' := by
  go_enter Try.func50, Try.ntmps50
  go_wp2_with (refine wpList_store_row rfl 43 _ _ rfl _ _ rfl rfl 43 _ (heap_alloc_last _ _) Try.info43 rfl (six_one _ _ _ _ _ _) ?_; rw [World.setRow_alloc_new])
  refine (rfield_to x 21 5 _ _ hx (by decide) (by decide) hs).mono ?_; rintro e w1 ⟨rfl, rfl⟩
  go_wp2_with fail
  refine (rfield_to x 16 5 _ _ hx (by decide) (by decide) ht).mono ?_; rintro e w1 ⟨rfl, rfl⟩
  go_wp2_with fail
  refine (rfield_to x 11 5 _ _ hx (by decide) (by decide) hd).mono ?_; rintro e w1 ⟨rfl, rfl⟩
  go_wp2_with fail
  refine (rsext_to x _ _ hx hv).mono ?_; rintro e w1 ⟨rfl, rfl⟩
  go_wp2_with (first
    | (refine wpList_load_row rfl 43 _ rfl (w.heap.size + 1 + 1) rfl 43 _ (0, 0) _ (heap_alloc_last _ _) Try.underlying43 rfl Try.info43 ?_)
    | (refine wpList_store_row rfl 43 _ _ rfl (w.heap.size + 1) _ rfl rfl 43 _ (blk_alloc (heap_alloc_last _ _) _) Try.info43 rfl (six_one _ _ _ _ _ _) ?_))
  refine cut_end rfl (alloc_mid _ _ _ _ _) (by rfl) ⟨?_, (((Below.refl _ _).alloc (Nat.le_refl _) _).alloc (by simp) _).alloc (by simp; omega) _⟩
  have e : refCut 86 op x = ⟨op, 0, t, 0, 0, (x%65536)⟩ := by rw [← ht.out]; rfl
  rw [e]
  refine agg6 ?_ ?_ ?_ ?_ ?_ ?_ <;> first | rfl | (simp; done) | (rw [u32_mask16 _ hx]) | omega
set_option maxRecDepth 4000 in
theorem cut_66 (x op s t d v : Nat) (o f : Int) (nm : ByteArray) (w : World) (hx : x < 4294967296) (hs : Hid (fld x 21 5 = s)) (ht : Hid (fld x 16 5 = t)) (hd : Hid (fld x 11 5 = d)) (hv : Hid (sx (x % 65536) = v)) (bs : s < 32) (bt : t < 32) (bd : d < 32) (bv : v < 4294967296) :
    Calls Try.prog 50 #[.agg #[.int .i64 (op : Int), .int .u8 66, .int .i64 o, .int .i64 f, .string nm], .int .u32 (x : Int)] w fun e w' => e = .returned (.agg (insVals (refCut 66 op x))) ∧ Below w.heap.size w w' := by
  go_enter Try.func50, Try.ntmps50
  go_wp2_with (refine wpList_store_row rfl 43 _ _ rfl _ _ rfl rfl 43 _ (heap_alloc_last _ _) Try.info43 rfl (six_one _ _ _ _ _ _) ?_; rw [World.setRow_alloc_new])
  refine (rfield_to x 21 5 _ _ hx (by decide) (by decide) hs).mono ?_; rintro e w1 ⟨rfl, rfl⟩
  go_wp2_with fail
  refine (rfield_to x 16 5 _ _ hx (by decide) (by decide) ht).mono ?_; rintro e w1 ⟨rfl, rfl⟩
  go_wp2_with fail
  refine (rfield_to x 11 5 _ _ hx (by decide) (by decide) hd).mono ?_; rintro e w1 ⟨rfl, rfl⟩
  go_wp2_with fail
  refine (rsext_to x _ _ hx hv).mono ?_; rintro e w1 ⟨rfl, rfl⟩
  go_wp2_with (first
    | (refine wpList_load_row rfl 43 _ rfl (w.heap.size + 1 + 1) rfl 43 _ (0, 0) _ (heap_alloc_last _ _) Try.underlying43 rfl Try.info43 ?_)
    | (refine wpList_store_row rfl 43 _ _ rfl (w.heap.size + 1) _ rfl rfl 43 _ (blk_alloc (heap_alloc_last _ _) _) Try.info43 rfl (six_one _ _ _ _ _ _) ?_))
  refine cut_end rfl (alloc_mid _ _ _ _ _) (by rfl) ⟨?_, (((Below.refl _ _).alloc (Nat.le_refl _) _).alloc (by simp) _).alloc (by simp; omega) _⟩
  have e : refCut 66 op x = ⟨op, s, t, 0, 0, (v*4%4294967296)⟩ := by rw [← hs.out, ← ht.out, ← hv.out]; rfl
  rw [e]
  refine agg6 ?_ ?_ ?_ ?_ ?_ ?_ <;> first | rfl | (simp; done) | (rw [u32_mask16 _ hx]) | omega
set_option maxRecDepth 4000 in
theorem cut_90 (x op s t d v : Nat) (o f : Int) (nm : ByteArray) (w : World) (hx : x < 4294967296) (hs : Hid (fld x 21 5 = s)) (ht : Hid (fld x 16 5 = t)) (hd : Hid (fld x 11 5 = d)) (hv : Hid (sx (x % 65536) = v)) (bs : s < 32) (bt : t < 32) (bd : d < 32) (bv : v < 4294967296) :
    Calls Try.prog 50 #[.agg #[.int .i64 (op : Int), .int .u8 90, .int .i64 o, .int .i64 f, .string nm], .int .u32 (x : Int)] w fun e w' => e = .returned (.agg (insVals (refCut 90 op x))) ∧ Below w.heap.size w w' := by
  go_enter Try.func50, Try.ntmps50
  go_wp2_with (refine wpList_store_row rfl 43 _ _ rfl _ _ rfl rfl 43 _ (heap_alloc_last _ _) Try.info43 rfl (six_one _ _ _ _ _ _) ?_; rw [World.setRow_alloc_new])
  refine (rfield_to x 21 5 _ _ hx (by decide) (by decide) hs).mono ?_; rintro e w1 ⟨rfl, rfl⟩
  go_wp2_with fail
  refine (rfield_to x 16 5 _ _ hx (by decide) (by decide) ht).mono ?_; rintro e w1 ⟨rfl, rfl⟩
  go_wp2_with fail
  refine (rfield_to x 11 5 _ _ hx (by decide) (by decide) hd).mono ?_; rintro e w1 ⟨rfl, rfl⟩
  go_wp2_with fail
  refine (rsext_to x _ _ hx hv).mono ?_; rintro e w1 ⟨rfl, rfl⟩
  go_wp2_with (first
    | (refine wpList_load_row rfl 43 _ rfl (w.heap.size + 1 + 1) rfl 43 _ (0, 0) _ (heap_alloc_last _ _) Try.underlying43 rfl Try.info43 ?_)
    | (refine wpList_store_row rfl 43 _ _ rfl (w.heap.size + 1) _ rfl rfl 43 _ (blk_alloc (heap_alloc_last _ _) _) Try.info43 rfl (six_one _ _ _ _ _ _) ?_))
  refine cut_end rfl (alloc_mid _ _ _ _ _) (by rfl) ⟨?_, (((Below.refl _ _).alloc (Nat.le_refl _) _).alloc (by simp) _).alloc (by simp; omega) _⟩
  have e : refCut 90 op x = ⟨op, s, 0, 0, 0, (v*4%4294967296)⟩ := by rw [← hs.out, ← hv.out]; rfl
  rw [e]
  refine agg6 ?_ ?_ ?_ ?_ ?_ ?_ <;> first | rfl | (simp; done) | (rw [u32_mask16 _ hx]) | omega
set_option maxRecDepth 4000 in
theorem cut_82 (x op s t d v : Nat) (o f : Int) (nm : ByteArray) (w : World) (hx : x < 4294967296) (hs : Hid (fld x 21 5 = s)) (ht : Hid (fld x 16 5 = t)) (hd : Hid (fld x 11 5 = d)) (hv : Hid (sx (x % 65536) = v)) (bs : s < 32) (bt : t < 32) (bd : d < 32) (bv : v < 4294967296) :
    Calls Try.prog 50 #[.agg #[.int .i64 (op : Int), .int .u8 82, .int .i64 o, .int .i64 f, .string nm], .int .u32 (x : Int)] w fun e w' => e = .returned (.agg (insVals (refCut 82 op x))) ∧ Below w.heap.size w w' := by
  go_enter Try.func50, Try.ntmps50
  go_wp2_with (refine wpList_store_row rfl 43 _ _ rfl _ _ rfl rfl 43 _ (heap_alloc_last _ _) Try.info43 rfl (six_one _ _ _ _ _ _) ?_; rw [World.setRow_alloc_new])
  refine (rfield_to x 21 5 _ _ hx (by decide) (by decide) hs).mono ?_; rintro e w1 ⟨rfl, rfl⟩
  go_wp2_with fail
  refine (rfield_to x 16 5 _ _ hx (by decide) (by decide) ht).mono ?_; rintro e w1 ⟨rfl, rfl⟩
  go_wp2_with fail
  refine (rfield_to x 11 5 _ _ hx (by decide) (by decide) hd).mono ?_; rintro e w1 ⟨rfl, rfl⟩
  go_wp2_with fail
  refine (rsext_to x _ _ hx hv).mono ?_; rintro e w1 ⟨rfl, rfl⟩
  go_wp2_with (first
    | (refine wpList_load_row rfl 43 _ rfl (w.heap.size + 1 + 1) rfl 43 _ (0, 0) _ (heap_alloc_last _ _) Try.underlying43 rfl Try.info43 ?_)
    | (refine wpList_store_row rfl 43 _ _ rfl (w.heap.size + 1) _ rfl rfl 43 _ (blk_alloc (heap_alloc_last _ _) _) Try.info43 rfl (six_one _ _ _ _ _ _) ?_))
  refine cut_end rfl (alloc_mid _ _ _ _ _) (by rfl) ⟨?_, (((Below.refl _ _).alloc (Nat.le_refl _) _).alloc (by simp) _).alloc (by simp; omega) _⟩
  have e : refCut 82 op x = ⟨op, s, 0, 0, 0, (v*4%4294967296)⟩ := by rw [← hs.out, ← hv.out]; rfl
  rw [e]
  refine agg6 ?_ ?_ ?_ ?_ ?_ ?_ <;> first | rfl | (simp; done) | (rw [u32_mask16 _ hx]) | omega
set_option maxRecDepth 4000 in
theorem cut_74 (x op s t d v u : Nat) (o f : Int) (nm : ByteArray) (w : World) (hx : x < 4294967296) (hs : Hid (fld x 21 5 = s)) (ht : Hid (fld x 16 5 = t)) (hd : Hid (fld x 11 5 = d)) (hv : Hid (sx (x % 65536) = v)) (hu : Hid (fld x 0 26 = u)) (bs : s < 32) (bt : t < 32) (bd : d < 32) (bv : v < 4294967296) (bu : u < 67108864) :
    Calls Try.prog 50 #[.agg #[.int .i64 (op : Int), .int .u8 74, .int .i64 o, .int .i64 f, .string nm], .int .u32 (x : Int)] w fun e w' => e = .returned (.agg (insVals (refCut 74 op x))) ∧ Below w.heap.size w w' := by
  go_enter Try.func50, Try.ntmps50
  go_wp2_with (refine wpList_store_row rfl 43 _ _ rfl _ _ rfl rfl 43 _ (heap_alloc_last _ _) Try.info43 rfl (six_one _ _ _ _ _ _) ?_; rw [World.setRow_alloc_new])
  refine (rfield_to x 21 5 _ _ hx (by decide) (by decide) hs).mono ?_; rintro e w1 ⟨rfl, rfl⟩
  go_wp2_with fail
  refine (rfield_to x 16 5 _ _ hx (by decide) (by decide) ht).mono ?_; rintro e w1 ⟨rfl, rfl⟩
  go_wp2_with fail
  refine (rfield_to x 11 5 _ _ hx (by decide) (by decide) hd).mono ?_; rintro e w1 ⟨rfl, rfl⟩
  go_wp2_with fail
  refine (rsext_to x _ _ hx hv).mono ?_; rintro e w1 ⟨rfl, rfl⟩
  go_wp2_with fail
  refine (rfield_to x 0 26 _ _ hx (by decide) (by decide) hu).mono ?_; rintro e w1 ⟨rfl, rfl⟩
  go_wp2_with (first
    | (refine wpList_load_row rfl 43 _ rfl (w.heap.size + 1 + 1) rfl 43 _ (0, 0) _ (heap_alloc_last _ _) Try.underlying43 rfl Try.info43 ?_)
    | (refine wpList_store_row rfl 43 _ _ rfl (w.heap.size + 1) _ rfl rfl 43 _ (blk_alloc (heap_alloc_last _ _) _) Try.info43 rfl (six_one _ _ _ _ _ _) ?_))
  refine cut_end rfl (alloc_mid _ _ _ _ _) (by rfl) ⟨?_, (((Below.refl _ _).alloc (Nat.le_refl _) _).alloc (by simp) _).alloc (by simp; omega) _⟩
  have e : refCut 74 op x = ⟨op, 0, 0, 0, 0, (u*4)⟩ := by rw [← hu.out]; rfl
  rw [e]
  refine agg6 ?_ ?_ ?_ ?_ ?_ ?_ <;> first | rfl | (simp; done) | (rw [u32_mask16 _ hx]) | omega
end Go.Proofs.Ytjoaenfibkgplaa
