import Derived.RangeFuncBox
import Derived.Maps.AppendAt
import Derived.Test.YtjoaenfibkgplaaC1
import Derived.Test.YtjoaenfibkgplaaB5
import Derived.BigFrameIn
namespace Go.Proofs.Ytjoaenfibkgplaa
set_option linter.unusedSimpArgs false
open Go.RowKit Go.Cq Go.Shelf
set_option linter.unusedVariables false
attribute [local go_sem] Oper.semAt_some

/-- 'block.Cut', over words that are fetched. -/
def cutGo : List Nat → List Nat → Bool → List Nat
  | [], l, j => if j then l.dropLast else l
  | x :: xs, l, true => if plainW x then l ++ [x] else l.dropLast
  | x :: xs, l, false => if plainW x && decide (l.length < 16) then cutGo xs (l ++ [x]) false else if jumpsW x && decide (l.length + 2 ≤ 16) then cutGo xs (l ++ [x]) true else l
/-- What has come, and that all of it was taken. -/
def Acc (pre : List U32) (j : Bool) : Prop := pre.length ≤ 16 ∧ (j = true → 0 < pre.length) ∧ ∀ rest, cutGo (pre.map (·.1) ++ rest) [] false = cutGo rest (pre.map (·.1)) j
theorem Acc.nil : Acc [] false := ⟨by simp, by simp, fun _ => rfl⟩
theorem Acc.plain {pre : List U32} (h : Acc pre false) (x : U32) (hp : plainW x.1 = true) (hl : pre.length < 16) : Acc (pre ++ [x]) false := by
  refine ⟨by simp; omega, by simp, fun rest => ?_⟩
  have := h.2.2 (x.1 :: rest)
  rw [cutGo, hp] at this
  simpa [hl] using this
theorem Acc.jump {pre : List U32} (h : Acc pre false) (x : U32) (hn : (plainW x.1 && decide (pre.length < 16)) = false) (hp : jumpsW x.1 = true) (hl : pre.length + 2 ≤ 16) : Acc (pre ++ [x]) true := by
  refine ⟨by simp; omega, by simp, fun rest => ?_⟩
  have := h.2.2 (x.1 :: rest)
  rw [cutGo] at this
  simp only [List.length_map, hn, hp, hl, decide_true, Bool.and_self, if_true] at this
  simpa using this
theorem Acc.end1 {pre : List U32} (h : Acc pre true) (x : U32) (hp : plainW x.1 = true) (rest : List Nat) : cutGo ((pre ++ [x]).map (·.1) ++ rest) [] false = (pre ++ [x]).map (·.1) := by
  have := h.2.2 (x.1 :: rest)
  rw [cutGo, hp, if_pos rfl] at this
  simpa using this
theorem Acc.end2 {pre : List U32} (h : Acc pre true) (x : U32) (hp : plainW x.1 = false) (rest : List Nat) : cutGo ((pre ++ [x]).map (·.1) ++ rest) [] false = (pre.map (·.1)).dropLast := by
  have := h.2.2 (x.1 :: rest)
  rw [cutGo, hp] at this
  simpa using this
theorem Acc.end3 {pre : List U32} (h : Acc pre false) (x : U32) (h1 : (plainW x.1 && decide (pre.length < 16)) = false) (h2 : (jumpsW x.1 && decide (pre.length + 2 ≤ 16)) = false) (rest : List Nat) : cutGo ((pre ++ [x]).map (·.1) ++ rest) [] false = pre.map (·.1) := by
  have := h.2.2 (x.1 :: rest)
  rw [cutGo] at this
  simp only [List.length_map, h1, h2] at this
  simpa using this
def CutI (n0 mb : Nat) (w : World) (pre : List U32) (W : World) : Prop := ∃ a cap j a0 l0 c0, (Boxed W (n0 + 1) 23 (.slice a pre.length cap) ∧ Boxed W (n0 + 1 + 1) 4 (.bool j) ∧ Boxed W n0 23 (.slice a0 l0 c0) ∧ Boxed W (n0 + 1 + 1 + 1) 25 (.pointer (some ⟨mb, 0, none⟩))) ∧
  W.ownsRow n0 27 1 (.slice a pre.length cap) pre.length (nums .u32 (pre.map (·.1))) ∧ Acc pre j ∧ Below n0 w W
def CutX (n0 : Nat) (w : World) (c : Code) (pre : List U32) (W : World) : Prop := c = .ret ∧ ∃ a len cap ys, Boxed W n0 23 (.slice a len cap) ∧ Nums W .u32 a len cap ys ∧ (∀ rest, cutGo (pre.map (·.1) ++ rest) [] false = ys) ∧ Below n0 w W
theorem nums_own {W W' : World} {k : IntKind} {a : Option Addr} {len cap : Nat} {xs : List Nat} {row : Option Nat} (h : Nums W k a len cap xs) (hg : W.grownBy W' row) (hr : ∀ r, row = some r → ∃ o : Obj, W.heap[r]? = some o ∧ o.isCells = false) : Nums W' k a len cap xs := by
  obtain ⟨h1, h2, h0, h3⟩ := h
  refine ⟨h1, h2, h0, fun i hi => ?_⟩
  obtain ⟨b, off, rfl, hbl, hc⟩ := h3 i hi
  exact ⟨b, off, rfl, Nat.lt_of_lt_of_le hbl hg.size, cell_kept hc hg hr⟩
theorem boxed_kept {W W' : World} {B : Nat} {t : TypeId} {v : Value} {row : Option Nat} (h : Boxed W B t v) (hg : W.grownBy W' row) (hr : ∀ r, row = some r → ∃ o : Obj, W.heap[r]? = some o ∧ o.isCells = false) : Boxed W' B t v :=
  h.kept hg (fun e => by obtain ⟨o, ho, hc⟩ := hr B e.symm; rw [show W.heap[B]? = _ from h] at ho; cases ho; cases hc)
theorem own_kept2 {W W' : World} {base : Nat} {e : TypeId} {size : Nat} {v : Value} {n : Nat} {xs : List Value} {row : Option Nat} (h : W.ownsRow base e size v n xs) (hg : W.grownBy W' row) (hr : ∀ r, row = some r → ∃ o : Obj, W.heap[r]? = some o ∧ o.isCells = false) : W'.ownsRow base e size v n xs := by
  obtain ⟨h1, h2⟩ := h
  refine ⟨h1, ?_⟩
  rcases h2 with h2 | ⟨g, cap, cur, rfl, hb, hgb, h3⟩
  · exact .inl h2
  · refine .inr ⟨g, cap, cur, rfl, hb, ?_, h3⟩
    rw [hg.block g (Array.getElem?_eq_some_iff.1 hgb).1 (fun e => by obtain ⟨o, ho, hc⟩ := hr g e.symm; rw [hgb] at ho; cases ho; cases hc)]; exact hgb
theorem below_own {n0 B : Nat} {w W W' : World} {row : Option Nat} (h : Below n0 w W) (hB : n0 ≤ B) (hn : n0 ≤ w.heap.size) (hg : W.grownBy W' row) (hr : ∀ r, row = some r → B ≤ r) : Below n0 w W' :=
  h.grown hg (Nat.le_trans hn h.size) (fun k e => Nat.le_trans hB (hr k e))
theorem cutI_own (n0 mb B : Nat) (w : World) (hn : n0 ≤ w.heap.size) (hB : n0 ≤ B) : OwnFrom B (CutI n0 mb w) := by
  rintro pre W W' row ⟨a, cap, j, a0, l0, c0, ⟨h1, h2, h3, h4⟩, h5, h6, h7⟩ hg hr
  have hr2 : ∀ r, row = some r → ∃ o : Obj, W.heap[r]? = some o ∧ o.isCells = false := fun r e => (hr r e).2
  exact ⟨a, cap, j, a0, l0, c0, ⟨boxed_kept h1 hg hr2, boxed_kept h2 hg hr2, boxed_kept h3 hg hr2, boxed_kept h4 hg hr2⟩, own_kept2 h5 hg hr2, h6, below_own h7 hB hn hg (fun r e => (hr r e).1)⟩
theorem cutX_own (n0 B : Nat) (w : World) (hn : n0 ≤ w.heap.size) (hB : n0 ≤ B) (c : Code) : OwnFrom B (CutX n0 w c) := by
  rintro pre W W' row ⟨h1, a, len, cap, ys, h3, h4, h5, h6⟩ hg hr
  have hr2 : ∀ r, row = some r → ∃ o : Obj, W.heap[r]? = some o ∧ o.isCells = false := fun r e => (hr r e).2
  exact ⟨h1, a, len, cap, ys, boxed_kept h3 hg hr2, nums_own h4 hg hr2, h5, below_own h6 hB hn hg (fun r e => (hr r e).1)⟩

theorem own_set {W : World} {base : Nat} {e : TypeId} {size : Nat} {v : Value} {n : Nat} {xs : List Value} (h : W.ownsRow base e size v n xs) {B : Nat} {t : TypeId} {u : Value} (hb : Boxed W B t u) (hte : t ≠ e) (u' : Value) : (W.setCell ⟨B, 0, none⟩ u').ownsRow base e size v n xs := by
  have hne := hb.not_row hte h
  obtain ⟨h1, h2⟩ := h
  refine ⟨h1, ?_⟩
  rcases h2 with h2 | ⟨g, cap, cur, rfl, hg, hgb, h3⟩
  · exact .inl h2
  · refine .inr ⟨g, cap, cur, rfl, hg, ?_, h3⟩
    rw [heap_setCell_other _ _ _ _ (fun e' => hne (by rw [e']; rfl))]; exact hgb
theorem nums_len (xs : List U32) : (nums .u32 (xs.map (·.1))).length = xs.length := by rw [nums_length, List.length_map]
theorem own_nums {W : World} {base : Nat} {a : Option Addr} {cap n : Nat} {xs : List U32} (h : W.ownsRow base 27 1 (.slice a n cap) n (nums .u32 (xs.map (·.1)))) (hn : n = xs.length) : Nums W .u32 a n cap (xs.map (·.1)) := by
  subst hn
  have h' : W.ownsRow base 27 1 (.slice a xs.length cap) (xs.map (·.1)).length (nums .u32 (xs.map (·.1))) := by rw [List.length_map]; exact h
  obtain ⟨a', cap', e, hN⟩ := Nums.of_own h'
  rw [List.length_map] at e hN
  injection e with e1 e2 e3
  subst e1 e3
  exact hN
theorem keepsM_b {n0 mbb : Nat} {w : World} (hn : n0 ≤ w.heap.size) (hm : mbb < w.heap.size) (W : World) (l : Nat) (o o' : Obj) (hl : w.heap.size ≤ l) (h : W.heap[l]? = some o) (h1 : o.isCells = false) (h2 : o.isWalk = false) : KeepsM n0 mbb W (W.putObj l o') :=
  ⟨belowK_b hn W l o o' hl h h1 h2, World.putObj_heap_other (fun e => by omega)⟩
theorem info27 : (Try.prog.info? 27).map (fun i => (i.zero, i.size, i.bytes)) = some (some (.int .u32 0), 1, 4) := by kernel_rfl
/-- What lies behind a call in the body. -/
structure After (n0 : Nat) (mb : Nat) (W W1 : World) (a : Option Addr) (cap n : Nat) (j : Bool) (a0 : Option Addr) (l0 c0 : Nat) (pre : List U32) : Prop where
  b1 : Boxed W1 (n0 + 1) 23 (.slice a n cap)
  b2 : Boxed W1 (n0 + 1 + 1) 4 (.bool j)
  b0 : Boxed W1 n0 23 (.slice a0 l0 c0)
  b3 : Boxed W1 (n0 + 1 + 1 + 1) 25 (.pointer (some ⟨mb, 0, none⟩))
  row : W1.ownsRow n0 27 1 (.slice a n cap) pre.length (nums .u32 (pre.map (·.1)))
  bel : Below W.heap.size W W1
theorem After.step {n0 mb : Nat} {W W1 W2 : World} {a : Option Addr} {cap n : Nat} {j : Bool} {a0 : Option Addr} {l0 c0 : Nat} {pre : List U32} (h : After n0 mb W W1 a cap n j a0 l0 c0 pre) (hb : Below W1.heap.size W1 W2) : After n0 mb W W2 a cap n j a0 l0 c0 pre :=
  ⟨blk_kept h.b1 hb, blk_kept h.b2 hb, blk_kept h.b0 hb, blk_kept h.b3 hb, own_kept h.row hb, h.bel.trans (hb.mono h.bel.size)⟩

/-- What lies behind an append in the body. -/
structure App (n0 mb : Nat) (W w1 : World) (a : Option Addr) (cap n : Nat) (j : Bool) (a0 : Option Addr) (l0 c0 : Nat) (g' cap' : Nat) (ys : List U32) : Prop where
  b1 : Boxed w1 (n0 + 1) 23 (.slice a n cap)
  b2 : Boxed w1 (n0 + 1 + 1) 4 (.bool j)
  b0 : Boxed w1 n0 23 (.slice a0 l0 c0)
  b3 : Boxed w1 (n0 + 1 + 1 + 1) 25 (.pointer (some ⟨mb, 0, none⟩))
  row : w1.ownsRow n0 27 1 (.slice (some ⟨g', 0, none⟩) ys.length cap') ys.length (nums .u32 (ys.map (·.1)))
  bel : Below n0 W w1
  oth : KeepsOthers W w1
theorem After.app {n0 mb : Nat} {W W1 w1 : World} {a : Option Addr} {cap : Nat} {j : Bool} {a0 : Option Addr} {l0 c0 : Nat} {pre : List U32} {y : U32} {g' cap' : Nat} {tmp : Obj} (h : After n0 mb W W1 a cap pre.length j a0 l0 c0 pre) (hn : n0 ≤ W.heap.size)
    (hown : w1.ownsRow n0 27 1 (.slice (some ⟨g', 0, none⟩) (pre.length + 1) cap') (pre.length + 1) (nums .u32 (pre.map (·.1)) ++ [.int .u32 (y.1 : Int)])) (hg : (W1.alloc tmp).grownBy w1 (Value.slice a pre.length cap).ownBlock) :
    App n0 mb W w1 a cap pre.length j a0 l0 c0 g' cap' (pre ++ [y]) := by
  have hn1 : n0 ≤ W1.heap.size := Nat.le_trans hn h.bel.size
  have hcells : ∀ (k : Nat) (o : Obj), (Value.slice a pre.length cap).ownBlock = some k → W1.heap[k]? = some o → o.isCells = true := by
    intro k o e ho
    rcases h.row.2 with ⟨e2, _⟩ | ⟨g, c, cur, e2, hb, hgb, _⟩
    · rw [e2] at e; cases e
    · rw [e2] at e
      obtain rfl : g = k := by simpa [Value.ownBlock] using e
      rw [hgb] at ho; cases ho; rfl
  have hlow : ∀ k, (Value.slice a pre.length cap).ownBlock = some k → n0 ≤ k := ownBlock_of_own h.row
  refine ⟨(h.b1.alloc tmp).kept hg (h.b1.not_row (by decide) h.row), (h.b2.alloc tmp).kept hg (h.b2.not_row (by decide) h.row), (h.b0.alloc tmp).kept hg (h.b0.not_row (by decide) h.row), (h.b3.alloc tmp).kept hg (h.b3.not_row (by decide) h.row), ?_, ?_, ?_⟩
  · rw [List.length_append, List.map_append, nums_append]; exact hown
  · exact ((h.bel.mono hn).alloc hn1 tmp).grown hg (by simp; omega) hlow
  · refine ((KeepsOthers.of_grownBy (grown_of_below h.bel) (fun k o e => by cases e)).trans (KeepsOthers.alloc W1 tmp)).trans (KeepsOthers.of_grownBy hg ?_)
    intro k o e ho
    refine hcells k o e ?_
    have : k < W1.heap.size := by
      rcases h.row.2 with ⟨e2, _⟩ | ⟨g, c, cur, e2, hb, hgb, _⟩
      · rw [e2] at e; cases e
      · rw [e2] at e
        obtain rfl : g = k := by simpa [Value.ownBlock] using e
        exact (Array.getElem?_eq_some_iff.1 hgb).1
    rwa [Below.heap_alloc W1 tmp k this] at ho

theorem size_set (W : World) (p : Addr) (v : Value) : (W.setCell p v).heap.size = W.heap.size := by simp [World.setCell]
theorem cell_new_set (W : World) (p : Addr) (v x : Value) (t : TypeId) : ∀ j u, [x][j]? = some u → ((W.setCell p v).alloc (.cells #[x] t)).cell? ((⟨W.heap.size, 0, none⟩ : Addr).add j) = some u := by
  intro j u hj
  have h := cell_one_new (W.setCell p v) x t j u hj
  rw [size_set] at h
  exact h
theorem app_post {n0 mb B m : Nat} {w W Wm w1 : World} {a : Option Addr} {cap n : Nat} {j : Bool} {a0 : Option Addr} {l0 c0 g' cap' : Nat} {ys : List U32} {act : Act} (hP : App n0 mb Wm w1 a cap n j a0 l0 c0 g' cap' ys) (hA : Boxed W (n0 + 1 + 1 + 1) 25 (.pointer (some ⟨mb, 0, none⟩)))
    (ho : KeepsOthers W Wm) (hb : Below n0 W Wm) (hB : Below n0 w W) (hacc : Acc ys j) (hm : ys.length = m) :
    ownPostG B (KeepsM n0 (n0 + 1 + 1 + 1)) (CutI n0 mb w) (CutX n0 w) ys W .normal act (w1.setCell ⟨n0 + 1, 0, none⟩ (.slice (some ⟨g', 0, none⟩) m cap')) := by
  subst hm
  exact ⟨((ho.trans hP.oth).trans (KeepsOthers.setCell _ _ _)).from _,
    ⟨(hb.trans hP.bel).setCell (p := ⟨n0 + 1, 0, none⟩) (by simp) _, (blk_set (show w1.heap[n0 + 1 + 1 + 1]? = _ from hP.b3) _ _ (by dsimp only; omega)).trans hA.symm⟩,
    ⟨some ⟨g', 0, none⟩, cap', j, a0, l0, c0, ⟨hP.b1.set _, blk_set (show w1.heap[n0 + 1 + 1]? = _ from hP.b2) _ _ (by dsimp only; omega), blk_set (show w1.heap[n0]? = _ from hP.b0) _ _ (by dsimp only; omega), blk_set (show w1.heap[n0 + 1 + 1 + 1]? = _ from hP.b3) _ _ (by dsimp only; omega)⟩,
      own_set hP.row hP.b1 (by decide) _, hacc, ((hB.trans hb).trans hP.bel).setCell (p := ⟨n0 + 1, 0, none⟩) (by simp) _⟩⟩
/-- Behind a jump: the mark is set. -/
theorem After.mark {n0 mb : Nat} {W W1 : World} {a : Option Addr} {cap n : Nat} {j : Bool} {a0 : Option Addr} {l0 c0 : Nat} {pre : List U32} (h : After n0 mb W W1 a cap n j a0 l0 c0 pre) (b : Bool) :
    After n0 mb (W1.setCell ⟨n0 + 1 + 1, 0, none⟩ (.bool b)) (W1.setCell ⟨n0 + 1 + 1, 0, none⟩ (.bool b)) a cap n b a0 l0 c0 pre :=
  ⟨blk_set (show W1.heap[n0 + 1]? = _ from h.b1) _ _ (by dsimp only; omega), h.b2.set _, blk_set (show W1.heap[n0]? = _ from h.b0) _ _ (by dsimp only; omega), blk_set (show W1.heap[n0 + 1 + 1 + 1]? = _ from h.b3) _ _ (by dsimp only; omega), own_set h.row h.b2 (by decide) _, Below.refl _ _⟩

set_option maxRecDepth 100000 in
set_option maxHeartbeats 4000000 in
theorem cut_any {B mb mm wm : Nat} {S : MS} (x : Nat) (w : World) (hx : x < 4294967296) (hM : MemAt w B mb mm wm S) (xs : List U32) (hF : Fetches S x xs) :
    Calls Try.prog 13 #[.pointer (some ⟨mb, 0, none⟩), .int .u32 (x : Int)] w fun e w' => ∃ a len cap, e = .returned (.slice a len cap) ∧ Nums w' .u32 a len cap (cutGo (xs.map (·.1)) [] false) ∧ Below w.heap.size w w' := by
  have HX := Lib.hid hx
  have HM := Lib.hid hM
  have HF := Lib.hid hF
  clear hx hM hF
  refine (callsIn_wide (n := 6)).1 ?_
  refine callsIn_of_wp_marks Try.func13 rfl trivial ?_ rfl
  simp only [Try.ntmps13, List.size_toArray, List.length_cons, List.length_nil, Nat.reduceAdd, Nat.reduceSub, Array.replicate_succ, Array.replicate_zero, List.push_toArray, List.append_toArray, List.nil_append, List.cons_append]
  gi_wp2_with (refine ⟨trivial, ?_⟩; gi_at_call 41; refine (callsIn_wide.2 (words_any mb x _)).mono ?_; rintro e w' ⟨rfl, rfl⟩)
  have b0 := Boxed.new w 23 (.slice none 0 0)
  have b1 := Boxed.new (w.alloc (.cells #[.slice none 0 0] 23)) 23 (.slice none 0 0)
  have b2 := Boxed.new ((w.alloc (.cells #[.slice none 0 0] 23)).alloc (.cells #[.slice none 0 0] 23)) 4 (.bool false)
  have b3 := Boxed.new (((w.alloc (.cells #[.slice none 0 0] 23)).alloc (.cells #[.slice none 0 0] 23)).alloc (.cells #[.bool false] 4)) 25 (.pointer (some ⟨mb, 0, none⟩))
  have b4 := Boxed.new ((((w.alloc (.cells #[.slice none 0 0] 23)).alloc (.cells #[.slice none 0 0] 23)).alloc (.cells #[.bool false] 4)).alloc (.cells #[.pointer (some ⟨mb, 0, none⟩)] 25)) 27 (.int .u32 (x : Int))
  have hB0 : Below w.heap.size w (((((w.alloc (.cells #[.slice none 0 0] 23)).alloc (.cells #[.slice none 0 0] 23)).alloc (.cells #[.bool false] 4)).alloc (.cells #[.pointer (some ⟨mb, 0, none⟩)] 25)).alloc (.cells #[.int .u32 (x : Int)] 27)) :=
    (((((Below.refl _ w).alloc (Nat.le_refl _) _).alloc (by simp) _).alloc (by simp; omega) _).alloc (by simp; omega) _).alloc (by simp; omega) _
  simp only [World.size_alloc] at b1 b2 b3 b4
  refine wpIn_rangeFunc_ownG (n := 6) rfl (by omega) (gf := 88) (lb := #[.pointer (some ⟨w.heap.size + 1 + 1 + 1 + 1, 0, none⟩), .pointer (some ⟨w.heap.size + 1 + 1 + 1, 0, none⟩)]) rfl trivial (enters_of Try.func88 (by kernel_rfl) rfl)
    (words_stops 5 (by omega) (w.heap.size + 1 + 1 + 1 + 1) (w.heap.size + 1 + 1 + 1) x w _ HX.out HM.out xs HF.out hB0 b4.cell (b3.alloc _)) (fun h k => ⟨h.1.trans k.1, k.2.trans h.2⟩) (keepsM_b (by simp; omega) (by simp)) (Below.refl _ _) (fun _ => rfl)
    (CutI w.heap.size mb w) (CutX w.heap.size w) (cutI_own _ _ _ _ (Nat.le_refl _) (by simp; omega)) (cutX_own _ _ _ (Nat.le_refl _) (by simp; omega))
    ⟨_, _, _, _, _, _, ⟨(((b1.alloc _).alloc _).alloc _), ((b2.alloc _).alloc _), ((((b0.alloc _).alloc _).alloc _).alloc _), b3.alloc _⟩, World.ownsRow_nil _ _ _ _, Acc.nil, hB0⟩
    (fun y => { tmps := #[.pointer (some ⟨mb, 0, none⟩), .int .u32 (x : Int), undef, undef, .pointer (some ⟨w.heap.size, 0, none⟩), .pointer (some ⟨w.heap.size + 1, 0, none⟩), .pointer (some ⟨w.heap.size + 1 + 1, 0, none⟩), .int .u32 (y.1 : Int), undef, .pointer (some ⟨mb, 0, none⟩), .int .u32 (x : Int), .func (.func 88) #[] #[.pointer (some ⟨w.heap.size + 1 + 1 + 1 + 1, 0, none⟩), .pointer (some ⟨w.heap.size + 1 + 1 + 1, 0, none⟩)], .int .u32 (y.1 : Int), undef, undef, undef, undef, undef, undef, undef, undef, undef, undef, undef, undef, undef, undef, undef, undef, undef, undef, undef, undef, undef, undef, undef, undef, undef, undef, undef, undef, undef, undef, undef, undef, undef, undef, undef, undef, undef, undef, undef, undef, undef, undef, undef, undef, undef, undef], defers := [] }) ?assign ?body ?done ?stop
  case assign =>
    intro l y W K hK
    gi_wp2
    exact hK
  case body =>
    rintro l pre y W ⟨a, cap, j, a0, l0, c0, hbx, hrow, hacc, hB⟩ hlt
    have HA : Hid (After w.heap.size mb W W a cap pre.length j a0 l0 c0 pre) := ⟨hbx.1, hbx.2.1, hbx.2.2.1, hbx.2.2.2, hrow, Below.refl _ _⟩
    have c1 := hbx.1.cell
    have c2 := hbx.2.1.cell
    have HACC := Lib.hid hacc
    have HBB := Lib.hid hB
    have HI := Lib.hid hlt
    have HLEN : Hid (pre.length + 1 ≤ maxLen ∧ (pre.length + 1) * 4 ≤ 140737488355328) := by
      have := hacc.1
      exact ⟨Nat.le_trans (by omega : pre.length + 1 ≤ 17) (by decide), by omega⟩
    obtain ⟨i0, hi, hz0, hz1, hz2⟩ := info_parts info27
    clear hbx hrow hacc hB hlt b0 b1 b2 b3 b4 hB0
    cases j with
    | true =>
      cases hpw : plainW y.1 with
      | true =>
        have HPW := Lib.hid hpw
        clear hpw
        gi_wp2_with (first
          | (refine ⟨trivial, ?_⟩; gi_at_call 42; refine (CallsIn.inRound l (callsIn_wide.2 (plainw_any y.1 _ y.2))).mono ?_; rintro e W1 ⟨rfl, hb⟩; rw [HPW.out]; have HA1 := Lib.hid (HA.out.step hb); have d1 := HA1.out.b1.cell; have d2 := HA1.out.b2.cell; have d0 := HA1.out.b0.cell; have g0 := HA1.out.b0.frozen; clear hb)
          | (gi_at_builtin; refine wpListIn_append_own _ rfl _ _ 23 rfl w.heap.size 27 i0 (.int .u32 0) 1 4 Try.underlying23 hi hz0 hz1 hz2 rfl (by decide) _ _ _ rfl (HA1.out.row.alloc _) ⟨W1.heap.size, 0, none⟩ 1 1 [.int .u32 (y.1 : Int)] rfl rfl (cell_one_new _ _ _) (by simp [Value.oneCell']) (HLEN.out.1) (HLEN.out.2) (by have := HBB.out.size; have := HA1.out.bel.size; simp; omega) ?_; intro v' w1 hown' hgrow _; obtain ⟨g', cap', rfl⟩ := ownsRow_succ hown'; have HP := Lib.hid (HA1.out.app (y := y) HBB.out.size hown' hgrow); have k0 := HP.out.b0.cell; have k1 := HP.out.b0.frozen; clear hown' hgrow)
          | (refine wpListIn_skip (by rfl) (by rfl) ?_))
        have e9 : (pre ++ [y]).length = pre.length + 1 := by simp
        have hN := own_nums (own_set HP.out.row HP.out.b0 (by decide) (.slice (some ⟨g', 0, none⟩) (pre.length + 1) cap')) rfl
        rw [e9] at hN
        exact ⟨(HP.out.oth.trans (KeepsOthers.setCell _ _ _)).from _, rfl, some ⟨g', 0, none⟩, pre.length + 1, cap', (pre ++ [y]).map (·.1), HP.out.b0.set _, hN, HACC.out.end1 y HPW.out, (HBB.out.trans HP.out.bel).setCell (p := ⟨w.heap.size, 0, none⟩) (Nat.le_refl _) _⟩
      | false =>
        have HPW := Lib.hid hpw
        clear hpw
        obtain ⟨k, hk⟩ : ∃ k, pre.length = k + 1 := ⟨pre.length - 1, by have := HACC.out.2.1 rfl; omega⟩
        obtain ⟨g, c, hv, hg, hgs, hgc⟩ := own_at HA.out.row (by omega)
        cases hv
        have e1 : ((pre.length : Nat) : Int) - 1 = (k : Int) := by omega
        have hkc : k ≤ cap := by omega
        have e2 : wrap64 (k : Int) = (k : Int) := IntWalk.wrap64_in _ ⟨by omega, by have := HACC.out.1; omega⟩
        have HKL := Lib.hid hk
        clear hk hgc
        gi_wp2_with (first
          | (refine ⟨trivial, ?_⟩; gi_at_call 42; refine (CallsIn.inRound l (callsIn_wide.2 (plainw_any y.1 _ y.2))).mono ?_; rintro e W1 ⟨rfl, hb⟩; rw [HPW.out]; have HA1 := Lib.hid (HA.out.step hb); have d1 := HA1.out.b1.cell; have d2 := HA1.out.b2.cell; have d0 := HA1.out.b0.cell; have g0 := HA1.out.b0.frozen; clear hb)
          | (refine wpListIn_skip (by rfl) (by rfl) ?_))
        have hN := (own_nums (own_set HA1.out.row HA1.out.b0 (by decide) (.slice (some ⟨g, 0, none⟩) k cap)) rfl).take k (by have := HKL.out; omega)
        have e5 : (pre.map (·.1)).dropLast = (pre.map (·.1)).take k := by
          rw [List.dropLast_eq_take, List.length_map, HKL.out]; rfl
        exact ⟨((KeepsOthers.of_grownBy (grown_of_below HA1.out.bel) (fun k o e => by cases e)).trans (KeepsOthers.setCell _ _ _)).from _, rfl, some ⟨g, 0, none⟩, k, cap, (pre.map (·.1)).dropLast, HA1.out.b0.set _, by rw [e5]; exact hN, HACC.out.end2 y HPW.out,
          (HBB.out.trans (HA1.out.bel.mono HBB.out.size)).setCell (p := ⟨w.heap.size, 0, none⟩) (Nat.le_refl _) _⟩
    | false =>
      by_cases hn16 : pre.length < 16
      · cases hpw : plainW y.1 with
        | true =>
          have HPW := Lib.hid hpw
          clear hpw
          gi_wp2_with (first
            | (refine wpListIn_skip (by rfl) (by rfl) ?_)
            | fail)
          refine ⟨trivial, ?_⟩
          gi_wp2_with (first
            | (refine ⟨trivial, ?_⟩; gi_at_call 42; refine (CallsIn.inRound l (callsIn_wide.2 (plainw_any y.1 _ y.2))).mono ?_; rintro e W1 ⟨rfl, hb⟩; rw [HPW.out]; have HA1 := Lib.hid (HA.out.step hb); have d1 := HA1.out.b1.cell; have d2 := HA1.out.b2.cell; have d0 := HA1.out.b0.cell; have g0 := HA1.out.b0.frozen; clear hb)
            | (gi_at_builtin; refine wpListIn_append_own _ rfl _ _ 23 rfl w.heap.size 27 i0 (.int .u32 0) 1 4 Try.underlying23 hi hz0 hz1 hz2 rfl (by decide) _ _ _ rfl (HA1.out.row.alloc _) ⟨W1.heap.size, 0, none⟩ 1 1 [.int .u32 (y.1 : Int)] rfl rfl (cell_one_new _ _ _) (by simp [Value.oneCell']) (HLEN.out.1) (HLEN.out.2) (by have := HBB.out.size; have := HA1.out.bel.size; simp; omega) ?_; intro v' w1 hown' hgrow _; obtain ⟨g', cap', rfl⟩ := ownsRow_succ hown'; have HP := Lib.hid (HA1.out.app (y := y) HBB.out.size hown' hgrow); have k0 := HP.out.b0.cell; have k1 := HP.out.b0.frozen; have k2 := HP.out.b1.cell; have k3 := HP.out.b1.frozen; clear hown' hgrow)
            | (refine wpListIn_skip (by rfl) (by rfl) ?_))
          exact app_post HP.out HA.out.b3 (KeepsOthers.refl _) (Below.refl _ _) HBB.out (HACC.out.plain y HPW.out hn16) (by simp)
        | false =>
          have HPW := Lib.hid hpw
          clear hpw
          cases hjw : jumpsW y.1 with
          | true =>
            have HJW := Lib.hid hjw
            clear hjw
            by_cases hn2 : pre.length + 2 ≤ 16
            · have hn3 : ((pre.length : Int) + 2 ≤ 16) := by omega
              have e3 : wrap64 ((pre.length : Int) + 2) = (pre.length : Int) + 2 := IntWalk.wrap64_in _ ⟨by omega, by omega⟩
              gi_wp2_with (first
                | (refine wpListIn_skip (by rfl) (by rfl) ?_)
                | fail)
              refine ⟨trivial, ?_⟩
              gi_wp2_with (first
                | (refine ⟨trivial, ?_⟩; gi_at_call 42; refine (CallsIn.inRound l (callsIn_wide.2 (plainw_any y.1 _ y.2))).mono ?_; rintro e W1 ⟨rfl, hb⟩; rw [HPW.out]; have HA1 := Lib.hid (HA.out.step hb); have d1 := HA1.out.b1.cell; have d2 := HA1.out.b2.cell; have d0 := HA1.out.b0.cell; have g0 := HA1.out.b0.frozen; clear hb)
                | (refine ⟨trivial, ?_⟩; gi_at_call 43; refine (CallsIn.inRound l (callsIn_wide.2 (jumpsw_any y.1 _ y.2))).mono ?_; rintro e W2 ⟨rfl, hb⟩; rw [HJW.out]; have HA2 := Lib.hid (HA1.out.step hb); have d1 := HA2.out.b1.cell; have d2 := HA2.out.b2.cell; have d3 := HA2.out.b2.frozen; have d0 := HA2.out.b0.cell; have g0 := HA2.out.b0.frozen; have HA3 := Lib.hid (HA2.out.mark true); have HSZ : Hid (w.heap.size ≤ (W2.setCell ⟨w.heap.size + 1 + 1, 0, none⟩ (.bool true)).heap.size) := (by rw [size_set]; exact Nat.le_trans HBB.out.size HA2.out.bel.size); have m1 := HA3.out.b1.cell; clear hb)
                | (gi_at_builtin; refine wpListIn_append_own _ rfl _ _ 23 rfl w.heap.size 27 i0 (.int .u32 0) 1 4 Try.underlying23 hi hz0 hz1 hz2 rfl (by decide) _ _ _ rfl (HA3.out.row.alloc _) ⟨W2.heap.size, 0, none⟩ 1 1 [.int .u32 (y.1 : Int)] rfl rfl (cell_new_set _ _ _ _ _) (by simp [Value.oneCell']) (HLEN.out.1) (HLEN.out.2) (by have := HBB.out.size; have := HA2.out.bel.size; simp; omega) ?_; intro v' w1 hown' hgrow _; obtain ⟨g', cap', rfl⟩ := ownsRow_succ hown'; have HP := Lib.hid (HA3.out.app (y := y) HSZ.out hown' hgrow); have k2 := HP.out.b1.cell; have k3 := HP.out.b1.frozen; clear hown' hgrow)
                | (refine wpListIn_skip (by rfl) (by rfl) ?_))
              exact app_post HP.out HA.out.b3 ((KeepsOthers.of_grownBy (grown_of_below HA2.out.bel) (fun k o e => by cases e)).trans (KeepsOthers.setCell _ _ _)) ((HA2.out.bel.mono HBB.out.size).setCell (p := ⟨w.heap.size + 1 + 1, 0, none⟩) (by dsimp only; omega) _) HBB.out (HACC.out.jump y (by rw [HPW.out]; rfl) HJW.out hn2) (by simp)
            · have e6 : ((pre.length : Nat) : Int) = 15 := by omega
              gi_wp2_with (first
                | (refine wpListIn_skip (by rfl) (by rfl) ?_)
                | fail)
              refine ⟨trivial, ?_⟩
              gi_wp2_with (first
                | (refine ⟨trivial, ?_⟩; gi_at_call 42; refine (CallsIn.inRound l (callsIn_wide.2 (plainw_any y.1 _ y.2))).mono ?_; rintro e W1 ⟨rfl, hb⟩; rw [HPW.out]; have HA1 := Lib.hid (HA.out.step hb); have d1 := HA1.out.b1.cell; have d2 := HA1.out.b2.cell; have d0 := HA1.out.b0.cell; have g0 := HA1.out.b0.frozen; clear hb)
                | (refine ⟨trivial, ?_⟩; gi_at_call 43; refine (CallsIn.inRound l (callsIn_wide.2 (jumpsw_any y.1 _ y.2))).mono ?_; rintro e W2 ⟨rfl, hb⟩; rw [HJW.out]; have HA2 := Lib.hid (HA1.out.step hb); have d1 := HA2.out.b1.cell; have d2 := HA2.out.b2.cell; have d3 := HA2.out.b2.frozen; have d0 := HA2.out.b0.cell; have g0 := HA2.out.b0.frozen; have HA3 := Lib.hid (HA2.out.mark true); have HSZ : Hid (w.heap.size ≤ (W2.setCell ⟨w.heap.size + 1 + 1, 0, none⟩ (.bool true)).heap.size) := (by rw [size_set]; exact Nat.le_trans HBB.out.size HA2.out.bel.size); have m1 := HA3.out.b1.cell; clear hb)
                | (refine wpListIn_skip (by rfl) (by rfl) ?_))
              exact ⟨((KeepsOthers.of_grownBy (grown_of_below HA2.out.bel) (fun k o e => by cases e)).trans (KeepsOthers.setCell _ _ _)).from _, rfl, a, pre.length, cap, pre.map (·.1), HA2.out.b0.set _, own_nums (own_set HA2.out.row HA2.out.b0 (by decide) _) rfl,
                HACC.out.end3 y (by rw [HPW.out]; rfl) (by simp [hn2]), (HBB.out.trans (HA2.out.bel.mono HBB.out.size)).setCell (p := ⟨w.heap.size, 0, none⟩) (Nat.le_refl _) _⟩
          | false =>
            have HJW := Lib.hid hjw
            clear hjw
            gi_wp2_with (first
              | (refine wpListIn_skip (by rfl) (by rfl) ?_)
              | fail)
            refine ⟨trivial, ?_⟩
            gi_wp2_with (first
              | (refine ⟨trivial, ?_⟩; gi_at_call 42; refine (CallsIn.inRound l (callsIn_wide.2 (plainw_any y.1 _ y.2))).mono ?_; rintro e W1 ⟨rfl, hb⟩; rw [HPW.out]; have HA1 := Lib.hid (HA.out.step hb); have d1 := HA1.out.b1.cell; have d2 := HA1.out.b2.cell; have d0 := HA1.out.b0.cell; have g0 := HA1.out.b0.frozen; clear hb)
              | (refine ⟨trivial, ?_⟩; gi_at_call 43; refine (CallsIn.inRound l (callsIn_wide.2 (jumpsw_any y.1 _ y.2))).mono ?_; rintro e W2 ⟨rfl, hb⟩; rw [HJW.out]; have HA2 := Lib.hid (HA1.out.step hb); have d1 := HA2.out.b1.cell; have d2 := HA2.out.b2.cell; have d3 := HA2.out.b2.frozen; have d0 := HA2.out.b0.cell; have g0 := HA2.out.b0.frozen; have HA3 := Lib.hid (HA2.out.mark true); have HSZ : Hid (w.heap.size ≤ (W2.setCell ⟨w.heap.size + 1 + 1, 0, none⟩ (.bool true)).heap.size) := (by rw [size_set]; exact Nat.le_trans HBB.out.size HA2.out.bel.size); have m1 := HA3.out.b1.cell; clear hb)
              | (refine wpListIn_skip (by rfl) (by rfl) ?_))
            exact ⟨((KeepsOthers.of_grownBy (grown_of_below HA2.out.bel) (fun k o e => by cases e)).trans (KeepsOthers.setCell _ _ _)).from _, rfl, a, pre.length, cap, pre.map (·.1), HA2.out.b0.set _, own_nums (own_set HA2.out.row HA2.out.b0 (by decide) _) rfl,
              HACC.out.end3 y (by rw [HPW.out]; rfl) (by rw [HJW.out]; rfl), (HBB.out.trans (HA2.out.bel.mono HBB.out.size)).setCell (p := ⟨w.heap.size, 0, none⟩) (Nat.le_refl _) _⟩
      · have e6 : ((pre.length : Nat) : Int) = 16 := by have := HACC.out.1; omega
        cases hpw : plainW y.1 with
        | true =>
          have HPW := Lib.hid hpw
          clear hpw
          cases hjw : jumpsW y.1 with
          | true =>
            have HJW := Lib.hid hjw
            clear hjw
            gi_wp2_with (first
              | (refine wpListIn_skip (by rfl) (by rfl) ?_)
              | fail)
            refine ⟨trivial, ?_⟩
            gi_wp2_with (first
              | (refine ⟨trivial, ?_⟩; gi_at_call 42; refine (CallsIn.inRound l (callsIn_wide.2 (plainw_any y.1 _ y.2))).mono ?_; rintro e W1 ⟨rfl, hb⟩; rw [HPW.out]; have HA1 := Lib.hid (HA.out.step hb); have d1 := HA1.out.b1.cell; have d2 := HA1.out.b2.cell; have d0 := HA1.out.b0.cell; have g0 := HA1.out.b0.frozen; clear hb)
              | (refine ⟨trivial, ?_⟩; gi_at_call 43; refine (CallsIn.inRound l (callsIn_wide.2 (jumpsw_any y.1 _ y.2))).mono ?_; rintro e W2 ⟨rfl, hb⟩; rw [HJW.out]; have HA2 := Lib.hid (HA1.out.step hb); have d1 := HA2.out.b1.cell; have d2 := HA2.out.b2.cell; have d3 := HA2.out.b2.frozen; have d0 := HA2.out.b0.cell; have g0 := HA2.out.b0.frozen; have HA3 := Lib.hid (HA2.out.mark true); have HSZ : Hid (w.heap.size ≤ (W2.setCell ⟨w.heap.size + 1 + 1, 0, none⟩ (.bool true)).heap.size) := (by rw [size_set]; exact Nat.le_trans HBB.out.size HA2.out.bel.size); have m1 := HA3.out.b1.cell; clear hb)
              | (refine wpListIn_skip (by rfl) (by rfl) ?_))
            exact ⟨((KeepsOthers.of_grownBy (grown_of_below HA2.out.bel) (fun k o e => by cases e)).trans (KeepsOthers.setCell _ _ _)).from _, rfl, a, pre.length, cap, pre.map (·.1), HA2.out.b0.set _, own_nums (own_set HA2.out.row HA2.out.b0 (by decide) _) rfl,
              HACC.out.end3 y (by simp [hn16]) (by simp; omega), (HBB.out.trans (HA2.out.bel.mono HBB.out.size)).setCell (p := ⟨w.heap.size, 0, none⟩) (Nat.le_refl _) _⟩
          | false =>
            have HJW := Lib.hid hjw
            clear hjw
            gi_wp2_with (first
              | (refine wpListIn_skip (by rfl) (by rfl) ?_)
              | fail)
            refine ⟨trivial, ?_⟩
            gi_wp2_with (first
              | (refine ⟨trivial, ?_⟩; gi_at_call 42; refine (CallsIn.inRound l (callsIn_wide.2 (plainw_any y.1 _ y.2))).mono ?_; rintro e W1 ⟨rfl, hb⟩; rw [HPW.out]; have HA1 := Lib.hid (HA.out.step hb); have d1 := HA1.out.b1.cell; have d2 := HA1.out.b2.cell; have d0 := HA1.out.b0.cell; have g0 := HA1.out.b0.frozen; clear hb)
              | (refine ⟨trivial, ?_⟩; gi_at_call 43; refine (CallsIn.inRound l (callsIn_wide.2 (jumpsw_any y.1 _ y.2))).mono ?_; rintro e W2 ⟨rfl, hb⟩; rw [HJW.out]; have HA2 := Lib.hid (HA1.out.step hb); have d1 := HA2.out.b1.cell; have d2 := HA2.out.b2.cell; have d3 := HA2.out.b2.frozen; have d0 := HA2.out.b0.cell; have g0 := HA2.out.b0.frozen; have HA3 := Lib.hid (HA2.out.mark true); have HSZ : Hid (w.heap.size ≤ (W2.setCell ⟨w.heap.size + 1 + 1, 0, none⟩ (.bool true)).heap.size) := (by rw [size_set]; exact Nat.le_trans HBB.out.size HA2.out.bel.size); have m1 := HA3.out.b1.cell; clear hb)
              | (refine wpListIn_skip (by rfl) (by rfl) ?_))
            exact ⟨((KeepsOthers.of_grownBy (grown_of_below HA2.out.bel) (fun k o e => by cases e)).trans (KeepsOthers.setCell _ _ _)).from _, rfl, a, pre.length, cap, pre.map (·.1), HA2.out.b0.set _, own_nums (own_set HA2.out.row HA2.out.b0 (by decide) _) rfl,
              HACC.out.end3 y (by simp [hn16]) (by rw [HJW.out]; rfl), (HBB.out.trans (HA2.out.bel.mono HBB.out.size)).setCell (p := ⟨w.heap.size, 0, none⟩) (Nat.le_refl _) _⟩
        | false =>
          have HPW := Lib.hid hpw
          clear hpw
          cases hjw : jumpsW y.1 with
          | true =>
            have HJW := Lib.hid hjw
            clear hjw
            gi_wp2_with (first
              | (refine wpListIn_skip (by rfl) (by rfl) ?_)
              | fail)
            refine ⟨trivial, ?_⟩
            gi_wp2_with (first
              | (refine ⟨trivial, ?_⟩; gi_at_call 42; refine (CallsIn.inRound l (callsIn_wide.2 (plainw_any y.1 _ y.2))).mono ?_; rintro e W1 ⟨rfl, hb⟩; rw [HPW.out]; have HA1 := Lib.hid (HA.out.step hb); have d1 := HA1.out.b1.cell; have d2 := HA1.out.b2.cell; have d0 := HA1.out.b0.cell; have g0 := HA1.out.b0.frozen; clear hb)
              | (refine ⟨trivial, ?_⟩; gi_at_call 43; refine (CallsIn.inRound l (callsIn_wide.2 (jumpsw_any y.1 _ y.2))).mono ?_; rintro e W2 ⟨rfl, hb⟩; rw [HJW.out]; have HA2 := Lib.hid (HA1.out.step hb); have d1 := HA2.out.b1.cell; have d2 := HA2.out.b2.cell; have d3 := HA2.out.b2.frozen; have d0 := HA2.out.b0.cell; have g0 := HA2.out.b0.frozen; have HA3 := Lib.hid (HA2.out.mark true); have HSZ : Hid (w.heap.size ≤ (W2.setCell ⟨w.heap.size + 1 + 1, 0, none⟩ (.bool true)).heap.size) := (by rw [size_set]; exact Nat.le_trans HBB.out.size HA2.out.bel.size); have m1 := HA3.out.b1.cell; clear hb)
              | (refine wpListIn_skip (by rfl) (by rfl) ?_))
            exact ⟨((KeepsOthers.of_grownBy (grown_of_below HA2.out.bel) (fun k o e => by cases e)).trans (KeepsOthers.setCell _ _ _)).from _, rfl, a, pre.length, cap, pre.map (·.1), HA2.out.b0.set _, own_nums (own_set HA2.out.row HA2.out.b0 (by decide) _) rfl,
              HACC.out.end3 y (by rw [HPW.out]; rfl) (by simp; omega), (HBB.out.trans (HA2.out.bel.mono HBB.out.size)).setCell (p := ⟨w.heap.size, 0, none⟩) (Nat.le_refl _) _⟩
          | false =>
            have HJW := Lib.hid hjw
            clear hjw
            gi_wp2_with (first
              | (refine wpListIn_skip (by rfl) (by rfl) ?_)
              | fail)
            refine ⟨trivial, ?_⟩
            gi_wp2_with (first
              | (refine ⟨trivial, ?_⟩; gi_at_call 42; refine (CallsIn.inRound l (callsIn_wide.2 (plainw_any y.1 _ y.2))).mono ?_; rintro e W1 ⟨rfl, hb⟩; rw [HPW.out]; have HA1 := Lib.hid (HA.out.step hb); have d1 := HA1.out.b1.cell; have d2 := HA1.out.b2.cell; have d0 := HA1.out.b0.cell; have g0 := HA1.out.b0.frozen; clear hb)
              | (refine ⟨trivial, ?_⟩; gi_at_call 43; refine (CallsIn.inRound l (callsIn_wide.2 (jumpsw_any y.1 _ y.2))).mono ?_; rintro e W2 ⟨rfl, hb⟩; rw [HJW.out]; have HA2 := Lib.hid (HA1.out.step hb); have d1 := HA2.out.b1.cell; have d2 := HA2.out.b2.cell; have d3 := HA2.out.b2.frozen; have d0 := HA2.out.b0.cell; have g0 := HA2.out.b0.frozen; have HA3 := Lib.hid (HA2.out.mark true); have HSZ : Hid (w.heap.size ≤ (W2.setCell ⟨w.heap.size + 1 + 1, 0, none⟩ (.bool true)).heap.size) := (by rw [size_set]; exact Nat.le_trans HBB.out.size HA2.out.bel.size); have m1 := HA3.out.b1.cell; clear hb)
              | (refine wpListIn_skip (by rfl) (by rfl) ?_))
            exact ⟨((KeepsOthers.of_grownBy (grown_of_below HA2.out.bel) (fun k o e => by cases e)).trans (KeepsOthers.setCell _ _ _)).from _, rfl, a, pre.length, cap, pre.map (·.1), HA2.out.b0.set _, own_nums (own_set HA2.out.row HA2.out.b0 (by decide) _) rfl,
              HACC.out.end3 y (by rw [HPW.out]; rfl) (by rw [HJW.out]; rfl), (HBB.out.trans (HA2.out.bel.mono HBB.out.size)).setCell (p := ⟨w.heap.size, 0, none⟩) (Nat.le_refl _) _⟩
  case done =>
    rintro D ys W hD rfl ⟨a, cap, j, a0, l0, cap0, ⟨hl, hj, hr, hm⟩, hrow, hacc, hB⟩ hK
    have c1 := hl.cell
    have c2 := hj.cell
    have c0 := hr.cell
    have f0 := hr.frozen
    have HROW := Lib.hid hrow
    have HACC := Lib.hid hacc
    have HBB := Lib.hid hB
    have HKK := Lib.hid hK
    have HD := Lib.hid hD
    have HR0 := Lib.hid hr
    clear hrow hacc hB hK hD hl hj hr hm b0 b1 b2 b3 b4 hB0
    cases j with
    | false =>
      gi_wp2
      have HK2 := (KeepsOthers.setCell W ⟨w.heap.size, 0, none⟩ (.slice a ys.length cap)).same D _ HKK.out rfl
      refine ⟨by simp, .inl ⟨_, _, rfl, run_takeDeferred HK2, ?_⟩⟩
      have hc5 := cell_kept (World.cell?_setCell_same' W ⟨w.heap.size, 0, none⟩ (.slice a ys.length cap) (by rw [c0]; rfl)) (grownBy_putObj' _ D (.deferred none)) (fun r e => by cases e; exact ⟨_, HK2, rfl⟩)
      refine ⟨.slice a ys.length cap, ?_, a, ys.length, cap, rfl, ?_, ?_⟩
      · simp [results, Try.f13, go_sem, hc5]
      · have h9 := HACC.out.2.2 []
        rw [List.append_nil] at h9
        rw [h9]
        exact own_nums (ownsRow_putObj (own_set HROW.out HR0.out (by decide) _) _ HK2 rfl) rfl
      · exact (HBB.out.setCell (p := ⟨w.heap.size, 0, none⟩) (Nat.le_refl _) _).trans (belowK_b (w := w) (Nat.le_refl _) _ D _ _ (by have := HD.out; simp at this; omega) HK2 rfl rfl)
    | true =>
      obtain ⟨k, hk⟩ : ∃ k, ys.length = k + 1 := ⟨ys.length - 1, by have := HACC.out.2.1 rfl; omega⟩
      obtain ⟨g, c, hv, hg, hgs, hgc⟩ := own_at HROW.out (by omega)
      cases hv
      have e1 : ((ys.length : Nat) : Int) - 1 = (k : Int) := by omega
      have hkc : k ≤ cap := by omega
      have e2 : wrap64 (k : Int) = (k : Int) := IntWalk.wrap64_in _ ⟨by omega, by have := HACC.out.1; omega⟩
      have HKL := Lib.hid hk
      clear hk hgc
      gi_wp2
      have HK2 := (KeepsOthers.setCell W ⟨w.heap.size, 0, none⟩ (.slice (some ⟨g, 0, none⟩) k cap)).same D _ HKK.out rfl
      refine ⟨by simp, .inl ⟨_, _, rfl, run_takeDeferred HK2, ?_⟩⟩
      have hc5 := cell_kept (World.cell?_setCell_same' W ⟨w.heap.size, 0, none⟩ (.slice (some ⟨g, 0, none⟩) k cap) (by rw [c0]; rfl)) (grownBy_putObj' _ D (.deferred none)) (fun r e => by cases e; exact ⟨_, HK2, rfl⟩)
      refine ⟨.slice (some ⟨g, 0, none⟩) k cap, ?_, some ⟨g, 0, none⟩, k, cap, rfl, ?_, ?_⟩
      · simp [results, Try.f13, go_sem, hc5]
      · have h9 := HACC.out.2.2 []
        rw [List.append_nil] at h9
        rw [h9]
        have hN := (own_nums (ownsRow_putObj (own_set HROW.out HR0.out (by decide) (.slice (some ⟨g, 0, none⟩) k cap)) (.deferred none) HK2 rfl) rfl).take k (by have := HKL.out; omega)
        have e5 : cutGo [] (ys.map (·.1)) true = (ys.map (·.1)).take k := by
          rw [cutGo, if_pos rfl, List.dropLast_eq_take, List.length_map, HKL.out]; rfl
        rw [e5]; exact hN
      · exact (HBB.out.setCell (p := ⟨w.heap.size, 0, none⟩) (Nat.le_refl _) _).trans (belowK_b (w := w) (Nat.le_refl _) _ D _ _ (by have := HD.out; simp at this; omega) HK2 rfl rfl)
  case stop =>
    rintro D c pre W hD hpre ⟨rfl, a, len, cap, ys, hr, hn, hy, hB⟩ hK
    have HN := Lib.hid hn
    have HY := Lib.hid hy
    have HBB := Lib.hid hB
    have HP := Lib.hid hpre
    have HD := Lib.hid hD
    clear hn hy hB hpre hD b0 b1 b2 b3 b4 hB0
    gi_wp2
    refine ⟨by simp, .inl ⟨_, _, rfl, run_takeDeferred hK, ?_⟩⟩
    have hc5 := cell_kept hr.cell (grownBy_putObj' _ D (.deferred none)) (fun r e => by cases e; exact ⟨_, hK, rfl⟩)
    refine ⟨.slice a len cap, ?_, a, len, cap, rfl, ?_, ?_⟩
    · simp [results, Try.f13, go_sem, hc5]
    · obtain ⟨rest, hrest⟩ := HP.out
      have h9 := HY.out (rest.map (·.1))
      rw [← List.map_append, hrest] at h9
      rw [h9]
      exact nums_own HN.out (grownBy_putObj' _ D (.deferred none)) (fun r e => by cases e; exact ⟨_, hK, rfl⟩)
    · exact HBB.out.trans (belowK_b (w := w) (Nat.le_refl _) _ D _ _ (by have := HD.out; simp at this; omega) hK rfl rfl)
end Go.Proofs.Ytjoaenfibkgplaa
