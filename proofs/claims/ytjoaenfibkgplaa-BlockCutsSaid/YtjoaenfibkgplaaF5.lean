import Derived.Test.YtjoaenfibkgplaaF4
import Derived.ArgAppend
import Derived.Maps.AppendAt
namespace Go.Proofs.Ytjoaenfibkgplaa
set_option linter.unusedSimpArgs false
open Go.RowKit Go.Cq
set_option linter.unusedVariables false

/-- 'append(out, xs...)': what comes is a slice, and the old one reads as it did. -/
theorem wpList_append_keep {P : Program} (w : World) {ops : Array Oper} {rest : List Oper} {o : Oper} {a : Act} {Q : Exit → Act → World → Prop} (hgd : o.guard = none) (s x : Operand) (t : TypeId)
    (ho : o.op = .call { callee := .builtin .append, args := #[s, x], argTypes := #[t, t] })
    (base : Nat) (e : TypeId) (k : IntKind) (bytes : Nat) (ht : P.underlying t = some (.slice e)) (hi : (P.info? e).map (fun i => (i.zero, i.size, i.bytes)) = some (some (.int k 0), 1, bytes))
    (a0 : Option Addr) (c0 : Nat) (xs : List Nat) (hs : a.eval s = .slice a0 xs.length c0) (hown : w.ownsRow base e 1 (.slice a0 xs.length c0) xs.length (nums k xs))
    (ad : Addr) (m c : Nat) (ys : List Nat) (hx : a.eval x = .slice (some ad) m c) (hy : Nums w k (some ad) m c ys)
    (h63 : xs.length + m ≤ maxLen) (hbytes : (xs.length + m) * bytes ≤ 140737488355328) (hbase : base ≤ w.heap.size)
    (h : ∀ a' c' w', Hid (w'.ownsRow base e 1 (.slice a' (cat xs ys).length c') (cat xs ys).length (nums k (cat xs ys))) → Hid (Nums w' k a' (cat xs ys).length c' (cat xs ys)) → Hid (w.grownBy w' (Value.slice a0 xs.length c0).ownBlock) →
      Hid (Nums w' k a0 xs.length c0 xs) → wpList P ops Q rest (a.put o.dst (.slice a' (cat xs ys).length c')) w') : wpList P ops Q (o :: rest) a w := by
  obtain ⟨i, hi1, hi2, hi3, hi4⟩ := info_parts hi
  obtain ⟨y1, y2, y0, y3⟩ := hy
  have hnl : (nums k ys).length = m * 1 := by rw [nums_length]; omega
  have hnews : ∀ j u, (nums k ys)[j]? = some u → w.cell? (ad.add j) = some u := by
    intro j u hj
    have hjl : j < ys.length := by have := (List.getElem?_eq_some_iff.1 hj).1; rwa [nums_length] at this
    rw [nums_get k ys j hjl] at hj
    obtain ⟨b, off, e1, _, hc⟩ := y3 j (by omega)
    obtain rfl := Option.some.inj e1
    rw [Addr.add_lit, hc, ← hj]
  refine wpList_plain hgd fun K hK => ?_
  obtain ⟨v', w', hr, h2, h3, h4, h5⟩ := run_append_own_at (P := P) w base t o.type e i (.int k 0) 1 bytes ht hi1 hi2 hi3 hi4 rfl (by decide) _ xs.length (nums k xs) hown ad m c (nums k ys) hnl hnews (nums_one k ys) h63 hbytes hbase
  have h2' : w'.ownsRow base e 1 v' (cat xs ys).length (nums k (cat xs ys)) := by rw [cat_length, y1, cat, nums_append]; exact h2
  obtain ⟨a', c', rfl, hn⟩ := Nums.of_own h2'
  have old : Nums w' k a0 xs.length c0 xs := by
    have hold := hown
    rcases hown.2 with ⟨hv, h0⟩ | ⟨g, cap, cur, hv, hb, hg, hnc, hcm, hcs, htk⟩
    · obtain rfl := List.eq_nil_of_length_eq_zero h0
      simp only [Value.slice.injEq] at hv
      obtain ⟨rfl, _, rfl⟩ := hv
      exact Nums.nil _ _
    · simp only [Value.slice.injEq, true_and] at hv
      obtain ⟨rfl, rfl⟩ := hv
      by_cases hroom : xs.length + m ≤ c0
      · have hr2 := run_append_room_cells (P := P) w t o.type e i ht hi1 g 0 xs.length c0 ad m c (nums k ys) (by rw [hi3]; exact hnl) hnews (nums_one k ys) hroom
          (fun j hj => by rw [hi3, cell_of_row w g _ cur e (0, 0) hg, Array.getElem?_eq_getElem (by rw [hcs]; rw [hnl] at hj; omega)]; rfl)
          (fun j hj => by exact blk_free hg _)
        rw [hr] at hr2
        injection hr2 with e1 e2
        simp only [Value.slice.injEq] at e1
        obtain ⟨rfl, e3, rfl⟩ := e1
        have := hn.take xs.length (by rw [cat_length]; omega)
        rwa [show (cat xs ys).take xs.length = xs from List.take_left] at this
      · obtain ⟨v2, w2, hr2, r1, r2⟩ := run_append_arg_grows (P := P) w t o.type e i (.int k 0) 1 bytes ht hi1 hi2 hi3 hi4 rfl (by decide) ⟨g, 0, none⟩ xs.length c0 (nums k xs) (by rw [nums_length]; omega) (hold.cells (g := g) rfl) ad m c (nums k ys) hnl hnews (by omega) h63 hbytes
        rw [hr] at hr2
        injection hr2 with e1 e2
        subst e2
        obtain ⟨a2, c2, e5, hn2⟩ := Nums.of_own hold
        simp only [Value.slice.injEq, true_and] at e5
        obtain ⟨rfl, rfl⟩ := e5
        exact nums_own hn2 r2 (fun r hr => by cases hr)
  unfold Oper.wp execOp
  simp only [ho, resolve, invoke, builtin, Sem.run_bind, Sem.run_pure, Result.andThen_ok, List.map_toArray, List.map_cons, List.map_nil, hs, hx, hr]
  exact hK _ _ (h a' c' w' h2' hn h3 old)

def wAd (i : Nat) : Nat := encN ⟨1, i, i, i, 0, 0⟩
def w35 : Nat := encN ⟨35, 0, 0, 0, 0, 0⟩
def w36 : Nat := encN ⟨36, 0, 0, 0, 0, 0⟩
def wJ64 : Nat := encN ⟨68, 0, 0, 0, 0, 64⟩
def w357 : Nat := encN ⟨35, 0, 0, 0, 0, 7⟩
theorem wAd_ok : ∀ i, i < 16 → plainW (wAd i) = true ∧ wAd i < 4294967296 := by decide +kernel
theorem w35_ok : plainW w35 = false ∧ jumpsW w35 = false ∧ w35 < 4294967296 := by decide +kernel
theorem w36_ok : plainW w36 = false ∧ jumpsW w36 = false ∧ w36 < 4294967296 := by decide +kernel
theorem w357_ok : plainW w357 = false ∧ w357 < 4294967296 := by decide +kernel
theorem wJ64_ok : plainW wJ64 = false ∧ jumpsW wJ64 = true ∧ wJ64 < 4294967296 := by decide +kernel
theorem wJ64_dec : (refDec wJ64).op = 68 := by decide +kernel
theorem word_Ad (i : Nat) (hi : i < 16) (w : World) : Calls Try.prog 18 #[.int .i64 1, .int .i64 (i : Int), .int .i64 (i : Int), .int .i64 (i : Int), .int .i64 0, .int .u32 0] w fun e w' => e = .returned (.int .u32 (wAd i : Int)) ∧ Below w.heap.size w w' :=
  word18_any 1 i i i 0 0 w (by omega) (by omega) (by omega) (by omega) (by omega) (by omega)
theorem word_35 (w : World) : Calls Try.prog 18 #[.int .i64 35, .int .i64 0, .int .i64 0, .int .i64 0, .int .i64 0, .int .u32 0] w fun e w' => e = .returned (.int .u32 (w35 : Int)) ∧ Below w.heap.size w w' :=
  word18_any 35 0 0 0 0 0 w (by omega) (by omega) (by omega) (by omega) (by omega) (by omega)
theorem word_36 (w : World) : Calls Try.prog 18 #[.int .i64 36, .int .i64 0, .int .i64 0, .int .i64 0, .int .i64 0, .int .u32 0] w fun e w' => e = .returned (.int .u32 (w36 : Int)) ∧ Below w.heap.size w w' :=
  word18_any 36 0 0 0 0 0 w (by omega) (by omega) (by omega) (by omega) (by omega) (by omega)
theorem word_357 (w : World) : Calls Try.prog 18 #[.int .i64 35, .int .i64 0, .int .i64 0, .int .i64 0, .int .i64 0, .int .u32 7] w fun e w' => e = .returned (.int .u32 (w357 : Int)) ∧ Below w.heap.size w w' :=
  word18_any 35 0 0 0 0 7 w (by omega) (by omega) (by omega) (by omega) (by omega) (by omega)
theorem word_J64 (w : World) : Calls Try.prog 18 #[.int .i64 68, .int .i64 0, .int .i64 0, .int .i64 0, .int .i64 0, .int .u32 64] w fun e w' => e = .returned (.int .u32 (wJ64 : Int)) ∧ Below w.heap.size w w' :=
  word18_any 68 0 0 0 0 64 w (by omega) (by omega) (by omega) (by omega) (by omega) (by omega)

/-- So many plain words, and what ends a block. -/
def endsW (k : Nat) : List Nat := (List.range k).map wAd
theorem endsW_length (k : Nat) : (endsW k).length = k := by simp [endsW]
theorem endsW_succ (k : Nat) : endsW (k + 1) = cat (endsW k) [wAd k] := by unfold endsW cat; rw [List.range_succ, List.map_append]; rfl
theorem endsW_plain {k : Nat} (hk : k ≤ 16) : ∀ x ∈ endsW k, plainW x = true := by
  intro y hy
  unfold endsW at hy
  rw [List.mem_map] at hy
  obtain ⟨i, hi, rfl⟩ := hy
  exact (wAd_ok i (by have := List.mem_range.1 hi; omega)).1
theorem endsW_lt {k : Nat} (hk : k ≤ 16) : ∀ x ∈ endsW k, x < 4294967296 := by
  intro y hy
  unfold endsW at hy
  rw [List.mem_map] at hy
  obtain ⟨i, hi, rfl⟩ := hy
  exact (wAd_ok i (by have := List.mem_range.1 hi; omega)).2
/-- What may end a block. -/
def Ends (e : List Nat) : Prop := (∃ x, e = [x] ∧ plainW x = false ∧ jumpsW x = false) ∨ (∃ x y, e = [x, y] ∧ plainW x = false ∧ jumpsW x = true ∧ plainW y = false)
theorem ends_cut {e : List Nat} (he : Ends e) (k : Nat) (hk : k < 16) (rest : List Nat) : cutGo ((cat (endsW k) e).drop 0 ++ rest) [] false = endsW k := by
  rw [List.drop_zero, cat, List.append_assoc, cutGo_plain (endsW_plain (by omega)) _ _ (by rw [endsW_length]; simp; omega), List.nil_append]
  rcases he with ⟨x, rfl, h1, h2⟩ | ⟨x, y, rfl, h1, h2, h3⟩
  · rw [List.cons_append, cutGo_stop h1 h2]
  · rw [List.cons_append, List.cons_append]
    by_cases hl : k + 2 ≤ 16
    · rw [cutGo_jump h1 h2 _ _ _ (by rw [endsW_length]; exact hl), h3, if_neg Bool.false_ne_true]
    · rw [cutGo_long h1 _ _ (by rw [endsW_length]; omega)]
theorem ends_all (k : Nat) (hk : k < 16) : cutGo ((endsW k).drop 0 ++ []) [] false = endsW k := by
  rw [List.drop_zero, cutGo_plain (endsW_plain (by omega)) _ _ (by rw [endsW_length]; simp; omega), List.nil_append, cutGo, if_neg Bool.false_ne_true]
theorem ends0 : Ends [w35] := .inl ⟨_, rfl, w35_ok.1, w35_ok.2.1⟩
theorem ends1 : Ends [w36] := .inl ⟨_, rfl, w36_ok.1, w36_ok.2.1⟩
theorem ends2 : Ends [wFF] := .inl ⟨_, rfl, wFF_plain, wFF_jumps⟩
theorem ends3 : Ends [wJ64, wJ64] := .inr ⟨_, _, rfl, wJ64_ok.1, wJ64_ok.2.1, wJ64_ok.1⟩
theorem ends4 : Ends [wJ64, w357] := .inr ⟨_, _, rfl, wJ64_ok.1, wJ64_ok.2.1, w357_ok.1⟩
theorem end_lt {e : List Nat} (h : e = [w35] ∨ e = [w36] ∨ e = [wFF] ∨ e = [wJ64, wJ64] ∨ e = [wJ64, w357]) : ∀ x ∈ e, x < 4294967296 := by
  intro x hx
  rcases h with rfl | rfl | rfl | rfl | rfl <;> simp only [List.mem_cons, List.not_mem_nil, or_false] at hx
  · rw [hx]; exact w35_ok.2.2
  · rw [hx]; exact w36_ok.2.2
  · rw [hx]; decide
  · rcases hx with h | h <;> rw [h] <;> exact wJ64_ok.2.2
  · rcases hx with h | h <;> rw [h]
    · exact wJ64_ok.2.2
    · exact w357_ok.2
end Go.Proofs.Ytjoaenfibkgplaa
