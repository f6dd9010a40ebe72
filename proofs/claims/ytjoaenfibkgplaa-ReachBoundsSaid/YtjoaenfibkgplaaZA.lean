/- Words for slices of numbers: what is read of one, what a call owns of one, how one grows. No program in sight. -/
import Derived.WalkKit
import Derived.Lib.Hide
import Derived.Laws.AppendOwnNone
import Derived.OpenShut
import Derived.Deep.WholeRow
import Derived.Deep.MidRow
import Derived.MapKept
namespace Go.Cq
set_option linter.unusedSimpArgs false
open Go Go.RowKit

/-- Numbers as values. -/
def nums (k : IntKind) (xs : List Nat) : List Value := xs.map fun (n : Nat) => Value.int k (n : Int)
theorem nums_length (k : IntKind) (xs : List Nat) : (nums k xs).length = xs.length := by simp [nums]
theorem nums_append (k : IntKind) (xs ys : List Nat) : nums k (xs ++ ys) = nums k xs ++ nums k ys := by simp [nums]
theorem nums_get (k : IntKind) (xs : List Nat) (i : Nat) (h : i < xs.length) : (nums k xs)[i]? = some (.int k (xs.getD i 0 : Nat)) := by simp [nums, h]
theorem nums_one (k : IntKind) (xs : List Nat) : ∀ u ∈ nums k xs, u.oneCell' = true := by
  intro u hu
  simp only [nums, List.mem_map] at hu
  obtain ⟨_, _, rfl⟩ := hu
  rfl
/-- One list behind another, under a name that a walk lets stand. -/
def cat (xs ys : List Nat) : List Nat := xs ++ ys
theorem cat_length (xs ys : List Nat) : (cat xs ys).length = xs.length + ys.length := List.length_append
theorem getD_mem (xs : List Nat) (k : Nat) (h : k < xs.length) : xs.getD k 0 ∈ xs := by simp [List.getD, h]

/-- What is read of a slice of numbers. -/
def Nums (w : World) (k : IntKind) (a : Option Addr) (len cap : Nat) (xs : List Nat) : Prop :=
  xs.length = len ∧ len ≤ cap ∧ (a = none → cap = 0) ∧ ∀ i, i < len → ∃ b off, a = some ⟨b, off, none⟩ ∧ b < w.heap.size ∧ w.cell? ⟨b, off + i, none⟩ = some (.int k (xs.getD i 0 : Nat))

theorem Nums.nil (w : World) (k : IntKind) : Nums w k none 0 0 [] := ⟨rfl, Nat.le_refl _, fun _ => rfl, fun _ h => absurd h (Nat.not_lt_zero _)⟩

theorem Nums.kept {w w' : World} {k : IntKind} {a : Option Addr} {len cap : Nat} {xs : List Nat} (h : Nums w k a len cap xs) (hb : Below w.heap.size w w') : Nums w' k a len cap xs := by
  obtain ⟨h1, h2, h0, h3⟩ := h
  refine ⟨h1, h2, h0, fun i hi => ?_⟩
  obtain ⟨b, off, rfl, hbl, hc⟩ := h3 i hi
  exact ⟨b, off, rfl, Nat.lt_of_lt_of_le hbl hb.size, (hb.cell (p := ⟨b, off + i, none⟩) hbl).trans hc⟩

theorem Nums.alloc {w : World} {k : IntKind} {a : Option Addr} {len cap : Nat} {xs : List Nat} (h : Nums w k a len cap xs) (o : Obj) : Nums (w.alloc o) k a len cap xs :=
  h.kept ((Below.refl _ _).alloc (Nat.le_refl _) _)

/-- A slice that a call owns is read as any. -/
theorem Nums.of_own {w : World} {base : Nat} {e : TypeId} {k : IntKind} {v : Value} {xs : List Nat} (h : w.ownsRow base e 1 v xs.length (nums k xs)) :
    ∃ a cap, v = .slice a xs.length cap ∧ Nums w k a xs.length cap xs := by
  obtain ⟨h1, ⟨rfl, hn⟩ | ⟨g, cap, cur, rfl, hb, hg, hnc, hcm, hcs, ht⟩⟩ := h
  · obtain rfl := List.eq_nil_of_length_eq_zero hn
    exact ⟨none, 0, rfl, Nums.nil _ _⟩
  · refine ⟨_, cap, rfl, rfl, hnc, fun h => (by cases h), fun i hi => ⟨g, 0, rfl, (Array.getElem?_eq_some_iff.1 hg).1, ?_⟩⟩
    rw [Nat.zero_add, cell_of_row w g i cur e (0, 0) hg]
    have h2 : (cur.toList.take (xs.length * 1))[i]? = some (.int k (xs.getD i 0 : Nat)) := by rw [ht]; exact nums_get k xs i hi
    rw [List.getElem?_take, if_pos (by omega)] at h2
    simpa using h2

/-- 'append(out, xs...)', out the call's own, xs any slice of numbers. -/
theorem wpList_append_nums {P : Program} (w : World) {ops : Array Oper} {rest : List Oper} {o : Oper} {a : Act} {Q : Exit → Act → World → Prop} (hgd : o.guard = none) (s x : Operand) (t : TypeId)
    (ho : o.op = .call { callee := .builtin .append, args := #[s, x], argTypes := #[t, t] })
    (base : Nat) (e : TypeId) (k : IntKind) (bytes : Nat) (ht : P.underlying t = some (.slice e)) (hi : (P.info? e).map (fun i => (i.zero, i.size, i.bytes)) = some (some (.int k 0), 1, bytes))
    (v : Value) (xs : List Nat) (hs : a.eval s = v) (hown : w.ownsRow base e 1 v xs.length (nums k xs))
    (ao : Option Addr) (m c : Nat) (ys : List Nat) (hx : a.eval x = .slice ao m c) (hy : Nums w k ao m c ys)
    (h63 : xs.length + m ≤ maxLen) (hbytes : (xs.length + m) * bytes ≤ 140737488355328) (hbase : base ≤ w.heap.size)
    (h : ∀ v' w', w'.ownsRow base e 1 v' (cat xs ys).length (nums k (cat xs ys)) → w.grownBy w' v.ownBlock → wpList P ops Q rest (a.put o.dst v') w') : wpList P ops Q (o :: rest) a w := by
  obtain ⟨i, hi1, hi2, hi3, hi4⟩ := info_parts hi
  obtain ⟨y1, y2, y0, y3⟩ := hy
  cases ao with
  | none =>
    obtain rfl := y0 rfl
    obtain rfl : m = 0 := by omega
    obtain rfl := List.eq_nil_of_length_eq_zero y1
    unfold cat at h
    rw [List.append_nil] at h
    exact wpList_append_own_none hgd s x t ho base e i 1 ht hi1 v xs.length (nums k xs) hs hown hx (h v w hown (World.grownBy.refl _ _))
  | some ad =>
    refine wpList_append_own w hgd s x t ho base e i (.int k 0) 1 bytes ht hi1 hi2 hi3 hi4 rfl (by decide) v xs.length (nums k xs) hs hown ad m c (nums k ys) hx (by rw [nums_length]; omega) ?_ (nums_one k ys) h63 hbytes hbase ?_
    · intro j u hj
      have hjl : j < ys.length := by have := (List.getElem?_eq_some_iff.1 hj).1; rwa [nums_length] at this
      rw [nums_get k ys j hjl] at hj
      obtain ⟨b, off, e1, _, hc⟩ := y3 j (by omega)
      obtain rfl := Option.some.inj e1
      rw [Addr.add_lit, hc, ← hj]
    · intro v' w' h1 h2 _
      exact h v' w' (by rw [cat_length, y1, cat, nums_append]; exact h1) h2

theorem drop_getD (xs : List Nat) (j i : Nat) : (xs.drop j).getD i 0 = xs.getD (j + i) 0 := by simp [List.getD, List.getElem?_drop]

/-- 'xs[j:]'. -/
theorem Nums.drop {w : World} {k : IntKind} {a : Option Addr} {len cap : Nat} {xs : List Nat} (h : Nums w k a len cap xs) (j : Nat) (hj : j ≤ len) (a' : Option Addr) (ha : ∀ b off, a = some ⟨b, off, none⟩ → j < len → a' = some ⟨b, off + j, none⟩)
    (ha2 : a' = none → a = none) : Nums w k a' (len - j) (cap - j) (xs.drop j) := by
  obtain ⟨h1, h2, h0, h3⟩ := h
  refine ⟨by rw [List.length_drop, h1], by omega, fun e => by have := h0 (ha2 e); omega, fun i hi => ?_⟩
  obtain ⟨b, off, e1, hbl, hc⟩ := h3 (j + i) (by omega)
  exact ⟨b, off + j, ha b off e1 (by omega), hbl, by rw [drop_getD, Nat.add_assoc]; exact hc⟩

theorem Nums.drop_add {w : World} {k : IntKind} {a : Option Addr} {len cap : Nat} {xs : List Nat} (h : Nums w k a len cap xs) (j : Nat) (hj : j ≤ len) : Nums w k (a.map (·.add j)) (len - j) (cap - j) (xs.drop j) :=
  h.drop j hj _ (fun b off e _ => by rw [e, Option.map_some, Addr.add_lit]) (fun e => by cases a <;> simp_all)
theorem Nums.drop_all {w : World} {k : IntKind} {a : Option Addr} {len cap : Nat} {xs : List Nat} (h : Nums w k a len cap xs) (j : Nat) (hj : j ≤ len) (hc : cap = j) : Nums w k a (len - j) (cap - j) (xs.drop j) :=
  h.drop j hj _ (fun b off e hl => by have := h.2.1; omega) (fun e => e)

/-- 'xs[:j]'. -/
theorem Nums.take {w : World} {k : IntKind} {a : Option Addr} {len cap : Nat} {xs : List Nat} (h : Nums w k a len cap xs) (j : Nat) (hj : j ≤ len) : Nums w k a j cap (xs.take j) := by
  obtain ⟨h1, h2, h0, h3⟩ := h
  refine ⟨by rw [List.length_take, h1]; omega, by omega, h0, fun i hi => ?_⟩
  obtain ⟨b, off, e1, hbl, hc⟩ := h3 i (by omega)
  refine ⟨b, off, e1, hbl, ?_⟩
  have : (xs.take j).getD i 0 = xs.getD i 0 := by simp [List.getD, hi]
  rw [this]; exact hc

/-- A row that was just laid. -/
theorem Nums.new (w : World) (k : IntKind) (cs : Array Value) (t : TypeId) (xs : List Nat) (h : cs.toList = nums k xs) : Nums (w.alloc (.cells cs t)) k (some ⟨w.heap.size, 0, none⟩) xs.length xs.length xs := by
  refine ⟨rfl, Nat.le_refl _, fun h => (by cases h), fun i hi => ⟨_, 0, rfl, by simp, ?_⟩⟩
  rw [Nat.zero_add, World.cell?_alloc_new, ← nums_get k xs i hi, ← h]
  simp

theorem Nums.new_marked (w : World) (k : IntKind) (cs : Array Value) (t : TypeId) (fr : Nat × Nat) (xs : List Nat) (h : cs.toList = nums k xs) : Nums (w.alloc (.cells cs t fr)) k (some ⟨w.heap.size, 0, none⟩) xs.length xs.length xs := by
  refine ⟨rfl, Nat.le_refl _, fun h => (by cases h), fun i hi => ⟨_, 0, rfl, by simp, ?_⟩⟩
  rw [Nat.zero_add, cell_of_row _ w.heap.size i cs t fr (heap_alloc_new w _), ← nums_get k xs i hi, ← h]
  simp

/-- A slice of numbers that came in: nil, or it leads to a row of 'cap' cells. -/
def IsRow (k : IntKind) (w : World) (a : Option Addr) (len cap : Nat) (zs : List Int) : Prop :=
  (a = none ∧ len = 0 ∧ cap = 0 ∧ zs = []) ∨
  ∃ x, a = some x ∧ len ≤ cap ∧ cap ≤ maxLen ∧ zs.length = cap ∧ (∀ i, i < zs.length → w.cell? (x.add i) = some (.int k (zs.getD i 0))) ∧ ∀ n ∈ zs, (Lit.int k n).wf = true

theorem nums_of_row {k : IntKind} {w : World} {a : Option Addr} {len cap : Nat} {zs : List Int} (B : Nat) (hB : ∀ n : Int, (Lit.int k n).wf = true → 0 ≤ n ∧ n < B) (h : IsRow k w a len cap zs) :
    ∃ xs : List Nat, Nums w k a len cap xs ∧ ∀ x ∈ xs, x < B := by
  rcases h with ⟨rfl, rfl, rfl, rfl⟩ | ⟨x, rfl, hl, hm, hz, hcell, hwz⟩
  · exact ⟨[], Nums.nil _ _, by simp⟩
  · refine ⟨(zs.take len).map Int.toNat, ⟨by simp; omega, hl, fun h => (by cases h), fun i hi => ?_⟩, ?_⟩
    · have hc := hcell i (by omega)
      obtain ⟨b, off, spot⟩ := x
      have hspot : spot = none := by
        have h0 := hcell 0 (by omega)
        simpa [Addr.add] using World.cell?_spot h0
      subst hspot
      rw [Addr.add_lit] at hc
      refine ⟨b, off, rfl, World.block_lt_of_cell? w _ hc, ?_⟩
      rw [hc]
      have hiz : i < zs.length := by omega
      have h0 := (hB _ (hwz zs[i] (List.getElem_mem hiz))).1
      have e : (((zs.take len).map Int.toNat).getD i 0 : Nat) = (zs.getD i 0).toNat := by simp [List.getD, hiz, hi]
      rw [e]
      have e2 : zs.getD i 0 = zs[i] := by simp [List.getD, hiz]
      rw [e2, Int.toNat_of_nonneg h0]
    · intro y hy
      simp only [List.mem_map] at hy
      obtain ⟨z, hz1, rfl⟩ := hy
      have := hB z (hwz z (List.mem_of_mem_take hz1))
      omega

theorem wf_u8 (n : Int) (h : (Lit.int .u8 n).wf = true) : 0 ≤ n ∧ n < (256 : Nat) := by
  simp [Lit.wf, IntKind.min, IntKind.max, IntKind.bits, IntKind.signed] at h; omega
theorem wf_u32 (n : Int) (h : (Lit.int .u32 n).wf = true) : 0 ≤ n ∧ n < (4294967296 : Nat) := by
  simp [Lit.wf, IntKind.min, IntKind.max, IntKind.bits, IntKind.signed] at h; omega
theorem wf_i64 (n : Int) (h : (Lit.int .i64 n).wf = true) : -9223372036854775808 ≤ n ∧ n ≤ 9223372036854775807 := by
  simp [Lit.wf, IntKind.min, IntKind.max, IntKind.bits, IntKind.signed] at h; omega

theorem grown_of_below {w w' : World} (h : Below w.heap.size w w') : w.grownBy w' none := ⟨h.os, h.tape, h.output, h.size, fun k hk _ => h.block k hk⟩
/-- What is owned stays so behind a call that makes blocks alone. -/
theorem own_kept {w w' : World} {base : Nat} {e : TypeId} {size : Nat} {v : Value} {n : Nat} {xs : List Value} (h : w.ownsRow base e size v n xs) (hb : Below w.heap.size w w') : w'.ownsRow base e size v n xs :=
  h.kept (grown_of_below hb) (by cases v.ownBlock <;> simp)
theorem Nums.drew {w : World} {k : IntKind} {a : Option Addr} {len cap : Nat} {xs : List Nat} (h : Nums w k a len cap xs) : Nums w.drew k a len cap xs := h

/-- What is owned and not empty lies at the head of a block. -/
theorem own_at {w : World} {base : Nat} {e : TypeId} {size : Nat} {v : Value} {n : Nat} {xs : List Value} (h : w.ownsRow base e size v n xs) (hn : 0 < n) : ∃ g c, v = .slice (some ⟨g, 0, none⟩) n c ∧ base ≤ g ∧ g < w.heap.size ∧ n ≤ c := by
  rcases h.2 with ⟨_, h0⟩ | ⟨g, cap, cur, rfl, hb, hg, hnc, _⟩
  · omega
  · exact ⟨g, cap, rfl, hb, (Array.getElem?_eq_some_iff.1 hg).1, hnc⟩

theorem ownBlock_of_own {w : World} {base : Nat} {e : TypeId} {size : Nat} {v : Value} {n : Nat} {xs : List Value} (h : w.ownsRow base e size v n xs) : ∀ k, v.ownBlock = some k → base ≤ k := fun k hk => (h.lt k hk).1

end Go.Cq

namespace Go.Cq
set_option linter.unusedSimpArgs false
open Go Go.RowKit

/-! Blocks that are known whole. -/
theorem blk_kept {w w' : World} {b : Nat} {o : Obj} (h : w.heap[b]? = some o) (hb : Below w.heap.size w w') : w'.heap[b]? = some o := by
  rw [hb.block b (Array.getElem?_eq_some_iff.1 h).1]; exact h
theorem blk_lt {w : World} {b : Nat} {o : Obj} (h : w.heap[b]? = some o) : b < w.heap.size := (Array.getElem?_eq_some_iff.1 h).1
theorem blk_alloc {w : World} {b : Nat} {o : Obj} (h : w.heap[b]? = some o) (o' : Obj) : (w.alloc o').heap[b]? = some o := by
  show (w.heap.push o')[b]? = _
  have := blk_lt h
  rw [Array.getElem?_push, if_neg (by omega)]
  exact h
theorem blk_drew {w : World} {b : Nat} {o : Obj} (h : w.heap[b]? = some o) : w.drew.heap[b]? = some o := h
theorem blk_set {w : World} {b : Nat} {o : Obj} (h : w.heap[b]? = some o) (a : Addr) (v : Value) (hne : b ≠ a.block) : (w.setCell a v).heap[b]? = some o := by
  rw [heap_setCell_other _ _ _ _ hne]; exact h
theorem blk_cell {w : World} {b : Nat} {cs : Array Value} {t : TypeId} (h : w.heap[b]? = some (.cells cs t (0, 0))) (j : Nat) : w.cell? ⟨b, j, none⟩ = cs[j]? := cell_of_row _ _ _ _ _ _ h
theorem blk_free {w : World} {b : Nat} {cs : Array Value} {t : TypeId} (h : w.heap[b]? = some (.cells cs t (0, 0))) (j : Nat) : w.frozen? ⟨b, j, none⟩ = false := frozen_of_row _ _ _ _ _ h


theorem below_row {B : Nat} {a w : World} (h : Below B a w) {g : Nat} (hg : B ≤ g) (cs : Array Value) : Below B a (w.setRow g cs) :=
  h.trans ⟨rfl, rfl, rfl, by simp, fun k hk => by
    simp only [World.setRow, Array.getElem?_modify]
    rw [if_neg (by omega)]⟩
theorem blk_row {w : World} {g : Nat} {cs : Array Value} {t : TypeId} (h : w.heap[g]? = some (.cells cs t (0, 0))) (cs' : Array Value) : (w.setRow g cs').heap[g]? = some (.cells cs' t (0, 0)) :=
  setRow_heap w g cs cs' t (0, 0) h
theorem blk_row_other {w : World} {b g : Nat} {o : Obj} (h : w.heap[b]? = some o) (hne : b ≠ g) (cs : Array Value) : (w.setRow g cs).heap[b]? = some o := by
  simp only [World.setRow, Array.getElem?_modify]
  rw [if_neg (fun e => hne e.symm)]; exact h
end Go.Cq

namespace Go.Cq
set_option linter.unusedSimpArgs false
open Go Go.RowKit

/-- Entries, as pairs. -/
def Ents (es : Array MapEntry) (L : List (Nat × Value)) : Prop := es.toList.map (fun e => (e.key, e.val)) = L.map fun p => (Value.int .u32 (p.1 : Int), p.2)
def aFind (k : Nat) : List (Nat × Value) → Nat → Option (Nat × Value)
  | [], _ => none
  | p :: r, i => if p.1 = k then some (i, p.2) else aFind k r (i + 1)

theorem findNow_u32 (k : Nat) : ∀ (l : List MapEntry) (L : List (Nat × Value)) (i : Nat), l.map (fun e => (e.key, e.val)) = L.map (fun p => (Value.int .u32 (p.1 : Int), p.2)) →
    Instr.findNow (.int .u32) (.int .u32 (k : Int)) l i = some (aFind k L i) := by
  intro l
  induction l with
  | nil => intro L i h; cases L with
    | nil => rfl
    | cons => simp at h
  | cons e l ih =>
    intro L i h
    cases L with
    | nil => simp at h
    | cons p L =>
      simp only [List.map_cons, List.cons.injEq, Prod.mk.injEq] at h
      obtain ⟨⟨h1, h2⟩, h3⟩ := h
      simp only [Instr.findNow, h1, Instr.sameNow, aFind]
      by_cases hk : p.1 = k
      · rw [if_pos hk, hk]; simp [h2]
      · rw [if_neg hk]
        have : ((k : Int) == (p.1 : Int)) = false := by simp; omega
        simp only [this, if_true]
        exact ih L (i + 1) h3

theorem run_lookup_u32 {P : Program} {w : World} {t kt et : TypeId} {b : Nat} {es : Array MapEntry} {c : Nat} {L : List (Nat × Value)} {k : Nat} {z : Value} (hm : P.underlying t = some (.map kt et)) (hk : P.underlying kt = some (.int .u32))
    (hz : ∀ w, (zeroValue et).run P w = .ok z w) (hb : w.heap[b]? = some (.map es c)) (hE : Ents es L) :
    (Instr.lookup t (.map (some b)) (.int .u32 (k : Int)) false).run P w = .ok (((aFind k L 0).map (·.2)).getD z) w := by
  have hc : ∀ e, (Instr.checkKey e 10000 kt (.int .u32 (k : Int))).run P w = .ok () w := fun e => MapKept.run_checkKey (k := .int .u32 (k : Int)) hk (by simp [MapKept.IsKey]) e 9999
  have hf := MapKept.run_findKey (P := P) (w := w) hk (findNow_u32 k es.toList L 0 hE)
  simp [Instr.lookup, run_underlying hm, MapKept.run_getObj_map hb, hc, hf, Result.andThen]
  cases h : aFind k L 0 with
  | none => simp [hz, Result.andThen]
  | some r => obtain ⟨i, v⟩ := r; simp [Result.andThen]

/-- A store's outcome, as pairs. -/
def aSet (k : Nat) (v : Value) : List (Nat × Value) → List (Nat × Value)
  | [] => [(k, v)]
  | p :: r => if p.1 = k then (k, v) :: r else p :: aSet k v r
theorem aFind_get {k : Nat} {L : List (Nat × Value)} {i j : Nat} {v : Value} (h : aFind k L i = some (j, v)) : i ≤ j ∧ L[j - i]? = some (k, v) := by
  induction L generalizing i with
  | nil => simp [aFind] at h
  | cons p r ih =>
    rw [aFind] at h
    split at h
    · rename_i e
      simp only [Option.some.injEq, Prod.mk.injEq] at h
      obtain ⟨rfl, rfl⟩ := h
      exact ⟨Nat.le_refl _, by simp [← e]⟩
    · obtain ⟨h1, h2⟩ := ih h
      refine ⟨by omega, ?_⟩
      rw [show j - i = (j - (i + 1)) + 1 by omega, List.getElem?_cons_succ, h2]
theorem aSet_hit {k : Nat} {v : Value} {L : List (Nat × Value)} {i j : Nat} {u : Value} (h : aFind k L i = some (j, u)) : aSet k v L = L.set (j - i) (k, v) := by
  induction L generalizing i with
  | nil => simp [aFind] at h
  | cons p r ih =>
    rw [aFind] at h
    split at h
    · rename_i e
      simp only [Option.some.injEq, Prod.mk.injEq] at h
      obtain ⟨rfl, rfl⟩ := h
      simp [aSet, e]
    · rename_i e
      have h1 := (aFind_get h).1
      rw [show j - i = (j - (i + 1)) + 1 by omega, List.set_cons_succ, ← ih h, aSet, if_neg e]
theorem aSet_miss {k : Nat} {v : Value} {L : List (Nat × Value)} {i : Nat} (h : aFind k L i = none) : aSet k v L = L ++ [(k, v)] := by
  induction L generalizing i with
  | nil => rfl
  | cons p r ih =>
    rw [aFind] at h
    split at h
    · simp at h
    · rename_i e
      rw [aSet, if_neg e, ih h]; rfl

theorem run_mapUpdate_u32 {P : Program} {w : World} {t kt et : TypeId} {b : Nat} {es : Array MapEntry} {c : Nat} {L : List (Nat × Value)} {k : Nat} {v : Value} (hm : P.underlying t = some (.map kt et)) (hk : P.underlying kt = some (.int .u32))
    (hb : w.heap[b]? = some (.map es c)) (hE : Ents es L) :
    ∃ es' c', (Instr.mapUpdate t (.map (some b)) (.int .u32 (k : Int)) v).run P w = .ok () { w with heap := w.heap.setIfInBounds b (.map es' c') } ∧ Ents es' (aSet k v L) := by
  have hc : ∀ e, (Instr.checkKey e 10000 kt (.int .u32 (k : Int))).run P w = .ok () w := fun e => MapKept.run_checkKey (k := .int .u32 (k : Int)) hk (by simp [MapKept.IsKey]) e 9999
  have hf := MapKept.run_findKey (P := P) (w := w) hk (findNow_u32 k es.toList L 0 hE)
  cases h : aFind k L 0 with
  | none =>
    rw [h] at hf
    refine ⟨es.push { key := .int .u32 (k : Int), val := v, born := c }, c + 1, ?_, ?_⟩
    · simp [Instr.mapUpdate, run_underlying hm, MapKept.run_getObj_map hb, hc, hf, MapKept.run_setObj_map _ hb, Result.andThen]
    · rw [aSet_miss h]
      unfold Ents at hE ⊢
      simp [hE]
  | some r =>
    obtain ⟨i, u⟩ := r
    rw [h] at hf
    have hg := (aFind_get h).2
    rw [Nat.sub_zero] at hg
    have hi : es.toList[i]?.map (fun e => (e.key, e.val)) = some (.int .u32 (k : Int), u) := by
      rw [← List.getElem?_map, hE, List.getElem?_map, hg]; rfl
    obtain ⟨e, he, hee⟩ := Option.map_eq_some_iff.1 hi
    simp only [Prod.mk.injEq] at hee
    have he2 : es[i]? = some e := by simpa using he
    have hst : (Instr.keyThatStays (.int .u32 (k : Int)) (.int .u32 (k : Int))).run P w = .ok (.int .u32 (k : Int)) w := by
      simp [Instr.keyThatStays, Instr.sameBits]
    refine ⟨es.modify i fun e => { e with key := .int .u32 (k : Int), val := v }, c, ?_, ?_⟩
    · simp [Instr.mapUpdate, run_underlying hm, MapKept.run_getObj_map hb, hc, hf, MapKept.run_setObj_map _ hb, Result.andThen, he2, hee.1, hst]
    · rw [aSet_hit h]
      unfold Ents at hE ⊢
      rw [Nat.sub_zero]
      apply List.ext_getElem?
      intro j
      rw [List.getElem?_map, List.getElem?_map, Array.getElem?_toList, Array.getElem?_modify, List.getElem?_set]
      have hj : es.toList[j]?.map (fun e => (e.key, e.val)) = (L[j]?).map fun p => (Value.int .u32 (p.1 : Int), p.2) := by
        rw [← List.getElem?_map, hE, List.getElem?_map]
      by_cases ej : i = j
      · subst ej
        have hlt : i < L.length := (List.getElem?_eq_some_iff.1 hg).1
        simp [he2, hlt]
      · rw [if_neg ej, if_neg ej]; simpa using hj
end Go.Cq
