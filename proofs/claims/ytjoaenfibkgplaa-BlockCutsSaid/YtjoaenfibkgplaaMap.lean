/- Maps with keys of 32 bits, by their entries. No program in sight. -/
import Derived.Test.YtjoaenfibkgplaaKit2
import Derived.MapKept
namespace Go.Cq
set_option linter.unusedSimpArgs false
open Go Go.RowKit

/-- Entries, as pairs. -/
def Ents (es : Array MapEntry) (L : List (Nat × Value)) : Prop := es.toList.map (fun e => (e.key, e.val)) = L.map fun p => (Value.int .u32 (p.1 : Int), p.2)
def aFind (k : Nat) : List (Nat × Value) → Nat → Option (Nat × Value)
  | [], _ => none
  | p :: r, i => if p.1 = k then some (i, p.2) else aFind k r (i + 1)

theorem findNow_u32 (k : Nat) : ∀ (l : List MapEntry) (L : List (Nat × Value)) (i : Nat), l.map (fun e => (e.key, e.val)) = L.map (fun p => (Value.int .u32 (p.1 : Int), p.2)) →
    Instr.findNow (.int .u32) (.int .u32 (k : Int)) l i = some (aFind k L i) := by
  intro l
  induction l with
  | nil => intro L i h; cases L with
    | nil => rfl
    | cons => simp at h
  | cons e l ih =>
    intro L i h
    cases L with
    | nil => simp at h
    | cons p L =>
      simp only [List.map_cons, List.cons.injEq, Prod.mk.injEq] at h
      obtain ⟨⟨h1, h2⟩, h3⟩ := h
      simp only [Instr.findNow, h1, Instr.sameNow, aFind]
      by_cases hk : p.1 = k
      · rw [if_pos hk, hk]; simp [h2]
      · rw [if_neg hk]
        have : ((k : Int) == (p.1 : Int)) = false := by simp; omega
        simp only [this, if_true]
        exact ih L (i + 1) h3

theorem run_lookup_u32 {P : Program} {w : World} {t kt et : TypeId} {b : Nat} {es : Array MapEntry} {c : Nat} {L : List (Nat × Value)} {k : Nat} {z : Value} (hm : P.underlying t = some (.map kt et)) (hk : P.underlying kt = some (.int .u32))
    (hz : ∀ w, (zeroValue et).run P w = .ok z w) (hb : w.heap[b]? = some (.map es c)) (hE : Ents es L) :
    (Instr.lookup t (.map (some b)) (.int .u32 (k : Int)) false).run P w = .ok (((aFind k L 0).map (·.2)).getD z) w := by
  have hc : ∀ e, (Instr.checkKey e 10000 kt (.int .u32 (k : Int))).run P w = .ok () w := fun e => MapKept.run_checkKey (k := .int .u32 (k : Int)) hk (by simp [MapKept.IsKey]) e 9999
  have hf := MapKept.run_findKey (P := P) (w := w) hk (findNow_u32 k es.toList L 0 hE)
  simp [Instr.lookup, run_underlying hm, MapKept.run_getObj_map hb, hc, hf, Result.andThen]
  cases h : aFind k L 0 with
  | none => simp [hz, Result.andThen]
  | some r => obtain ⟨i, v⟩ := r; simp [Result.andThen]

/-- A store's outcome, as pairs. -/
def aSet (k : Nat) (v : Value) : List (Nat × Value) → List (Nat × Value)
  | [] => [(k, v)]
  | p :: r => if p.1 = k then (k, v) :: r else p :: aSet k v r
theorem aFind_get {k : Nat} {L : List (Nat × Value)} {i j : Nat} {v : Value} (h : aFind k L i = some (j, v)) : i ≤ j ∧ L[j - i]? = some (k, v) := by
  induction L generalizing i with
  | nil => simp [aFind] at h
  | cons p r ih =>
    rw [aFind] at h
    split at h
    · rename_i e
      simp only [Option.some.injEq, Prod.mk.injEq] at h
      obtain ⟨rfl, rfl⟩ := h
      exact ⟨Nat.le_refl _, by simp [← e]⟩
    · obtain ⟨h1, h2⟩ := ih h
      refine ⟨by omega, ?_⟩
      rw [show j - i = (j - (i + 1)) + 1 by omega, List.getElem?_cons_succ, h2]
theorem aSet_hit {k : Nat} {v : Value} {L : List (Nat × Value)} {i j : Nat} {u : Value} (h : aFind k L i = some (j, u)) : aSet k v L = L.set (j - i) (k, v) := by
  induction L generalizing i with
  | nil => simp [aFind] at h
  | cons p r ih =>
    rw [aFind] at h
    split at h
    · rename_i e
      simp only [Option.some.injEq, Prod.mk.injEq] at h
      obtain ⟨rfl, rfl⟩ := h
      simp [aSet, e]
    · rename_i e
      have h1 := (aFind_get h).1
      rw [show j - i = (j - (i + 1)) + 1 by omega, List.set_cons_succ, ← ih h, aSet, if_neg e]
theorem aSet_miss {k : Nat} {v : Value} {L : List (Nat × Value)} {i : Nat} (h : aFind k L i = none) : aSet k v L = L ++ [(k, v)] := by
  induction L generalizing i with
  | nil => rfl
  | cons p r ih =>
    rw [aFind] at h
    split at h
    · simp at h
    · rename_i e
      rw [aSet, if_neg e, ih h]; rfl

theorem run_mapUpdate_u32 {P : Program} {w : World} {t kt et : TypeId} {b : Nat} {es : Array MapEntry} {c : Nat} {L : List (Nat × Value)} {k : Nat} {v : Value} (hm : P.underlying t = some (.map kt et)) (hk : P.underlying kt = some (.int .u32))
    (hb : w.heap[b]? = some (.map es c)) (hE : Ents es L) :
    ∃ es' c', (Instr.mapUpdate t (.map (some b)) (.int .u32 (k : Int)) v).run P w = .ok () { w with heap := w.heap.setIfInBounds b (.map es' c') } ∧ Ents es' (aSet k v L) := by
  have hc : ∀ e, (Instr.checkKey e 10000 kt (.int .u32 (k : Int))).run P w = .ok () w := fun e => MapKept.run_checkKey (k := .int .u32 (k : Int)) hk (by simp [MapKept.IsKey]) e 9999
  have hf := MapKept.run_findKey (P := P) (w := w) hk (findNow_u32 k es.toList L 0 hE)
  cases h : aFind k L 0 with
  | none =>
    rw [h] at hf
    refine ⟨es.push { key := .int .u32 (k : Int), val := v, born := c }, c + 1, ?_, ?_⟩
    · simp [Instr.mapUpdate, run_underlying hm, MapKept.run_getObj_map hb, hc, hf, MapKept.run_setObj_map _ hb, Result.andThen]
    · rw [aSet_miss h]
      unfold Ents at hE ⊢
      simp [hE]
  | some r =>
    obtain ⟨i, u⟩ := r
    rw [h] at hf
    have hg := (aFind_get h).2
    rw [Nat.sub_zero] at hg
    have hi : es.toList[i]?.map (fun e => (e.key, e.val)) = some (.int .u32 (k : Int), u) := by
      rw [← List.getElem?_map, hE, List.getElem?_map, hg]; rfl
    obtain ⟨e, he, hee⟩ := Option.map_eq_some_iff.1 hi
    simp only [Prod.mk.injEq] at hee
    have he2 : es[i]? = some e := by simpa using he
    have hst : (Instr.keyThatStays (.int .u32 (k : Int)) (.int .u32 (k : Int))).run P w = .ok (.int .u32 (k : Int)) w := by
      simp [Instr.keyThatStays, Instr.sameBits]
    refine ⟨es.modify i fun e => { e with key := .int .u32 (k : Int), val := v }, c, ?_, ?_⟩
    · simp [Instr.mapUpdate, run_underlying hm, MapKept.run_getObj_map hb, hc, hf, MapKept.run_setObj_map _ hb, Result.andThen, he2, hee.1, hst]
    · rw [aSet_hit h]
      unfold Ents at hE ⊢
      rw [Nat.sub_zero]
      apply List.ext_getElem?
      intro j
      rw [List.getElem?_map, List.getElem?_map, Array.getElem?_toList, Array.getElem?_modify, List.getElem?_set]
      have hj : es.toList[j]?.map (fun e => (e.key, e.val)) = (L[j]?).map fun p => (Value.int .u32 (p.1 : Int), p.2) := by
        rw [← List.getElem?_map, hE, List.getElem?_map]
      by_cases ej : i = j
      · subst ej
        have hlt : i < L.length := (List.getElem?_eq_some_iff.1 hg).1
        simp [he2, hlt]
      · rw [if_neg ej, if_neg ej]; simpa using hj
end Go.Cq
