/- What a memory of parts says of a byte. No program in sight. -/
import Derived.Test.YtjoaenfibkgplaaM7
import Derived.Test.YtjoaenfibkgplaaZE
import Derived.Test.YtjoaenfibkgplaaC1
import Derived.Test.YtjoaenfibkgplaaC2
import Derived.Test.YtjoaenfibkgplaaZF
namespace Go.Proofs.Ytjoaenfibkgplaa
set_option linter.unusedSimpArgs false
open Go.RowKit Go.Cq
set_option linter.unusedVariables false

def permA (A : AM) (x : Nat) : Nat := match A.find x with
  | some p => p.perm
  | none => 0
def peekA (A : AM) (x : Nat) : Nat := match A.find x with
  | some p => p.bytes.getD (x % 256) 0
  | none => 0
def hasA (A : AM) (x : Nat) : Bool := (A.find x).isSome
theorem permN_v (S : MS) (x : Nat) : permN S x = permA S.v x := by
  unfold permN permA; rw [MS.find_v]; cases S.find x <;> rfl
theorem peekN_v (S : MS) (x : Nat) : peekN S x = peekA S.v x := by
  unfold peekN peekA; rw [MS.find_v]; cases S.find x <;> rfl
/-- Keys are multiples of 256, each once; pages have 256 bytes. -/
structure AM.Ok (A : AM) : Prop where
  len : ∀ p ∈ A.pages, p.bytes.length = 256
theorem AM.find_key {A : AM} {x : Nat} {p : AP} (h : A.find x = some p) : p.key = x - x % 256 := by
  have := List.find?_some h
  simpa using this
theorem find_upd (l : List AP) (k : Nat) (f : AP → AP) (hf : ∀ p, (f p).key = p.key) (y : Nat) :
    (l.map fun p => if p.key = k then f p else p).find? (fun p => p.key == y) = (l.find? fun p => p.key == y).map fun p => if p.key = k then f p else p := by
  induction l with
  | nil => rfl
  | cons p r ih =>
    rw [List.map_cons, List.find?_cons, List.find?_cons]
    have e : (if p.key = k then f p else p).key = p.key := by split <;> simp [hf]
    rw [e]
    cases (p.key == y) with
    | true => rfl
    | false => exact ih
theorem AM.find_mapP (A : AM) (x : Nat) (q : Int) (hl : A.pages.length < A.most ∨ hasA A x = true) (y : Nat) :
    (A.mapP x q).find y = if y - y % 256 = x - x % 256 then some (match A.find y with | some p => { p with perm := p.perm ||| (q % 8).toNat } | none => ⟨x - x % 256, (q % 8).toNat, List.replicate 256 0⟩) else A.find y := by
  unfold AM.mapP
  cases hx : A.find x with
  | some p =>
    simp only
    have hk := AM.find_key hx
    refine (find_upd A.pages p.key (fun r => { r with perm := r.perm ||| (q % 8).toNat }) (fun _ => rfl) (y - y % 256)).trans ?_
    by_cases e : y - y % 256 = x - x % 256
    · rw [if_pos e]
      have hy : A.find y = some p := by rw [← hx]; unfold AM.find; rw [e]
      show (A.find y).map _ = _
      rw [hy, Option.map_some, if_pos rfl]
    · rw [if_neg e]
      show (A.find y).map _ = _
      cases hy : A.find y with
      | none => rfl
      | some r =>
        have := AM.find_key hy
        rw [Option.map_some, if_neg (fun h => e (this.symm.trans (h.trans hk)))]
  | none =>
    have hl' : A.pages.length < A.most := by
      rcases hl with h | h
      · exact h
      · unfold hasA at h; rw [hx] at h; cases h
    simp only
    rw [if_neg (by omega)]
    show (A.pages ++ [_]).find? _ = _
    rw [List.find?_append]
    by_cases e : y - y % 256 = x - x % 256
    · have hy : A.find y = none := by rw [← hx]; unfold AM.find; rw [e]
      rw [if_pos e, show A.pages.find? (fun p => p.key == y - y % 256) = none from hy, hy, Option.none_or, List.find?_cons, e, beq_self_eq_true]
    · rw [if_neg e]
      show (A.find y).or _ = _
      have : ([(⟨x - x % 256, (q % 8).toNat, List.replicate 256 0⟩ : AP)].find? fun p => p.key == y - y % 256) = none := by
        refine List.find?_eq_none.2 fun r hr => ?_
        rw [List.mem_singleton] at hr
        subst hr
        rw [beq_iff_eq]
        exact fun c => e c.symm
      rw [this, Option.or_none]
theorem AM.len_mapP (A : AM) (x : Nat) (q : Int) : (A.mapP x q).pages.length = if hasA A x = true ∨ A.most ≤ A.pages.length then A.pages.length else A.pages.length + 1 := by
  unfold AM.mapP hasA
  cases hx : A.find x with
  | some p =>
    rw [if_pos (show (some p).isSome = true ∨ A.most ≤ A.pages.length from Or.inl rfl)]
    exact List.length_map _
  | none =>
    simp only
    by_cases h : A.most ≤ A.pages.length
    · rw [if_pos h, if_pos (Or.inr h)]
    · rw [if_neg h, if_neg (by rintro (c | c); cases c; exact h c)]
      exact List.length_append
theorem permA_mapP (A : AM) (x : Nat) (q : Int) (hl : A.pages.length < A.most ∨ hasA A x = true) (y : Nat) : permA (A.mapP x q) y = if y / 256 = x / 256 then permA A y ||| (q % 8).toNat else permA A y := by
  have e : (y - y % 256 = x - x % 256) ↔ (y / 256 = x / 256) := by omega
  unfold permA
  rw [AM.find_mapP A x q hl y]
  by_cases h : y / 256 = x / 256
  · rw [if_pos (e.2 h), if_pos h]
    cases A.find y with
    | none => exact (Nat.zero_or _).symm
    | some p => rfl
  · rw [if_neg (fun c => h (e.1 c)), if_neg h]
theorem peekA_mapP (A : AM) (x : Nat) (q : Int) (hl : A.pages.length < A.most ∨ hasA A x = true) (y : Nat) : peekA (A.mapP x q) y = peekA A y := by
  unfold peekA
  rw [AM.find_mapP A x q hl y]
  by_cases h : y - y % 256 = x - x % 256
  · rw [if_pos h]
    cases A.find y with
    | some p => rfl
    | none =>
      show (List.replicate 256 0).getD (y % 256) 0 = 0
      rw [List.getD_eq_getElem?_getD, List.getElem?_replicate]
      split <;> rfl
  · rw [if_neg h]
theorem hasA_mapP (A : AM) (x : Nat) (q : Int) (hl : A.pages.length < A.most ∨ hasA A x = true) (y : Nat) : hasA (A.mapP x q) y = (decide (y / 256 = x / 256) || hasA A y) := by
  have e : (y - y % 256 = x - x % 256) ↔ (y / 256 = x / 256) := by omega
  unfold hasA
  rw [AM.find_mapP A x q hl y]
  by_cases h : y / 256 = x / 256
  · rw [if_pos (e.2 h), decide_eq_true h]; rfl
  · rw [if_neg (fun c => h (e.1 c)), decide_eq_false h]; rfl
theorem AM.Ok.mapP {A : AM} (h : A.Ok) (x : Nat) (q : Int) : (A.mapP x q).Ok := by
  unfold AM.mapP
  cases hx : A.find x with
  | some p =>
    refine ⟨fun r hr => ?_⟩
    simp only [AM.upd, List.mem_map] at hr
    obtain ⟨s, hs, rfl⟩ := hr
    split
    · exact h.len s hs
    · exact h.len s hs
  | none =>
    simp only
    split
    · exact h
    · refine ⟨fun r hr => ?_⟩
      simp only [List.mem_append, List.mem_singleton] at hr
      rcases hr with hr | rfl
      · exact h.len r hr
      · exact List.length_replicate
theorem AM.find_poke (A : AM) (x v y : Nat) : (A.poke x v).find y = if y - y % 256 = x - x % 256 then (A.find y).map (fun p => { p with bytes := p.bytes.set (x % 256) v }) else A.find y := by
  unfold AM.poke
  cases hx : A.find x with
  | some p =>
    simp only
    have hk := AM.find_key hx
    refine (find_upd A.pages p.key (fun r => { r with bytes := r.bytes.set (x % 256) v }) (fun _ => rfl) (y - y % 256)).trans ?_
    show (A.find y).map _ = _
    by_cases e : y - y % 256 = x - x % 256
    · have hy : A.find y = some p := by rw [← hx]; unfold AM.find; rw [e]
      rw [if_pos e, hy, Option.map_some, Option.map_some, if_pos rfl]
    · rw [if_neg e]
      cases hy : A.find y with
      | none => rfl
      | some r =>
        have := AM.find_key hy
        rw [Option.map_some, if_neg (fun h => e (this.symm.trans (h.trans hk)))]
  | none =>
    simp only
    by_cases e : y - y % 256 = x - x % 256
    · have hy : A.find y = none := by rw [← hx]; unfold AM.find; rw [e]
      rw [if_pos e, hy]; rfl
    · rw [if_neg e]
theorem permA_poke (A : AM) (x v y : Nat) : permA (A.poke x v) y = permA A y := by
  unfold permA
  rw [AM.find_poke]
  by_cases h : y - y % 256 = x - x % 256
  · rw [if_pos h]; cases A.find y <;> rfl
  · rw [if_neg h]
theorem hasA_poke (A : AM) (x v y : Nat) : hasA (A.poke x v) y = hasA A y := by
  unfold hasA
  rw [AM.find_poke]
  by_cases h : y - y % 256 = x - x % 256
  · rw [if_pos h]; cases A.find y <;> rfl
  · rw [if_neg h]
theorem AM.Ok.poke {A : AM} (h : A.Ok) (x v : Nat) : (A.poke x v).Ok := by
  unfold AM.poke
  cases hx : A.find x with
  | some p =>
    refine ⟨fun r hr => ?_⟩
    simp only [AM.upd, List.mem_map] at hr
    obtain ⟨s, hs, rfl⟩ := hr
    split
    · simp [h.len s hs]
    · exact h.len s hs
  | none => exact h
theorem peekA_poke {A : AM} (hA : A.Ok) (x v y : Nat) (hx : hasA A x = true) : peekA (A.poke x v) y = if y = x then v else peekA A y := by
  unfold peekA
  rw [AM.find_poke]
  by_cases e : y - y % 256 = x - x % 256
  · rw [if_pos e]
    have hf : A.find y = A.find x := by unfold AM.find; rw [e]
    cases hy : A.find y with
    | none => unfold hasA at hx; rw [← hf, hy] at hx; cases hx
    | some p =>
      have hl := hA.len p (List.mem_of_find?_eq_some hy)
      simp only [Option.map_some]
      by_cases e2 : y = x
      · subst e2
        rw [if_pos rfl, List.getD_eq_getElem?_getD, List.getElem?_set_self (by omega)]; rfl
      · rw [if_neg e2, List.getD_eq_getElem?_getD, List.getElem?_set_ne (by omega), ← List.getD_eq_getElem?_getD]
  · rw [if_neg e, if_neg (fun c => e (by rw [c]))]

/-- What a stretch of places makes of a memory that has room. -/
theorem mapTo_says (A : AM) (x : Nat) (q : Int) (k : Nat) (hk : 1 ≤ k) (hx : x + k ≤ 4294967296) (hr : A.pages.length + 1 + ((x + k - 1) / 256 - x / 256) ≤ A.most) (hA : A.Ok) :
    (A.mapTo x q k).Ok ∧ (A.mapTo x q k).pages.length ≤ A.pages.length + 1 + ((x + k - 1) / 256 - x / 256) ∧
    (∀ y, hasA (A.mapTo x q k) y = (decide (x / 256 ≤ y / 256 ∧ y / 256 ≤ (x + k - 1) / 256) || hasA A y)) ∧
    (∀ y, peekA (A.mapTo x q k) y = peekA A y) ∧
    (∀ y, permA (A.mapTo x q k) y = if x / 256 ≤ y / 256 ∧ y / 256 ≤ (x + k - 1) / 256 then permA A y ||| (q % 8).toNat else permA A y) := by
  induction k with
  | zero => omega
  | succ k ih =>
    rw [AM.mapTo]
    have hm : (x + k) % 4294967296 = x + k := Nat.mod_eq_of_lt (by omega)
    rw [hm]
    by_cases h0 : k = 0
    · subst h0
      rw [AM.mapTo]
      have hl : A.pages.length < A.most := by omega
      refine ⟨hA.mapP _ _, ?_, fun y => ?_, fun y => ?_, fun y => ?_⟩
      · rw [AM.len_mapP]; split <;> omega
      · rw [hasA_mapP _ _ _ (.inl hl)]; congr 1; exact decide_eq_decide.2 (by constructor <;> intro h <;> omega)
      · rw [peekA_mapP _ _ _ (.inl hl)]
      · rw [permA_mapP _ _ _ (.inl hl)]
        by_cases h : y / 256 = (x + 0) / 256
        · rw [if_pos h, if_pos (by omega)]
        · rw [if_neg h, if_neg (by omega)]
    · obtain ⟨i1, i2, i3, i4, i5⟩ := ih (by omega) (by omega) (by omega)
      have hlm : (A.mapTo x q k).most = A.most := AM.mapTo_most _ _ _ _
      have hl : (A.mapTo x q k).pages.length < (A.mapTo x q k).most ∨ hasA (A.mapTo x q k) (x + k) = true := by
        by_cases h : (x + k) / 256 = (x + k - 1) / 256
        · right; rw [i3, decide_eq_true (by omega)]; rfl
        · left; rw [hlm]; omega
      refine ⟨i1.mapP _ _, ?_, fun y => ?_, fun y => ?_, fun y => ?_⟩
      · rw [AM.len_mapP]
        by_cases h : (x + k) / 256 = (x + k - 1) / 256
        · rw [if_pos (.inl (by rw [i3, decide_eq_true (by omega)]; rfl))]; omega
        · split <;> omega
      · rw [hasA_mapP _ _ _ hl, i3]
        rw [← Bool.or_assoc]; congr 1
        rw [← Bool.decide_or]
        exact decide_eq_decide.2 (by constructor <;> intro h <;> omega)
      · rw [peekA_mapP _ _ _ hl, i4]
      · rw [permA_mapP _ _ _ hl, i5]
        by_cases h1 : y / 256 = (x + k) / 256
        · rw [if_pos h1]
          by_cases h2 : x / 256 ≤ y / 256 ∧ y / 256 ≤ (x + k - 1) / 256
          · rw [if_pos h2, if_pos (by omega), Nat.or_assoc, Nat.or_self]
          · rw [if_neg h2, if_pos (by omega)]
        · rw [if_neg h1]
          by_cases h2 : x / 256 ≤ y / 256 ∧ y / 256 ≤ (x + k - 1) / 256
          · rw [if_pos h2, if_pos (by omega)]
          · rw [if_neg h2, if_neg (by omega)]
theorem pokeTo_says (A : AM) (x : Nat) (d : List Nat) (k : Nat) (hk : k ≤ d.length) (hx : x + k ≤ 4294967296) (hA : A.Ok) (hh : ∀ i, i < k → hasA A (x + i) = true) :
    (A.pokeTo x d k).Ok ∧ (∀ y, hasA (A.pokeTo x d k) y = hasA A y) ∧ (∀ y, permA (A.pokeTo x d k) y = permA A y) ∧
    (∀ y, peekA (A.pokeTo x d k) y = if x ≤ y ∧ y < x + k then d.getD (y - x) 0 else peekA A y) := by
  induction k with
  | zero => exact ⟨hA, fun _ => rfl, fun _ => rfl, fun y => by rw [if_neg (by omega)]; rfl⟩
  | succ k ih =>
    obtain ⟨i1, i2, i3, i4⟩ := ih (by omega) (by omega) (fun i hi => hh i (by omega))
    have hm : (x + k) % 4294967296 = x + k := Nat.mod_eq_of_lt (by omega)
    rw [AM.pokeTo, hm]
    refine ⟨i1.poke _ _, fun y => by rw [hasA_poke, i2], fun y => by rw [permA_poke, i3], fun y => ?_⟩
    rw [peekA_poke i1 _ _ _ (by rw [i2]; exact hh k (by omega)), i4]
    by_cases h : y = x + k
    · rw [if_pos h, if_pos (by omega), h, Nat.add_sub_cancel_left]
    · rw [if_neg h]
      by_cases h2 : x ≤ y ∧ y < x + k
      · rw [if_pos h2, if_pos (by omega)]
      · rw [if_neg h2, if_neg (by omega)]
def emptyA : AM := ⟨64, [], []⟩
/-- A memory of one part. -/
theorem onePart_says (p : PartV) (h1 : p.at_ + max 1 p.data.length ≤ 4294967296) (h2 : p.data.length ≤ 8192) :
    (∀ y, hasA (emptyA.addTo [p] 1) y = decide (p.at_ / 256 ≤ y / 256 ∧ y / 256 ≤ (p.at_ + max 1 p.data.length - 1) / 256)) ∧
    (∀ y, permA (emptyA.addTo [p] 1) y = if p.at_ / 256 ≤ y / 256 ∧ y / 256 ≤ (p.at_ + max 1 p.data.length - 1) / 256 then (p.perm % 8).toNat else 0) ∧
    (∀ y, peekA (emptyA.addTo [p] 1) y = if p.at_ ≤ y ∧ y < p.at_ + p.data.length then p.data.getD (y - p.at_) 0 else 0) := by
  have e : emptyA.addTo [p] 1 = (emptyA.mapTo p.at_ p.perm (max 1 p.data.length)).pokeTo p.at_ p.data p.data.length := AM.addTo_succ _ rfl
  rw [e]
  have hmx : 1 ≤ max 1 p.data.length := Nat.le_max_left _ _
  have hmx2 : p.data.length ≤ max 1 p.data.length := Nat.le_max_right _ _
  have hmx3 : max 1 p.data.length ≤ 8193 := by omega
  obtain ⟨i1, i2, i3, i4, i5⟩ := mapTo_says emptyA p.at_ p.perm (max 1 p.data.length) hmx h1 (by show 0 + 1 + _ ≤ 64; omega) ⟨by simp [emptyA]⟩
  have hh0 : ∀ y, hasA emptyA y = false := fun y => rfl
  obtain ⟨j1, j2, j3, j4⟩ := pokeTo_says (emptyA.mapTo p.at_ p.perm (max 1 p.data.length)) p.at_ p.data p.data.length (Nat.le_refl _) (by omega) i1 (fun i hi => by rw [i3, decide_eq_true (by omega)]; rfl)
  refine ⟨fun y => by rw [j2, i3, hh0, Bool.or_false], fun y => ?_, fun y => ?_⟩
  · rw [j3, i5]
    have : permA emptyA y = 0 := rfl
    rw [this, Nat.zero_or]
  · rw [j4, i4]; rfl
end Go.Proofs.Ytjoaenfibkgplaa

namespace Go.Proofs.Ytjoaenfibkgplaa
set_option linter.unusedSimpArgs false
open Go.RowKit Go.Cq
set_option linter.unusedVariables false

theorem find_pages {A B : AM} (h : A.pages = B.pages) (x : Nat) : A.find x = B.find x := by unfold AM.find; rw [h]
theorem permA_pages {A B : AM} (h : A.pages = B.pages) (x : Nat) : permA A x = permA B x := by unfold permA; rw [find_pages h]
theorem peekA_pages {A B : AM} (h : A.pages = B.pages) (x : Nat) : peekA A x = peekA B x := by unfold peekA; rw [find_pages h]

/-- A memory that holds one part. -/
structure Holds (S : MS) (p : PartV) : Prop where
  perm : ∀ y, permN S y = if p.at_ / 256 ≤ y / 256 ∧ y / 256 ≤ (p.at_ + max 1 p.data.length - 1) / 256 then (p.perm % 8).toNat else 0
  peek : ∀ y, peekN S y = if p.at_ ≤ y ∧ y < p.at_ + p.data.length then p.data.getD (y - p.at_) 0 else 0
theorem holds_of {S : MS} {p : PartV} (h : S.v.pages = (emptyA.addTo [p] 1).pages) (h1 : p.at_ + max 1 p.data.length ≤ 4294967296) (h2 : p.data.length ≤ 8192) : Holds S p := by
  obtain ⟨_, i2, i3⟩ := onePart_says p h1 h2
  exact ⟨fun y => by rw [permN_v, permA_pages h, i2], fun y => by rw [peekN_v, peekA_pages h, i3]⟩

theorem codeN_cons (x : Nat) (xs : List Nat) : codeN (x :: xs) = putN x ++ codeN xs := rfl
theorem codeN_append (xs ys : List Nat) : codeN (xs ++ ys) = codeN xs ++ codeN ys := by unfold codeN; exact List.flatMap_append
theorem codeN_getD (ws : List Nat) (i j : Nat) (hi : i < ws.length) (hj : j < 4) : (codeN ws).getD (4 * i + j) 0 = (putN (ws.getD i 0)).getD j 0 := by
  induction ws generalizing i with
  | nil => simp at hi
  | cons x xs ih =>
    rw [codeN_cons]
    cases i with
    | zero =>
      rw [List.getD_eq_getElem?_getD, List.getElem?_append_left (by simp [putN]; omega), ← List.getD_eq_getElem?_getD]
      simp
    | succ i =>
      rw [List.getD_eq_getElem?_getD, List.getElem?_append_right (by simp [putN]; omega), ← List.getD_eq_getElem?_getD]
      have e : 4 * (i + 1) + j - (putN x).length = 4 * i + j := by simp [putN]; omega
      rw [e, ih i (by simpa using hi)]
      simp
theorem putN_word (x : Nat) (hx : x < 4294967296) : ((((0 * 256 + (putN x).getD 0 0) * 256 + (putN x).getD 1 0) * 256 + (putN x).getD 2 0) * 256 + (putN x).getD 3 0) = x := by
  simp [putN]; omega
theorem fetch_at {S : MS} {p : PartV} {ws : List Nat} (h : Holds S p) (hd : p.data = codeN ws) (h4 : p.at_ % 4 = 0) (hb : p.at_ + 4 * ws.length ≤ 4294967296) (hq : (p.perm % 8).toNat % 2 = 1)
    (hw : ∀ x ∈ ws, x < 4294967296) (i : Nat) (hi : i < ws.length) : fetchK S (p.at_ + 4 * i) = 0 ∧ fetchW S (p.at_ + 4 * i) = ws.getD i 0 := by
  have hl : p.data.length = 4 * ws.length := by rw [hd, codeN_length]
  have hmx : max 1 p.data.length = 4 * ws.length := by omega
  have hk : fetchK S (p.at_ + 4 * i) = 0 := by
    unfold fetchK
    have hpm : permN S (p.at_ + 4 * i) = (p.perm % 8).toNat := by rw [h.perm, hmx, if_pos (by omega)]
    rw [if_pos (by omega), hpm, if_pos hq]
  refine ⟨hk, ?_⟩
  unfold fetchW
  rw [if_pos hk]
  have hp : ∀ j, j < 4 → peekN S ((p.at_ + 4 * i + j) % 4294967296) = (putN (ws.getD i 0)).getD j 0 := fun j hj => by
    rw [Nat.mod_eq_of_lt (by omega), h.peek, if_pos (by omega), hd, show p.at_ + 4 * i + j - p.at_ = 4 * i + j by omega, codeN_getD ws i j hi hj]
  show (((wacc S (p.at_ + 4 * i) 0 * 256 + peekN S ((p.at_ + 4 * i + 0) % 4294967296)) * 256 + peekN S ((p.at_ + 4 * i + 1) % 4294967296)) * 256 + peekN S ((p.at_ + 4 * i + 2) % 4294967296)) * 256 + peekN S ((p.at_ + 4 * i + 3) % 4294967296) = _
  rw [hp 0 (by omega), hp 1 (by omega), hp 2 (by omega), hp 3 (by omega)]
  exact putN_word _ (hw _ (getD_mem _ _ hi))
/-- From a place of the code on: its words, then whatever is behind. -/
theorem fetches_code {w : World} {B mb mm wm : Nat} {S : MS} {p : PartV} {ws : List Nat} (hM : MemAt w B mb mm wm S) (h : Holds S p) (hd : p.data = codeN ws) (h4 : p.at_ % 4 = 0) (hb : p.at_ + 4 * ws.length ≤ 4294967296) (hq : (p.perm % 8).toNat % 2 = 1)
    (hw : ∀ x ∈ ws, x < 4294967296) (n j : Nat) (hn : j + n = ws.length) :
    ∃ xs rest, Fetches S (p.at_ + 4 * j) xs ∧ xs.map (·.1) = ws.drop j ++ rest ∧ ((p.at_ + 4 * ws.length) % 256 = 0 → 0 < ws.length → rest = []) := by
  induction n generalizing j with
  | zero =>
    obtain ⟨xs, hx⟩ := Fetches.ex hM (p.at_ + 4 * j)
    refine ⟨xs, xs.map (·.1), hx, by rw [List.drop_of_length_le (by omega), List.nil_append], fun he h0 => ?_⟩
    have hl : p.data.length = 4 * ws.length := by rw [hd, codeN_length]
    have hmx : max 1 p.data.length = 4 * ws.length := by omega
    cases hx with
    | out => rfl
    | stop => rfl
    | go _ y ys h1 hk _ _ =>
      exfalso
      have hpm : permN S (p.at_ + 4 * j) = 0 := by rw [h.perm, hmx, if_neg (by omega)]
      unfold fetchK at hk
      rw [if_pos (by omega), hpm] at hk
      exact absurd hk (by decide)
  | succ n ih =>
    obtain ⟨xs, rest, h1, h2, h3⟩ := ih (j + 1) (by omega)
    obtain ⟨f1, f2⟩ := fetch_at h hd h4 hb hq hw j (by omega)
    have hm := hw _ (getD_mem ws j (by omega))
    refine ⟨⟨ws.getD j 0, hm⟩ :: xs, rest, .go _ _ _ (by omega) f1 f2.symm h1, ?_, h3⟩
    rw [List.map_cons, h2, List.drop_eq_getElem_cons (by omega : j < ws.length), List.cons_append]
    congr 1
    show ws.getD j 0 = _
    rw [List.getD_eq_getElem?_getD, List.getElem?_eq_getElem (by omega)]; rfl

/-! Cutting. -/
theorem plain_not_jumps {x : Nat} (h : plainW x = true) : jumpsW x = false := by
  unfold plainW plainI at h
  unfold jumpsW
  generalize kindI ((decN x).op : Int) = k at *
  simp at h ⊢
  omega
theorem cutGo_plain {a : List Nat} (ha : ∀ x ∈ a, plainW x = true) (rest l : List Nat) (hl : l.length + a.length ≤ 16) : cutGo (a ++ rest) l false = cutGo rest (l ++ a) false := by
  induction a generalizing l with
  | nil => simp
  | cons x a ih =>
    rw [List.length_cons] at hl
    rw [List.cons_append, cutGo, ha x List.mem_cons_self, decide_eq_true (by omega : l.length < 16), Bool.and_self, if_pos rfl,
      ih (fun y hy => ha y (List.mem_cons_of_mem _ hy)) (l ++ [x]) (by simp; omega)]
    simp
theorem cutGo_full {x : Nat} (h : plainW x = true) (rest l : List Nat) (hl : 16 ≤ l.length) : cutGo (x :: rest) l false = l := by
  rw [cutGo, plain_not_jumps h, decide_eq_false (by omega : ¬ l.length < 16), Bool.and_false]; simp
theorem cutGo_stop {x : Nat} (h : plainW x = false) (h2 : jumpsW x = false) (rest l : List Nat) : cutGo (x :: rest) l false = l := by
  rw [cutGo, h, h2]; simp
theorem cutGo_jump {x : Nat} (h : plainW x = false) (h2 : jumpsW x = true) (y : Nat) (rest l : List Nat) (hl : l.length + 2 ≤ 16) : cutGo (x :: y :: rest) l false = if plainW y then l ++ [x, y] else l := by
  rw [cutGo, h, h2, decide_eq_true hl, Bool.false_and, if_neg Bool.false_ne_true, Bool.and_self, if_pos rfl, cutGo]
  split
  · simp
  · simp
theorem cutGo_long {x : Nat} (h : plainW x = false) (rest l : List Nat) (hl : 16 < l.length + 2) : cutGo (x :: rest) l false = l := by
  rw [cutGo, h, decide_eq_false (by omega : ¬ l.length + 2 ≤ 16)]; simp
theorem cutGo_jump_end {x : Nat} (h : plainW x = false) (l : List Nat) : cutGo [x] l false = l := by
  rw [cutGo, h, Bool.false_and, if_neg Bool.false_ne_true]
  split
  · rw [cutGo, if_pos rfl, List.dropLast_concat]
  · rfl

/-- What is cut is right, or none. -/
theorem right_of {a : List Nat} (h : ∀ x ∈ a, plainW x = true) (h1 : 0 < a.length) (h2 : a.length ≤ 16) : rightN a = true := by
  unfold rightN
  rw [decide_eq_true h1, decide_eq_true h2, Bool.true_and, Bool.true_and, List.all_eq_true]
  intro i hi
  unfold okAt
  rw [h _ (getD_mem _ _ (List.mem_range.1 hi))]; rfl
theorem right_of_jump {a : List Nat} {x y : Nat} (h : ∀ x ∈ a, plainW x = true) (hx : jumpsW x = true) (hy : plainW y = true) (h2 : a.length + 2 ≤ 16) : rightN (a ++ [x, y]) = true := by
  unfold rightN
  have hl : (a ++ [x, y]).length = a.length + 2 := by simp
  rw [decide_eq_true (by omega), decide_eq_true (by omega), Bool.true_and, Bool.true_and, List.all_eq_true]
  intro i hi
  have hi := List.mem_range.1 hi
  unfold okAt
  by_cases h3 : i < a.length
  · have e : (a ++ [x, y]).getD i 0 = a.getD i 0 := by rw [List.getD_eq_getElem?_getD, List.getElem?_append_left h3, ← List.getD_eq_getElem?_getD]
    rw [e, h _ (getD_mem _ _ h3)]; rfl
  · have hc : i = a.length ∨ i = a.length + 1 := by omega
    rcases hc with rfl | rfl
    · rw [decide_eq_true (by omega)]; simp [hx]
    · simp [hy]
theorem cutGo_right (xs : List Nat) : ∀ l, (∀ x ∈ l, plainW x = true) → l.length ≤ 16 → cutGo xs l false = [] ∨ rightN (cutGo xs l false) = true := by
  have fin : ∀ l : List Nat, (∀ x ∈ l, plainW x = true) → l.length ≤ 16 → l = [] ∨ rightN l = true := fun l h h2 => by
    by_cases h0 : l = []
    · exact .inl h0
    · exact .inr (right_of h (List.length_pos_iff.2 h0) h2)
  induction xs with
  | nil => intro l h h2; rw [cutGo]; exact fin l h h2
  | cons x xs ih =>
    intro l h h2
    cases hp : plainW x with
    | true =>
      by_cases h3 : l.length < 16
      · rw [cutGo, hp, decide_eq_true h3, Bool.and_self, if_pos rfl]
        exact ih _ (by intro y hy; rcases List.mem_append.1 hy with hy | hy; exact h y hy; rw [List.mem_singleton] at hy; rw [hy]; exact hp) (by simp; omega)
      · rw [cutGo_full hp xs l (by omega)]; exact fin l h h2
    | false =>
      cases hj : jumpsW x with
      | false => rw [cutGo_stop hp hj]; exact fin l h h2
      | true =>
        by_cases h3 : l.length + 2 ≤ 16
        · cases xs with
          | nil => rw [cutGo_jump_end hp]; exact fin l h h2
          | cons y r =>
            rw [cutGo_jump hp hj y r l h3]
            cases hy : plainW y with
            | true => exact .inr (right_of_jump h hj hy h3)
            | false => exact fin l h h2
        · rw [cutGo_long hp _ _ (by omega)]; exact fin l h h2
end Go.Proofs.Ytjoaenfibkgplaa
