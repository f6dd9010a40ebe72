/- Words laid as code, fetched and cut. No walk. -/
import Derived.Test.YtjoaenfibkgplaaP1
import Derived.Test.YtjoaenfibkgplaaC2
import Derived.Test.YtjoaenfibkgplaaE2
import Derived.Test.YtjoaenfibkgplaaE12
namespace Go.Proofs.Ytjoaenfibkgplaa
set_option linter.unusedSimpArgs false
open Go.RowKit Go.Cq
set_option linter.unusedVariables false

theorem find_pages {A B : AM} (h : A.pages = B.pages) (x : Nat) : A.find x = B.find x := by unfold AM.find; rw [h]
theorem permA_pages {A B : AM} (h : A.pages = B.pages) (x : Nat) : permA A x = permA B x := by unfold permA; rw [find_pages h]
theorem peekA_pages {A B : AM} (h : A.pages = B.pages) (x : Nat) : peekA A x = peekA B x := by unfold peekA; rw [find_pages h]

/-- A memory that holds one part. -/
structure Holds (S : MS) (p : PartV) : Prop where
  perm : ∀ y, permN S y = if p.at_ / 256 ≤ y / 256 ∧ y / 256 ≤ (p.at_ + max 1 p.data.length - 1) / 256 then (p.perm % 8).toNat else 0
  peek : ∀ y, peekN S y = if p.at_ ≤ y ∧ y < p.at_ + p.data.length then p.data.getD (y - p.at_) 0 else 0
theorem holds_of {S : MS} {p : PartV} (h : S.v.pages = (emptyA.addTo [p] 1).pages) (h1 : p.at_ + max 1 p.data.length ≤ 4294967296) (h2 : p.data.length ≤ 8192) : Holds S p := by
  obtain ⟨_, i2, i3⟩ := onePart_says p h1 h2
  exact ⟨fun y => by rw [permN_v, permA_pages h, i2], fun y => by rw [peekN_v, peekA_pages h, i3]⟩

theorem codeN_cons (x : Nat) (xs : List Nat) : codeN (x :: xs) = putN x ++ codeN xs := rfl
theorem codeN_append (xs ys : List Nat) : codeN (xs ++ ys) = codeN xs ++ codeN ys := by unfold codeN; exact List.flatMap_append
theorem codeN_getD (ws : List Nat) (i j : Nat) (hi : i < ws.length) (hj : j < 4) : (codeN ws).getD (4 * i + j) 0 = (putN (ws.getD i 0)).getD j 0 := by
  induction ws generalizing i with
  | nil => simp at hi
  | cons x xs ih =>
    rw [codeN_cons]
    cases i with
    | zero =>
      rw [List.getD_eq_getElem?_getD, List.getElem?_append_left (by simp [putN]; omega), ← List.getD_eq_getElem?_getD]
      simp
    | succ i =>
      rw [List.getD_eq_getElem?_getD, List.getElem?_append_right (by simp [putN]; omega), ← List.getD_eq_getElem?_getD]
      have e : 4 * (i + 1) + j - (putN x).length = 4 * i + j := by simp [putN]; omega
      rw [e, ih i (by simpa using hi)]
      simp
theorem putN_word (x : Nat) (hx : x < 4294967296) : ((((0 * 256 + (putN x).getD 0 0) * 256 + (putN x).getD 1 0) * 256 + (putN x).getD 2 0) * 256 + (putN x).getD 3 0) = x := by
  simp [putN]; omega
theorem fetch_at {S : MS} {p : PartV} {ws : List Nat} (h : Holds S p) (hd : p.data = codeN ws) (h4 : p.at_ % 4 = 0) (hb : p.at_ + 4 * ws.length ≤ 4294967296) (hq : (p.perm % 8).toNat % 2 = 1)
    (hw : ∀ x ∈ ws, x < 4294967296) (i : Nat) (hi : i < ws.length) : fetchK S (p.at_ + 4 * i) = 0 ∧ fetchW S (p.at_ + 4 * i) = ws.getD i 0 := by
  have hl : p.data.length = 4 * ws.length := by rw [hd, codeN_length]
  have hmx : max 1 p.data.length = 4 * ws.length := by omega
  have hk : fetchK S (p.at_ + 4 * i) = 0 := by
    unfold fetchK
    have hpm : permN S (p.at_ + 4 * i) = (p.perm % 8).toNat := by rw [h.perm, hmx, if_pos (by omega)]
    rw [if_pos (by omega), hpm, if_pos hq]
  refine ⟨hk, ?_⟩
  unfold fetchW
  rw [if_pos hk]
  have hp : ∀ j, j < 4 → peekN S ((p.at_ + 4 * i + j) % 4294967296) = (putN (ws.getD i 0)).getD j 0 := fun j hj => by
    rw [Nat.mod_eq_of_lt (by omega), h.peek, if_pos (by omega), hd, show p.at_ + 4 * i + j - p.at_ = 4 * i + j by omega, codeN_getD ws i j hi hj]
  show (((wacc S (p.at_ + 4 * i) 0 * 256 + peekN S ((p.at_ + 4 * i + 0) % 4294967296)) * 256 + peekN S ((p.at_ + 4 * i + 1) % 4294967296)) * 256 + peekN S ((p.at_ + 4 * i + 2) % 4294967296)) * 256 + peekN S ((p.at_ + 4 * i + 3) % 4294967296) = _
  rw [hp 0 (by omega), hp 1 (by omega), hp 2 (by omega), hp 3 (by omega)]
  exact putN_word _ (hw _ (getD_mem _ _ hi))
/-- From a place of the code on: its words, then whatever is behind. -/
theorem fetches_code {w : World} {B mb mm wm : Nat} {S : MS} {p : PartV} {ws : List Nat} (hM : MemAt w B mb mm wm S) (h : Holds S p) (hd : p.data = codeN ws) (h4 : p.at_ % 4 = 0) (hb : p.at_ + 4 * ws.length ≤ 4294967296) (hq : (p.perm % 8).toNat % 2 = 1)
    (hw : ∀ x ∈ ws, x < 4294967296) (n j : Nat) (hn : j + n = ws.length) :
    ∃ xs rest, Fetches S (p.at_ + 4 * j) xs ∧ xs.map (·.1) = ws.drop j ++ rest ∧ ((p.at_ + 4 * ws.length) % 256 = 0 → 0 < ws.length → rest = []) := by
  induction n generalizing j with
  | zero =>
    obtain ⟨xs, hx⟩ := Fetches.ex hM (p.at_ + 4 * j)
    refine ⟨xs, xs.map (·.1), hx, by rw [List.drop_of_length_le (by omega), List.nil_append], fun he h0 => ?_⟩
    have hl : p.data.length = 4 * ws.length := by rw [hd, codeN_length]
    have hmx : max 1 p.data.length = 4 * ws.length := by omega
    cases hx with
    | out => rfl
    | stop => rfl
    | go _ y ys h1 hk _ _ =>
      exfalso
      have hpm : permN S (p.at_ + 4 * j) = 0 := by rw [h.perm, hmx, if_neg (by omega)]
      unfold fetchK at hk
      rw [if_pos (by omega), hpm] at hk
      exact absurd hk (by decide)
  | succ n ih =>
    obtain ⟨xs, rest, h1, h2, h3⟩ := ih (j + 1) (by omega)
    obtain ⟨f1, f2⟩ := fetch_at h hd h4 hb hq hw j (by omega)
    have hm := hw _ (getD_mem ws j (by omega))
    refine ⟨⟨ws.getD j 0, hm⟩ :: xs, rest, .go _ _ _ (by omega) f1 f2.symm h1, ?_, h3⟩
    rw [List.map_cons, h2, List.drop_eq_getElem_cons (by omega : j < ws.length), List.cons_append]
    congr 1
    show ws.getD j 0 = _
    rw [List.getD_eq_getElem?_getD, List.getElem?_eq_getElem (by omega)]; rfl

/-! Cutting. -/
theorem plain_not_jumps {x : Nat} (h : plainW x = true) : jumpsW x = false := by
  unfold plainW plainI at h
  unfold jumpsW
  generalize kindI ((decN x).op : Int) = k at *
  simp at h ⊢
  omega
theorem cutGo_plain {a : List Nat} (ha : ∀ x ∈ a, plainW x = true) (rest l : List Nat) (hl : l.length + a.length ≤ 16) : cutGo (a ++ rest) l false = cutGo rest (l ++ a) false := by
  induction a generalizing l with
  | nil => simp
  | cons x a ih =>
    rw [List.length_cons] at hl
    rw [List.cons_append, cutGo, ha x List.mem_cons_self, decide_eq_true (by omega : l.length < 16), Bool.and_self, if_pos rfl,
      ih (fun y hy => ha y (List.mem_cons_of_mem _ hy)) (l ++ [x]) (by simp; omega)]
    simp
theorem cutGo_full {x : Nat} (h : plainW x = true) (rest l : List Nat) (hl : 16 ≤ l.length) : cutGo (x :: rest) l false = l := by
  rw [cutGo, plain_not_jumps h, decide_eq_false (by omega : ¬ l.length < 16), Bool.and_false]; simp
theorem cutGo_stop {x : Nat} (h : plainW x = false) (h2 : jumpsW x = false) (rest l : List Nat) : cutGo (x :: rest) l false = l := by
  rw [cutGo, h, h2]; simp
theorem cutGo_jump {x : Nat} (h : plainW x = false) (h2 : jumpsW x = true) (y : Nat) (rest l : List Nat) (hl : l.length + 2 ≤ 16) : cutGo (x :: y :: rest) l false = if plainW y then l ++ [x, y] else l := by
  rw [cutGo, h, h2, decide_eq_true hl, Bool.false_and, if_neg Bool.false_ne_true, Bool.and_self, if_pos rfl, cutGo]
  split
  · simp
  · simp
theorem cutGo_long {x : Nat} (h : plainW x = false) (rest l : List Nat) (hl : 16 < l.length + 2) : cutGo (x :: rest) l false = l := by
  rw [cutGo, h, decide_eq_false (by omega : ¬ l.length + 2 ≤ 16)]; simp
theorem cutGo_jump_end {x : Nat} (h : plainW x = false) (l : List Nat) : cutGo [x] l false = l := by
  rw [cutGo, h, Bool.false_and, if_neg Bool.false_ne_true]
  split
  · rw [cutGo, if_pos rfl, List.dropLast_concat]
  · rfl

/-- What is cut is right, or none. -/
theorem right_of {a : List Nat} (h : ∀ x ∈ a, plainW x = true) (h1 : 0 < a.length) (h2 : a.length ≤ 16) : rightN a = true := by
  unfold rightN
  rw [decide_eq_true h1, decide_eq_true h2, Bool.true_and, Bool.true_and, List.all_eq_true]
  intro i hi
  unfold okAt
  rw [h _ (getD_mem _ _ (List.mem_range.1 hi))]; rfl
theorem right_of_jump {a : List Nat} {x y : Nat} (h : ∀ x ∈ a, plainW x = true) (hx : jumpsW x = true) (hy : plainW y = true) (h2 : a.length + 2 ≤ 16) : rightN (a ++ [x, y]) = true := by
  unfold rightN
  have hl : (a ++ [x, y]).length = a.length + 2 := by simp
  rw [decide_eq_true (by omega), decide_eq_true (by omega), Bool.true_and, Bool.true_and, List.all_eq_true]
  intro i hi
  have hi := List.mem_range.1 hi
  unfold okAt
  by_cases h3 : i < a.length
  · have e : (a ++ [x, y]).getD i 0 = a.getD i 0 := by rw [List.getD_eq_getElem?_getD, List.getElem?_append_left h3, ← List.getD_eq_getElem?_getD]
    rw [e, h _ (getD_mem _ _ h3)]; rfl
  · have hc : i = a.length ∨ i = a.length + 1 := by omega
    rcases hc with rfl | rfl
    · rw [decide_eq_true (by omega)]; simp [hx]
    · simp [hy]
theorem cutGo_right (xs : List Nat) : ∀ l, (∀ x ∈ l, plainW x = true) → l.length ≤ 16 → cutGo xs l false = [] ∨ rightN (cutGo xs l false) = true := by
  have fin : ∀ l : List Nat, (∀ x ∈ l, plainW x = true) → l.length ≤ 16 → l = [] ∨ rightN l = true := fun l h h2 => by
    by_cases h0 : l = []
    · exact .inl h0
    · exact .inr (right_of h (List.length_pos_iff.2 h0) h2)
  induction xs with
  | nil => intro l h h2; rw [cutGo]; exact fin l h h2
  | cons x xs ih =>
    intro l h h2
    cases hp : plainW x with
    | true =>
      by_cases h3 : l.length < 16
      · rw [cutGo, hp, decide_eq_true h3, Bool.and_self, if_pos rfl]
        exact ih _ (by intro y hy; rcases List.mem_append.1 hy with hy | hy; exact h y hy; rw [List.mem_singleton] at hy; rw [hy]; exact hp) (by simp; omega)
      · rw [cutGo_full hp xs l (by omega)]; exact fin l h h2
    | false =>
      cases hj : jumpsW x with
      | false => rw [cutGo_stop hp hj]; exact fin l h h2
      | true =>
        by_cases h3 : l.length + 2 ≤ 16
        · cases xs with
          | nil => rw [cutGo_jump_end hp]; exact fin l h h2
          | cons y r =>
            rw [cutGo_jump hp hj y r l h3]
            cases hy : plainW y with
            | true => exact .inr (right_of_jump h hj hy h3)
            | false => exact fin l h h2
        · rw [cutGo_long hp _ _ (by omega)]; exact fin l h h2
end Go.Proofs.Ytjoaenfibkgplaa
