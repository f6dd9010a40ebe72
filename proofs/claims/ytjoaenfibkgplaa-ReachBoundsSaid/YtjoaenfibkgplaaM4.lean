import Derived.Test.YtjoaenfibkgplaaM3
namespace Go.Cq
set_option linter.unusedSimpArgs false
open Go Go.RowKit

/-- A map's block, set anew. -/
def setMap (w : World) (b : Nat) (es : Array MapEntry) (c : Nat) : World := { w with heap := w.heap.setIfInBounds b (.map es c) }
theorem setMap_same {w : World} {b : Nat} {o : Obj} (es : Array MapEntry) (c : Nat) (h : w.heap[b]? = some o) : (setMap w b es c).heap[b]? = some (.map es c) := by
  have := blk_lt h
  simp [setMap, this]
theorem setMap_other {w : World} {b k : Nat} (es : Array MapEntry) (c : Nat) (h : k ≠ b) : (setMap w b es c).heap[k]? = w.heap[k]? := by
  simp only [setMap, Array.getElem?_setIfInBounds]
  rw [if_neg (fun e => h e.symm)]
theorem below_setMap {B : Nat} {a w : World} (h : Below B a w) {g : Nat} (hg : B ≤ g) (es : Array MapEntry) (c : Nat) : Below B a (setMap w g es c) :=
  h.trans ⟨rfl, rfl, rfl, by simp [setMap], fun k hk => setMap_other es c (by omega)⟩

/-- What a store makes of the entries. -/
def updEs (es : Array MapEntry) (c k : Nat) (v : Value) : Option Nat → Array MapEntry × Nat
  | none => (es.push { key := .int .u32 (k : Int), val := v, born := c }, c + 1)
  | some i => (es.modify i fun e => { e with key := .int .u32 (k : Int), val := v }, c)
theorem run_mapUpdate_to {P : Program} {w : World} {t kt et : TypeId} {b : Nat} {es : Array MapEntry} {c : Nat} {L : List (Nat × Value)} {k : Nat} {v : Value} (hm : P.underlying t = some (.map kt et)) (hk : P.underlying kt = some (.int .u32))
    (hb : w.heap[b]? = some (.map es c)) (hE : Ents es L) :
    (Instr.mapUpdate t (.map (some b)) (.int .u32 (k : Int)) v).run P w = .ok () (setMap w b (updEs es c k v ((aFind k L 0).map (·.1))).1 (updEs es c k v ((aFind k L 0).map (·.1))).2) := by
  have hc : ∀ e, (Instr.checkKey e 10000 kt (.int .u32 (k : Int))).run P w = .ok () w := fun e => MapKept.run_checkKey (k := .int .u32 (k : Int)) hk (by simp [MapKept.IsKey]) e 9999
  have hf := MapKept.run_findKey (P := P) (w := w) hk (findNow_u32 k es.toList L 0 hE)
  cases h : aFind k L 0 with
  | none =>
    rw [h] at hf
    simp [Instr.mapUpdate, run_underlying hm, MapKept.run_getObj_map hb, hc, hf, MapKept.run_setObj_map _ hb, Result.andThen, updEs, setMap]
  | some r =>
    obtain ⟨i, u⟩ := r
    rw [h] at hf
    have hg := (aFind_get h).2
    rw [Nat.sub_zero] at hg
    have hi : es.toList[i]?.map (fun e => (e.key, e.val)) = some (.int .u32 (k : Int), u) := by
      rw [← List.getElem?_map, hE, List.getElem?_map, hg]; rfl
    obtain ⟨e, he, hee⟩ := Option.map_eq_some_iff.1 hi
    simp only [Prod.mk.injEq] at hee
    have he2 : es[i]? = some e := by simpa using he
    have hst : (Instr.keyThatStays (.int .u32 (k : Int)) (.int .u32 (k : Int))).run P w = .ok (.int .u32 (k : Int)) w := by
      simp [Instr.keyThatStays, Instr.sameBits]
    simp [Instr.mapUpdate, run_underlying hm, MapKept.run_getObj_map hb, hc, hf, MapKept.run_setObj_map _ hb, Result.andThen, he2, hee.1, hst, updEs, setMap]
theorem updEs_ents {es : Array MapEntry} {L : List (Nat × Value)} (c k : Nat) (v : Value) (hE : Ents es L) : Ents (updEs es c k v ((aFind k L 0).map (·.1))).1 (aSet k v L) := by
  cases h : aFind k L 0 with
  | none =>
    rw [aSet_miss h]
    unfold Ents at hE ⊢
    simp [updEs, hE]
  | some r =>
    obtain ⟨i, u⟩ := r
    have hg := (aFind_get h).2
    rw [Nat.sub_zero] at hg
    have hi : es.toList[i]?.map (fun e => (e.key, e.val)) = some (.int .u32 (k : Int), u) := by
      rw [← List.getElem?_map, hE, List.getElem?_map, hg]; rfl
    obtain ⟨e, he, hee⟩ := Option.map_eq_some_iff.1 hi
    have he2 : es[i]? = some e := by simpa using he
    rw [aSet_hit h]
    unfold Ents at hE ⊢
    rw [Nat.sub_zero]
    simp only [Option.map_some, updEs]
    apply List.ext_getElem?
    intro j
    rw [List.getElem?_map, List.getElem?_map, Array.getElem?_toList, Array.getElem?_modify, List.getElem?_set]
    have hj : es.toList[j]?.map (fun e => (e.key, e.val)) = (L[j]?).map fun p => (Value.int .u32 (p.1 : Int), p.2) := by
      rw [← List.getElem?_map, hE, List.getElem?_map]
    by_cases ej : i = j
    · subst ej
      have hlt : i < L.length := (List.getElem?_eq_some_iff.1 hg).1
      simp [he2, hlt]
    · rw [if_neg ej, if_neg ej]; simpa using hj
end Go.Cq
namespace Go.Proofs.Ytjoaenfibkgplaa
open Go.RowKit Go.Cq
set_option linter.unusedVariables false

/-- 'Map', of what a memory says. -/
def AM.find (A : AM) (x : Nat) : Option AP := A.pages.find? fun p => p.key == x - x % 256
def AM.mapP (A : AM) (x : Nat) (q : Int) : AM := match A.find x with
  | some p => A.upd p.key fun p => { p with perm := p.perm ||| (q % 8).toNat }
  | none => if A.most ≤ A.pages.length then A else { A with pages := A.pages ++ [⟨x - x % 256, (q % 8).toNat, List.replicate 256 0⟩] }
theorem MS.find_v (S : MS) (x : Nat) : S.v.find x = (S.find x).map Pg.v := by
  simp only [AM.find, MS.find, MS.v, List.find?_map]
  rfl

theorem or_lt8 : ∀ a, a < 8 → ∀ b, b < 8 → a ||| b < 8 := by decide
theorem find_key {S : MS} {x : Nat} {p : Pg} (h : S.find x = some p) : p.key = x - x % 256 := by
  have := List.find?_some h
  simpa using this

theorem map_found {B mb mm wm : Nat} {S : MS} (x : Nat) (q : Int) (w : World) (hx : x < 4294967296) (h : MemAt w B mb mm wm S) {p : Pg} (hf : S.find x = some p) :
    Calls Try.prog 37 #[.pointer (some ⟨mb, 0, none⟩), .int .u32 (x : Int), .int .i64 q] w fun e w' => e = .returned (.int .i64 0) ∧
      (∃ S', MemAt w' B mb mm wm S' ∧ S'.v = S.v.mapP x q) ∧ Below B w w' := by
  have hmem := MS.find_mem hf
  have hp := h.pgs p hmem
  have hb := hp.1
  have c : ∀ n, (w.drewN n).cell? ⟨p.blk, 256, none⟩ = some (.int .i64 (p.perm : Int)) := fun n => by
    rw [← pgCells_perm hp.2.1]; exact blk_cell (show (w.drewN n).heap[p.blk]? = _ from hb) 256
  have z : ∀ n, (w.drewN n).frozen? ⟨p.blk, 256, none⟩ = false := fun n => blk_free (show (w.drewN n).heap[p.blk]? = _ from hb) 256
  have hq := i64_or_and7 p.perm q hp.2.2.2.1
  have hend : ∀ n, (∃ S', MemAt ((w.drewN n).setCell ⟨p.blk, 256, none⟩ (.int .i64 ((p.perm ||| (q % 8).toNat : Nat) : Int))) B mb mm wm S' ∧ S'.v = S.v.mapP x q) ∧ Below B w ((w.drewN n).setCell ⟨p.blk, 256, none⟩ (.int .i64 ((p.perm ||| (q % 8).toNat : Nat) : Int))) := fun n => by
    refine ⟨⟨S.upd p.key (fun p => { p with perm := p.perm ||| (q % 8).toNat }), ?_, ?_⟩, ?_⟩
    · refine (h.drewN n).change hmem _ (fun _ => ⟨rfl, rfl⟩) ?_ ⟨hp.2.1, hp.2.2.1, or_lt8 _ hp.2.2.2.1 _ (by omega)⟩ (fun k hk => heap_setCell_other _ _ _ _ hk) (h.apart hmem)
      rw [heap_setCell_same _ _ _ _ 155 _ (show (w.drewN n).heap[p.blk]? = _ from hb)]
      congr 2
      have hl : (nums IntKind.u8 p.bytes).length = 256 := by rw [nums_length]; exact hp.2.1
      unfold pgCells
      apply Array.ext'
      simp only [List.setIfInBounds_toArray]
      rw [List.set_append_right _ _ (by omega)]
      simp [hl]
    · rw [MS.upd_v S p.key _ (fun p => { p with perm := p.perm ||| (q % 8).toNat }) (fun _ => rfl)]
      rw [AM.mapP, MS.find_v, hf]; rfl
    · exact (below_drewN (Below.refl _ _) _).setCell hp.2.2.2.2 _
  have H := Lib.hid h
  have HE := Lib.hid hend
  have HF := Lib.hid hf
  have HP := Lib.hid hp
  have HB : Hid (∀ n, (w.drewN n).heap[p.blk]? = some (.cells (pgCells p) 155 (0, 0))) := fun n => hb
  have HC := Lib.hid c
  have HZ := Lib.hid z
  have HQ := Lib.hid hq
  clear h hend hf hp hb c z hmem hq
  go_enter Try.func37, Try.ntmps37
  go_wp2_with (first
    | (go_at_call 78; refine (page_any x _ hx H.out).mono ?_; rintro e w' ⟨rfl, n, rfl⟩; rw [HF.out]; unfold ptrOf)
    | (go_at_call 80; refine (pperm_any (p := p) (HB.out _) HP.out.2.1).mono ?_; rintro e w' ⟨rfl, rfl⟩)
    | (go_at_call 79; refine (setperm_any _ _ (HC.out _) (HZ.out _) HQ.out).mono ?_; rintro e w' ⟨rfl, rfl⟩))
  go_ret
  exact ⟨rfl, HE.out _⟩

theorem map_full {B mb mm wm : Nat} {S : MS} (x : Nat) (q : Int) (w : World) (hx : x < 4294967296) (h : MemAt w B mb mm wm S) (hf : S.find x = none) (hl : S.most ≤ S.pages.length) :
    Calls Try.prog 37 #[.pointer (some ⟨mb, 0, none⟩), .int .u32 (x : Int), .int .i64 q] w fun e w' => e = .returned (.int .i64 2) ∧
      (∃ S', MemAt w' B mb mm wm S' ∧ S'.v = S.v.mapP x q) ∧ Below B w w' := by
  have c0 : ∀ n, (w.drewN n).cell? ⟨mb, 0, none⟩ = some (.int .i64 (S.most : Int)) := fun n => blk_cell (show (w.drewN n).heap[mb]? = _ from h.mem) 0
  have c1 : ∀ n, (w.drewN n).cell? ⟨mb, 1, none⟩ = some (.int .i64 (S.pages.length : Int)) := fun n => blk_cell (show (w.drewN n).heap[mb]? = _ from h.mem) 1
  have hge : ((S.most : Int) ≤ (S.pages.length : Int)) := by omega
  have hend : ∀ n, (∃ S', MemAt (w.drewN n) B mb mm wm S' ∧ S'.v = S.v.mapP x q) ∧ Below B w (w.drewN n) := fun n => by
    refine ⟨⟨S, h.drewN n, ?_⟩, below_drewN (Below.refl _ _) _⟩
    rw [AM.mapP, MS.find_v, hf]
    simp [MS.v, hl]
  have H := Lib.hid h
  have HE := Lib.hid hend
  have HF := Lib.hid hf
  have HC := Lib.hid c1
  clear h hend hf hl c1
  go_enter Try.func37, Try.ntmps37
  go_wp2_with (go_at_call 78; refine (page_any x _ hx H.out).mono ?_; rintro e w' ⟨rfl, n, rfl⟩; rw [HF.out]; unfold ptrOf)
  go_quiet ((go_at_call 81; refine (aload_any (HC.out _)).mono ?_; rintro e w'' ⟨rfl, rfl⟩; exact ⟨rfl, _, rfl⟩))
  go_wp2
  go_ret
  exact ⟨rfl, by rw [World.drewN_drewN]; exact HE.out _⟩

theorem nodup_append_one {l : List Nat} {a : Nat} (h : l.Nodup) (ha : a ∉ l) : (l ++ [a]).Nodup := by
  rw [List.nodup_append]
  exact ⟨h, by simp, by intro b hb c hc; simp only [List.mem_singleton] at hc; subst hc; exact fun e => ha (e ▸ hb)⟩
theorem aSet_new (k : Nat) (v : Value) (L : List (Nat × Value)) (h : k ∉ L.map (·.1)) : aSet k v L = L ++ [(k, v)] := by
  induction L with
  | nil => rfl
  | cons p r ih =>
    simp only [List.map_cons, List.mem_cons, not_or] at h
    rw [aSet, if_neg (fun e => h.1 e.symm), ih h.2]; rfl

/-- A new page. -/
theorem MemAt.grow {w w1 : World} {B mb mm wm : Nat} {S : MS} {es' : Array MapEntry} {c' : Nat} (x r : Nat) (h : MemAt w B mb mm wm S) (hf : S.find x = none) (hl : S.pages.length < S.most) (hr : r < 8)
    (hE' : Ents es' (aSet (x - x % 256) (.pointer (some ⟨w.heap.size, 0, none⟩)) (S.pages.map fun p => (p.key, Value.pointer (some ⟨p.blk, 0, none⟩)))))
    (ho : ∀ k, k ≠ mb → k ≠ mm → k < w.heap.size → w1.heap[k]? = w.heap[k]?)
    (hm : w1.heap[mm]? = some (.map es' c'))
    (hb : w1.heap[mb]? = some (.cells #[.int .i64 (S.most : Int), .int .i64 ((S.pages.length + 1 : Nat) : Int), .map (some mm), .map (some wm), .slice none 0 0] 121 (0, 0)))
    (hn : w1.heap[w.heap.size]? = some (.cells (newCells (r : Int)) 155 (0, 0))) :
    MemAt w1 B mb mm wm { S with pages := S.pages ++ [newPg (x - x % 256) w.heap.size r] } := by
  have hkey : x - x % 256 ∉ S.pages.map (·.key) := by
    intro hk
    obtain ⟨p, hp, e⟩ := List.mem_map.1 hk
    have := List.find?_eq_none.1 hf p hp
    simp [e] at this
  have hlt : ∀ p ∈ S.pages, p.blk < w.heap.size := fun p hp => blk_lt (h.pgs p hp).1
  refine ⟨?_, ?_, ?_, ?_, ?_, ?_, h.ne, h.lo, ?_⟩
  · simp only [List.length_append, List.length_cons, List.length_nil]; exact hb
  · refine ⟨es', c', hm, ?_⟩
    rw [aSet_new] at hE'
    · rw [List.map_append]; exact hE'
    · simpa using hkey
  · obtain ⟨e2, c2, h1, h2⟩ := h.wat
    refine ⟨e2, c2, ?_, h2⟩
    rw [ho wm ?_ (fun e => h.ne e.symm) (blk_lt h1)]; · exact h1
    intro e
    have h3 := h.mem
    rw [← e, h1] at h3; injection h3 with h4; cases h4
  · intro p hp
    rcases List.mem_append.1 hp with hp | hp
    · have ha := h.apart hp
      rw [ho p.blk (fun e => ha.1 e.symm) (fun e => ha.2.1 e.symm) (hlt p hp)]
      exact h.pgs p hp
    · simp only [List.mem_singleton] at hp
      subst hp
      refine ⟨by rw [← newCells_pg]; exact hn, List.length_replicate, ?_, hr, ?_⟩
      · intro y hy
        have := List.eq_of_mem_replicate hy
        omega
      · have := blk_lt h.mem
        have := h.lo.1
        show B ≤ w.heap.size; omega
  · rw [List.map_append]
    refine nodup_append_one h.nd ?_
    intro hk
    obtain ⟨p, hp, e⟩ := List.mem_map.1 hk
    have := hlt p hp
    exact absurd (show p.blk = w.heap.size from e) (by omega)
  · rw [List.map_append]
    exact nodup_append_one h.kd hkey
  · have := h.len
    simp only [List.length_append, List.length_cons, List.length_nil]; omega

theorem map_new {B mb mm wm : Nat} {S : MS} (x : Nat) (q : Int) (w : World) (hx : x < 4294967296) (h : MemAt w B mb mm wm S) (hf : S.find x = none) (hl : S.pages.length < S.most) :
    Calls Try.prog 37 #[.pointer (some ⟨mb, 0, none⟩), .int .u32 (x : Int), .int .i64 q] w fun e w' => e = .returned (.int .i64 0) ∧
      (∃ S', MemAt w' B mb mm wm S' ∧ S'.v = S.v.mapP x q) ∧ Below B w w' := by
  have hlen := h.len
  have c0 : ∀ n, (w.drewN n).cell? ⟨mb, 0, none⟩ = some (.int .i64 (S.most : Int)) := fun n => blk_cell (show (w.drewN n).heap[mb]? = _ from h.mem) 0
  have c1 : ∀ n, (w.drewN n).cell? ⟨mb, 1, none⟩ = some (.int .i64 (S.pages.length : Int)) := fun n => blk_cell (show (w.drewN n).heap[mb]? = _ from h.mem) 1
  have c2 : ∀ n, (w.drewN n).cell? ⟨mb, 2, none⟩ = some (.map (some mm)) := fun n => blk_cell (show (w.drewN n).heap[mb]? = _ from h.mem) 2
  have hge : ¬ ((S.most : Int) ≤ (S.pages.length : Int)) := by omega
  have H := Lib.hid h
  have HF := Lib.hid hf
  have HC := Lib.hid c1
  have HL := Lib.hid hl
  obtain ⟨es, c, hm1, hm2⟩ := h.map
  obtain ⟨cs, hcs⟩ : ∃ cs, cs = newCells (((q % 8).toNat : Nat) : Int) := ⟨_, rfl⟩
  have HN : Hid (∀ w : World, Calls Try.prog 82 #[.int .i64 q] w fun e w' => e = .returned (.pointer (some ⟨w.heap.size, 0, none⟩)) ∧ w' = w.alloc (.cells cs 155 (0, 0))) := by
    show _
    intro w
    rw [hcs]
    exact pnew_any q _ (i64_and7 q)
  obtain ⟨es', c', hes', hc', hE'⟩ : ∃ es' c', es' = (updEs es c (x - x % 256) (.pointer (some ⟨w.heap.size, 0, none⟩)) ((aFind (x - x % 256) (S.pages.map fun p => (p.key, Value.pointer (some ⟨p.blk, 0, none⟩))) 0).map (·.1))).1
      ∧ c' = (updEs es c (x - x % 256) (.pointer (some ⟨w.heap.size, 0, none⟩)) ((aFind (x - x % 256) (S.pages.map fun p => (p.key, Value.pointer (some ⟨p.blk, 0, none⟩))) 0).map (·.1))).2
      ∧ Ents es' (aSet (x - x % 256) (.pointer (some ⟨w.heap.size, 0, none⟩)) (S.pages.map fun p => (p.key, Value.pointer (some ⟨p.blk, 0, none⟩)))) :=
    ⟨_, _, rfl, rfl, updEs_ents c _ _ hm2⟩
  have hmu : ∀ n, (Instr.mapUpdate 114 (.map (some mm)) (.int .u32 ((x - x % 256 : Nat) : Int)) (.pointer (some ⟨w.heap.size, 0, none⟩))).run Try.prog ((w.drewN n).alloc (.cells cs 155 (0, 0))) = .ok () (setMap ((w.drewN n).alloc (.cells cs 155 (0, 0))) mm es' c') := fun n => by
    rw [run_mapUpdate_to Try.underlying114 Try.underlying27 (blk_alloc (show (w.drewN n).heap[mm]? = _ from hm1) _) hm2, hes', hc']
  have c2' : ∀ n, ((w.drewN n).alloc (.cells cs 155 (0, 0))).cell? ⟨mb, 2, none⟩ = some (.map (some mm)) := fun n => blk_cell (blk_alloc (show (w.drewN n).heap[mb]? = _ from h.mem) _) 2
  have hne : mb ≠ mm := by
    intro e
    have h3 := h.mem
    rw [e, hm1] at h3; injection h3 with h4; cases h4
  have hW : Hid (∀ k, (setMap ((w.drewN k).alloc (.cells cs 155 (0, 0))) mm es' c').heap[mb]? = some (.cells #[.int .i64 (S.most : Int), .int .i64 (S.pages.length : Int), .map (some mm), .map (some wm), .slice none 0 0] 121 (0, 0))) := by
    show ∀ k, _
    intro k
    rw [setMap_other _ _ hne]
    exact blk_alloc (show (w.drewN k).heap[mb]? = _ from h.mem) _
  have hend : Hid (∀ k, (∃ S', MemAt ((setMap ((w.drewN k).alloc (.cells cs 155 (0, 0))) mm es' c').setCell ⟨mb, 1, none⟩ (.int .i64 ((S.pages.length + 1 : Nat) : Int))) B mb mm wm S' ∧ S'.v = S.v.mapP x q) ∧
      Below B w ((setMap ((w.drewN k).alloc (.cells cs 155 (0, 0))) mm es' c').setCell ⟨mb, 1, none⟩ (.int .i64 ((S.pages.length + 1 : Nat) : Int)))) := by
    show ∀ k, _
    intro k
    have hsz : B ≤ w.heap.size := Nat.le_trans h.lo.1 (Nat.le_of_lt (blk_lt h.mem))
    have hsm : mm < w.heap.size := blk_lt hm1
    have hmb : mb < w.heap.size := blk_lt h.mem
    refine ⟨⟨_, MemAt.grow (es' := es') (c' := c') x (q % 8).toNat h hf hl (by omega) hE' ?_ ?_ ?_ ?_, ?_⟩, ?_⟩
    · intro j h1 h2 h3
      rw [heap_setCell_other _ _ _ _ h1, setMap_other _ _ h2]
      show ((w.drewN k).heap.push _)[j]? = _
      rw [Array.getElem?_push, if_neg (by show ¬ j = w.heap.size; omega)]; rfl
    · rw [heap_setCell_other _ _ _ _ (fun e => hne e.symm)]
      exact setMap_same _ _ (blk_alloc (show (w.drewN k).heap[mm]? = _ from hm1) _)
    · rw [heap_setCell_same _ _ _ _ 121 _ (hW.out k)]; rfl
    · rw [heap_setCell_other _ _ _ _ (by show ¬ w.heap.size = mb; omega), setMap_other _ _ (by omega), ← hcs]
      show ((w.drewN k).heap.push _)[w.heap.size]? = _
      rw [Array.getElem?_push, if_pos (show w.heap.size = (w.drewN k).heap.size from rfl)]
    · rw [AM.mapP, MS.find_v, hf]
      simp only [Option.map_none, MS.v, List.length_map]
      rw [if_neg (by omega), List.map_append]; rfl
    · exact (below_setMap ((below_drewN (Below.refl _ _) _).alloc (by exact hsz) _) h.lo.2.1 _ _).setCell h.lo.1 _
  have hwr : IntKind.i64.wrap ((S.pages.length : Int) + 1) = ((S.pages.length + 1 : Nat) : Int) := by
    rw [IntKind.wrap_i64]; omega
  have HW := Lib.hid hwr
  have hE : Hid (cs = newCells (((q % 8).toNat : Nat) : Int) ∧ Ents es' (aSet (x - x % 256) (.pointer (some ⟨w.heap.size, 0, none⟩)) (S.pages.map fun p => (p.key, Value.pointer (some ⟨p.blk, 0, none⟩)))) ∧ w.heap[mm]? = some (.map es c)) := ⟨hcs, hE', hm1⟩
  clear h hf c1 hcs hE' hes' hc' hm1 hm2 hl hlen hwr
  go_enter Try.func37, Try.ntmps37
  go_wp2_with (go_at_call 78; refine (page_any x _ hx H.out).mono ?_; rintro e w' ⟨rfl, n, rfl⟩; rw [HF.out]; unfold ptrOf)
  go_quiet ((go_at_call 81; refine (aload_any (HC.out _)).mono ?_; rintro e w'' ⟨rfl, rfl⟩; exact ⟨rfl, _, rfl⟩))
  go_wp2
  set_option maxRecDepth 4000 in
  go_region_with (first
    | (go_at_call 83; refine (of83 x _ hx).mono ?_; rintro e w' ⟨rfl, rfl⟩)
    | (go_at_call 82; refine (HN.out _).mono ?_; rintro e w' ⟨rfl, rfl⟩))
  all_goals (
    go_wp2_with (go_at_call 84; refine (aadd_any (blk_cell (hW.out _) 1) (blk_free (hW.out _) 1) HW.out).mono ?_; rintro e w' ⟨rfl, rfl⟩)
    go_ret
    exact ⟨rfl, hend.out _⟩)

/-- '(*mem.Mem).Map'. -/
theorem map_any {B mb mm wm : Nat} {S : MS} (x : Nat) (q : Int) (w : World) (hx : x < 4294967296) (h : MemAt w B mb mm wm S) :
    Calls Try.prog 37 #[.pointer (some ⟨mb, 0, none⟩), .int .u32 (x : Int), .int .i64 q] w fun e w' => (∃ r, e = .returned (.int .i64 r)) ∧
      (∃ S', MemAt w' B mb mm wm S' ∧ S'.v = S.v.mapP x q) ∧ Below B w w' := by
  cases hf : S.find x with
  | some p => exact (map_found x q w hx h hf).mono fun e w' he => ⟨⟨_, he.1⟩, he.2⟩
  | none =>
    by_cases hl : S.most ≤ S.pages.length
    · exact (map_full x q w hx h hf hl).mono fun e w' he => ⟨⟨_, he.1⟩, he.2⟩
    · exact (map_new x q w hx h hf (by omega)).mono fun e w' he => ⟨⟨_, he.1⟩, he.2⟩
end Go.Proofs.Ytjoaenfibkgplaa
