import Derived.Test.YtjoaenfibkgplaaM2
namespace Go.Proofs.Ytjoaenfibkgplaa
set_option linter.unusedSimpArgs false
open Go.RowKit Go.Cq
set_option linter.unusedVariables false

theorem nodup_inj {α : Type} {f : α → Nat} {l : List α} {a b : α} (h : (l.map f).Nodup) (ha : a ∈ l) (hb : b ∈ l) (e : f a = f b) : a = b := by
  induction l with
  | nil => simp at ha
  | cons x r ih =>
    rw [List.map_cons, List.nodup_cons] at h
    rcases List.mem_cons.1 ha with rfl | ha'
    · rcases List.mem_cons.1 hb with rfl | hb'
      · rfl
      · exact absurd (e ▸ List.mem_map_of_mem hb') h.1
    · rcases List.mem_cons.1 hb with rfl | hb'
      · exact absurd (e ▸ List.mem_map_of_mem ha') h.1
      · exact ih h.2 ha' hb'

/-- 'atomic.Int64.Load', 'Add'. -/
theorem aload_any {w : World} {b j : Nat} {x : Int} (h : w.cell? ⟨b, j, none⟩ = some (.int .i64 x)) :
    Calls Try.prog 81 #[.pointer (some ⟨b, j, none⟩)] w fun e w' => e = .returned (.int .i64 x) ∧ w' = w := by
  have hl := run_call_load (P := Try.prog) Try.func115 (by kernel_rfl) (by kernel_rfl) (by kernel_rfl) .i64 (by kernel_rfl) h
  go_enter Try.func81, Try.ntmps81
  go_wp2
  go_ret
  exact ⟨rfl, rfl⟩
theorem aadd_any {w : World} {b j : Nat} {x s : Int} (h : w.cell? ⟨b, j, none⟩ = some (.int .i64 x)) (hz : w.frozen? ⟨b, j, none⟩ = false) (hs : IntKind.i64.wrap (x + 1) = s) :
    Calls Try.prog 84 #[.pointer (some ⟨b, j, none⟩), .int .i64 1] w fun e w' => e = .returned (.int .i64 s) ∧ w' = w.setCell ⟨b, j, none⟩ (.int .i64 s) := by
  have hl := run_call_add (P := Try.prog) Try.func116 (by kernel_rfl) (by kernel_rfl) (by kernel_rfl) .i64 (by kernel_rfl) (y := 1) (s := s) h hz (by rw [← hs]; simp [go_sem])
  go_enter Try.func84, Try.ntmps84
  go_wp2
  go_ret
  exact ⟨rfl, rfl⟩

/-- 'page.New'. -/
noncomputable def newCells (q : Int) : Array Value := Try.zeroCells155.setIfInBounds 256 (.int .i64 q)
def newPg (k b r : Nat) : Pg := ⟨k, b, r, List.replicate 256 0, 0⟩
theorem newCells_pg (k b r : Nat) : newCells (r : Int) = pgCells (newPg k b r) := by kernel_rfl
theorem pnew_any {w : World} (q : Int) (r : Int) (hq : bits .and .i64 q 7 = r) :
    Calls Try.prog 82 #[.int .i64 q] w fun e w' => e = .returned (.pointer (some ⟨w.heap.size, 0, none⟩)) ∧ w' = w.alloc (.cells (newCells r) 155 (0, 0)) := by
  go_enter Try.func82, Try.ntmps82
  go_wp2
  go_ret
  exact ⟨rfl, rfl⟩

/-- '(*page.Page).SetByte'. -/
theorem setbyte_any {w : World} {b : Nat} {cs : Array Value} {n : Int} (j : Nat) (v : Nat) (hj : j < 256) (h : w.heap[b]? = some (.cells cs 155 (0, 0))) (hsz : cs.size = 258) (hn : cs[257]? = some (.int .i64 n)) :
    Calls Try.prog 85 #[.pointer (some ⟨b, 0, none⟩), .int .i64 (j : Int), .int .u8 (v : Int)] w fun e w' => e = .returned (.tuple #[]) ∧
      w' = (w.setCell ⟨b, j, none⟩ (.int .u8 (v : Int))).setCell ⟨b, 257, none⟩ (.int .i64 (IntKind.i64.wrap (n + 1))) := by
  have z1 := blk_free h j
  have z2 : (w.setCell ⟨b, j, none⟩ (.int .u8 (v : Int))).frozen? ⟨b, 257, none⟩ = false := by rw [World.frozen?_setCell]; exact blk_free h 257
  have c2 : (w.setCell ⟨b, j, none⟩ (.int .u8 (v : Int))).cell? ⟨b, 257, none⟩ = some (.int .i64 n) := by
    rw [blk_cell (heap_setCell_same w b j cs 155 _ h), Array.getElem?_setIfInBounds]
    rw [if_neg (by omega)]; exact hn
  have c1 : ∃ o, w.cell? ⟨b, j, none⟩ = some o := ⟨_, by rw [blk_cell h j]; exact Array.getElem?_eq_getElem (by omega)⟩
  obtain ⟨o, c1⟩ := c1
  clear h hsz hn
  go_enter Try.func85, Try.ntmps85
  go_wp2_with (go_at_call 84; refine (aadd_any c2 z2 rfl).mono ?_; rintro e w' ⟨rfl, rfl⟩)
  go_end0
  exact ⟨rfl, rfl⟩
theorem i64_and7 (n : Int) : bits .and .i64 n 7 = ((n % 8).toNat : Int) := by
  have h7 : (BitVec.ofInt 64 7).toNat = 2 ^ 3 - 1 := by decide
  have key : (BitVec.ofInt 64 n &&& BitVec.ofInt 64 7).toNat = (n % ((2 ^ 64 : Nat) : Int)).toNat % 2 ^ 3 := by
    rw [BitVec.toNat_and, BitVec.toNat_ofInt, h7, Nat.and_two_pow_sub_one_eq_mod]
  show IntKind.i64.wrap ((BitVec.ofInt 64 n &&& BitVec.ofInt 64 7).toNat : Nat) = _
  rw [key, IntKind.wrap_i64]
  omega
theorem i64_or_and7 (p : Nat) (n : Int) (hp : p < 8) : bits .and .i64 (bits .or .i64 (p : Int) n) 7 = ((p ||| (n % 8).toNat : Nat) : Int) := by
  rw [i64_and7]
  have key : (BitVec.ofInt 64 (p : Int) ||| BitVec.ofInt 64 n).toNat % 2 ^ 3 = p ||| (n % 8).toNat := by
    rw [BitVec.toNat_or, Nat.or_mod_two_pow, BitVec.toNat_ofInt, BitVec.toNat_ofInt]
    have e1 : ((p : Int) % ((2 ^ 64 : Nat) : Int)).toNat % 2 ^ 3 = p := by omega
    have e2 : (n % ((2 ^ 64 : Nat) : Int)).toNat % 2 ^ 3 = (n % 8).toNat := by omega
    rw [e1, e2]
  have hw : bits .or .i64 (p : Int) n = IntKind.i64.wrap ((BitVec.ofInt 64 (p : Int) ||| BitVec.ofInt 64 n).toNat : Nat) := rfl
  rw [hw, ← key, IntKind.wrap_i64]
  omega

/-! What a memory says, without its blocks. -/
structure AP where
  key : Nat
  perm : Nat
  bytes : List Nat
structure AM where
  most : Nat
  pages : List AP
  watch : List Nat
def Pg.v (p : Pg) : AP := ⟨p.key, p.perm, p.bytes⟩
def MS.v (S : MS) : AM := ⟨S.most, S.pages.map Pg.v, S.watch⟩
def MS.upd (S : MS) (k : Nat) (f : Pg → Pg) : MS := { S with pages := S.pages.map fun p => if p.key = k then f p else p }
def AM.upd (A : AM) (k : Nat) (f : AP → AP) : AM := { A with pages := A.pages.map fun p => if p.key = k then f p else p }
theorem MS.upd_v (S : MS) (k : Nat) (f : Pg → Pg) (g : AP → AP) (h : ∀ p, (f p).v = g p.v) : (S.upd k f).v = S.v.upd k g := by
  simp only [MS.upd, MS.v, AM.upd, List.map_map, AM.mk.injEq, and_true, true_and]
  apply List.map_congr_left
  intro p _
  simp only [Function.comp_apply]
  by_cases e : p.key = k
  · rw [if_pos e, if_pos (show p.v.key = k from e), h]
  · rw [if_neg e, if_neg (show ¬ p.v.key = k from e)]

theorem MemAt.apart {w : World} {B mb mm wm : Nat} {S : MS} {p : Pg} (h : MemAt w B mb mm wm S) (hp : p ∈ S.pages) : mb ≠ p.blk ∧ mm ≠ p.blk ∧ wm ≠ p.blk := by
  have h1 := (h.pgs p hp).1
  refine ⟨fun e => ?_, fun e => ?_, fun e => ?_⟩
  · have h2 := h.mem; rw [e, h1] at h2; injection h2 with h3; injection h3 with _ h4; exact absurd h4 (by decide)
  · obtain ⟨es, c, h2, -⟩ := h.map; rw [e, h1] at h2; cases h2
  · obtain ⟨es, c, h2, -⟩ := h.wat; rw [e, h1] at h2; cases h2
/-- Pages have different first places; a page is found, and changed in its block alone. -/
theorem MemAt.change {w w' : World} {B mb mm wm : Nat} {S : MS} {p : Pg} (h : MemAt w B mb mm wm S) (hp : p ∈ S.pages) (f : Pg → Pg)
    (hk : ∀ q, (f q).key = q.key ∧ (f q).blk = q.blk) (hw : w'.heap[p.blk]? = some (.cells (pgCells (f p)) 155 (0, 0)))
    (hok : (f p).bytes.length = 256 ∧ (∀ x ∈ (f p).bytes, x < 256) ∧ (f p).perm < 8)
    (ho : ∀ k, k ≠ p.blk → w'.heap[k]? = w.heap[k]?) (hm : mb ≠ p.blk ∧ mm ≠ p.blk ∧ wm ≠ p.blk) : MemAt w' B mb mm wm (S.upd p.key f) := by
  have e1 : ∀ q : Pg, (if q.key = p.key then f q else q).key = q.key ∧ (if q.key = p.key then f q else q).blk = q.blk := fun q => by split <;> simp [hk]
  have hnd := h.kd
  refine ⟨?_, ?_, ?_, ?_, ?_, ?_, h.ne, h.lo, ?_⟩
  · rw [ho _ hm.1, h.mem]; simp [MS.upd]
  · obtain ⟨es, c, h1, h2⟩ := h.map
    refine ⟨es, c, by rw [ho _ hm.2.1]; exact h1, ?_⟩
    have e : ((S.upd p.key f).pages.map fun p => (p.key, Value.pointer (some ⟨p.blk, 0, none⟩))) = S.pages.map fun p => (p.key, Value.pointer (some ⟨p.blk, 0, none⟩)) := by
      simp only [MS.upd, List.map_map]
      apply List.map_congr_left
      intro q _
      simp only [Function.comp_apply, e1]
    rw [e]; exact h2
  · obtain ⟨es, c, h1, h2⟩ := h.wat
    exact ⟨es, c, by rw [ho _ hm.2.2]; exact h1, h2⟩
  · intro q hq
    simp only [MS.upd, List.mem_map] at hq
    obtain ⟨q0, hq0, rfl⟩ := hq
    by_cases e : q0.key = p.key
    · have : q0 = p := nodup_inj hnd hq0 hp e
      subst this
      rw [if_pos rfl, (hk q0).2]
      exact ⟨hw, hok.1, hok.2.1, hok.2.2, (h.pgs q0 hq0).2.2.2.2⟩
    · rw [if_neg e]
      have hb : q0.blk ≠ p.blk := fun e2 => e (by rw [nodup_inj h.nd hq0 hp e2])
      rw [ho _ hb]
      exact h.pgs q0 hq0
  · have e : (S.upd p.key f).pages.map (·.blk) = S.pages.map (·.blk) := by
      simp only [MS.upd, List.map_map]
      apply List.map_congr_left
      intro q _
      simp only [Function.comp_apply, e1]
    rw [e]; exact h.nd
  · have e : (S.upd p.key f).pages.map (·.key) = S.pages.map (·.key) := by
      simp only [MS.upd, List.map_map]
      apply List.map_congr_left
      intro q _
      simp only [Function.comp_apply, e1]
    rw [e]; exact h.kd
  · simp only [MS.upd, List.length_map]; exact h.len
end Go.Proofs.Ytjoaenfibkgplaa
