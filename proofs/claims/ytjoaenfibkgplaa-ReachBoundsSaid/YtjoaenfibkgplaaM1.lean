import Derived.Test.YtjoaenfibkgplaaB5
import Derived.Test.YtjoaenfibkgplaaZA
namespace Go.Proofs.Ytjoaenfibkgplaa
set_option linter.unusedSimpArgs false
open Go.RowKit Go.Cq
set_option linter.unusedVariables false

/-! A memory: its pages, by their first places, and which are watched. -/
structure Pg where
  key : Nat
  blk : Nat
  perm : Nat
  bytes : List Nat
  writes : Int
structure MS where
  most : Nat
  pages : List Pg
  watch : List Nat
def pgCells (p : Pg) : Array Value := (nums .u8 p.bytes ++ [Value.int .i64 (p.perm : Int), Value.int .i64 p.writes]).toArray
structure MemAt (w : World) (B mb mm wm : Nat) (S : MS) : Prop where
  mem : w.heap[mb]? = some (.cells #[.int .i64 (S.most : Int), .int .i64 (S.pages.length : Int), .map (some mm), .map (some wm), .slice none 0 0] 121 (0, 0))
  map : ∃ es c, w.heap[mm]? = some (.map es c) ∧ Ents es (S.pages.map fun p => (p.key, Value.pointer (some ⟨p.blk, 0, none⟩)))
  wat : ∃ es c, w.heap[wm]? = some (.map es c) ∧ Ents es (S.watch.map fun k => (k, Value.bool true))
  pgs : ∀ p ∈ S.pages, w.heap[p.blk]? = some (.cells (pgCells p) 155 (0, 0)) ∧ p.bytes.length = 256 ∧ (∀ x ∈ p.bytes, x < 256) ∧ p.perm < 8 ∧ B ≤ p.blk
  nd : (S.pages.map (·.blk)).Nodup
  kd : (S.pages.map (·.key)).Nodup
  ne : mm ≠ wm
  lo : B ≤ mb ∧ B ≤ mm ∧ B ≤ wm
  len : S.pages.length ≤ 64 ∧ S.most ≤ 64

theorem MemAt.kept {w w' : World} {B mb mm wm : Nat} {S : MS} (h : MemAt w B mb mm wm S) (hb : Below w.heap.size w w') : MemAt w' B mb mm wm S where
  mem := blk_kept h.mem hb
  map := let ⟨es, c, h1, h2⟩ := h.map; ⟨es, c, blk_kept h1 hb, h2⟩
  wat := let ⟨es, c, h1, h2⟩ := h.wat; ⟨es, c, blk_kept h1 hb, h2⟩
  pgs := fun p hp => let ⟨h1, h2⟩ := h.pgs p hp; ⟨blk_kept h1 hb, h2⟩
  nd := h.nd
  kd := h.kd
  ne := h.ne
  lo := h.lo
  len := h.len

/-- The page of a place. -/
def MS.find (S : MS) (a : Nat) : Option Pg := S.pages.find? fun p => p.key == a - a % 256
def ptrOf : Option Pg → Value
  | some p => .pointer (some ⟨p.blk, 0, none⟩)
  | none => .pointer none
theorem aFind_pages (k : Nat) (l : List Pg) (i : Nat) : ((aFind k (l.map fun p => (p.key, Value.pointer (some ⟨p.blk, 0, none⟩))) i).map (·.2)).getD (.pointer none) = ptrOf (l.find? fun p => p.key == k) := by
  induction l generalizing i with
  | nil => rfl
  | cons p r ih =>
    rw [List.map_cons, aFind, List.find?_cons]
    by_cases h : p.key = k
    · simp [h, ptrOf]
    · rw [if_neg h]
      have : (p.key == k) = false := by simpa using h
      rw [this]
      exact ih (i + 1)

theorem of83 (x : Nat) (w : World) (hx : x < 4294967296) : Calls Try.prog 83 #[.int .u32 (x : Int)] w fun e w' => e = .returned (.int .u32 ((x - x % 256 : Nat) : Int)) ∧ w' = w := by
  go_enter Try.func83, Try.ntmps83
  go_wp2
  go_ret
  refine ⟨ret_u32 ?_, rfl⟩
  omega

theorem zero122 (w : World) : (zeroValue 122).run Try.prog w = .ok (.pointer none) w := by kernel_rfl

theorem MemAt.drewN {w : World} {B mb mm wm : Nat} {S : MS} (h : MemAt w B mb mm wm S) (n : Nat) : MemAt (w.drewN n) B mb mm wm S where
  mem := h.mem
  map := h.map
  wat := h.wat
  pgs := h.pgs
  nd := h.nd
  kd := h.kd
  ne := h.ne
  lo := h.lo
  len := h.len
theorem MS.find_mem {S : MS} {x : Nat} {p : Pg} (h : S.find x = some p) : p ∈ S.pages := List.mem_of_find?_eq_some h

/-- '(*mem.Mem).page'. -/
theorem page_any {B mb mm wm : Nat} {S : MS} (x : Nat) (w : World) (hx : x < 4294967296) (h : MemAt w B mb mm wm S) :
    Calls Try.prog 78 #[.pointer (some ⟨mb, 0, none⟩), .int .u32 (x : Int)] w fun e w' => e = .returned (ptrOf (S.find x)) ∧ ∃ n, w' = w.drewN n := by
  have c2 : w.cell? ⟨mb, 2, none⟩ = some (.map (some mm)) := blk_cell h.mem 2
  obtain ⟨es, c, hm1, hm2⟩ := h.map
  have hlk : ∀ n, (Instr.lookup 114 (.map (some mm)) (.int .u32 ((x - x % 256 : Nat) : Int)) false).run Try.prog (w.drewN n) = .ok (ptrOf (S.find x)) (w.drewN n) := fun n => by
    rw [run_lookup_u32 (z := .pointer none) Try.underlying114 Try.underlying27 zero122 (show (w.drewN n).heap[mm]? = _ from hm1) hm2, aFind_pages]
    rfl
  clear hm1 hm2
  have H := Lib.hid h
  clear h
  go_enter Try.func78, Try.ntmps78
  go_wp2
  go_quiet ((go_at_call 83; exact Calls.quiet_of_same (of83 x _ hx)))
  go_wp2
  go_ret
  exact ⟨rfl, _, rfl⟩

def permN (S : MS) (x : Nat) : Nat := match S.find x with
  | some p => p.perm
  | none => 0
def peekN (S : MS) (x : Nat) : Nat := match S.find x with
  | some p => p.bytes.getD (x % 256) 0
  | none => 0

theorem pgCells_perm {p : Pg} (h : p.bytes.length = 256) : (pgCells p)[256]? = some (.int .i64 (p.perm : Int)) := by
  simp [pgCells, nums, h]
theorem pgCells_byte {p : Pg} (j : Nat) (h : p.bytes.length = 256) (hj : j < 256) : (pgCells p)[j]? = some (.int .u8 (p.bytes.getD j 0 : Nat)) := by
  have := nums_get .u8 p.bytes j (by omega)
  unfold pgCells
  rw [List.getElem?_toArray, List.getElem?_append_left (by rw [nums_length]; omega)]
  exact this
theorem pgCells_size {p : Pg} (h : p.bytes.length = 256) : (pgCells p).size = 258 := by simp [pgCells, nums, h]

theorem permN_lt {w : World} {B mb mm wm : Nat} {S : MS} (h : MemAt w B mb mm wm S) (x : Nat) : permN S x < 8 := by
  unfold permN
  cases hf : S.find x with
  | none => exact (by decide : 0 < 8)
  | some p => exact (h.pgs p (MS.find_mem hf)).2.2.2.1
theorem peekN_lt {w : World} {B mb mm wm : Nat} {S : MS} (h : MemAt w B mb mm wm S) (x : Nat) : peekN S x < 256 := by
  unfold peekN
  cases hf : S.find x with
  | none => exact (by decide : 0 < 256)
  | some p =>
    have h2 := h.pgs p (MS.find_mem hf)
    exact h2.2.2.1 _ (getD_mem _ _ (by have := h2.2.1; omega))

/-- '(*mem.Mem).Perm'. -/
theorem perm_any {B mb mm wm : Nat} {S : MS} (x : Nat) (w : World) (hx : x < 4294967296) (h : MemAt w B mb mm wm S) :
    Calls Try.prog 65 #[.pointer (some ⟨mb, 0, none⟩), .int .u32 (x : Int)] w fun e w' => e = .returned (.int .i64 (permN S x : Nat)) ∧ ∃ n, w' = w.drewN n := by
  have H := Lib.hid h
  clear h
  cases hf : S.find x with
  | none =>
    have HF := Lib.hid hf
    have HP : Hid (permN S x = 0) := by show _ = _; unfold permN; rw [hf]
    clear hf
    go_enter Try.func65, Try.ntmps65
    go_wp2_with (go_at_call 78; refine (page_any x _ hx H.out).mono ?_; rintro e w' ⟨rfl, n, rfl⟩; rw [HF.out]; unfold ptrOf)
    go_ret
    exact ⟨by rw [HP.out]; rfl, _, rfl⟩
  | some p =>
    have HF := Lib.hid hf
    have HP : Hid (permN S x = p.perm) := by show _ = _; unfold permN; rw [hf]
    have hp := H.out.pgs p (MS.find_mem hf)
    have c := blk_cell hp.1 256
    rw [pgCells_perm hp.2.1] at c
    clear hf hp
    go_enter Try.func65, Try.ntmps65
    go_wp2_with (first
      | (go_at_call 78; refine (page_any x _ hx H.out).mono ?_; rintro e w' ⟨rfl, n, rfl⟩; rw [HF.out]; unfold ptrOf)
      | go_in)
    go_ret
    exact ⟨by rw [HP.out]; rfl, _, rfl⟩

/-- '(*mem.Mem).Peek'. -/
theorem peek_any {B mb mm wm : Nat} {S : MS} (x : Nat) (w : World) (hx : x < 4294967296) (h : MemAt w B mb mm wm S) :
    Calls Try.prog 44 #[.pointer (some ⟨mb, 0, none⟩), .int .u32 (x : Int)] w fun e w' => e = .returned (.int .u8 (peekN S x : Nat)) ∧ ∃ n, w' = w.drewN n := by
  have H := Lib.hid h
  clear h
  cases hf : S.find x with
  | none =>
    have HF := Lib.hid hf
    have HP : Hid (peekN S x = 0) := by show _ = _; unfold peekN; rw [hf]
    clear hf
    go_enter Try.func44, Try.ntmps44
    go_wp2_with (go_at_call 78; refine (page_any x _ hx H.out).mono ?_; rintro e w' ⟨rfl, n, rfl⟩; rw [HF.out]; unfold ptrOf)
    go_ret
    exact ⟨by rw [HP.out]; rfl, _, rfl⟩
  | some p =>
    have HF := Lib.hid hf
    have HP : Hid (peekN S x = p.bytes.getD (x % 256) 0) := by show _ = _; unfold peekN; rw [hf]
    have hp := H.out.pgs p (MS.find_mem hf)
    have c := blk_cell hp.1 (x % 256)
    rw [pgCells_byte (x % 256) hp.2.1 (Nat.mod_lt _ (by decide)), ← HP.out] at c
    clear hf hp
    go_enter Try.func44, Try.ntmps44
    go_wp2_with (first
      | (go_at_call 78; refine (page_any x _ hx H.out).mono ?_; rintro e w' ⟨rfl, n, rfl⟩; rw [HF.out]; unfold ptrOf)
      | go_in)
    go_ret
    exact ⟨rfl, _, rfl⟩

/-- The bytes of a word, so many of them. -/
def wacc (S : MS) (x : Nat) : Nat → Nat
  | 0 => 0
  | i + 1 => wacc S x i * 256 + peekN S ((x + i) % 4294967296)
def wordN (S : MS) (x : Nat) : Nat := wacc S x 4
theorem wacc_lt {w : World} {B mb mm wm : Nat} {S : MS} (h : MemAt w B mb mm wm S) (x i : Nat) : wacc S x i < 256 ^ i := by
  induction i with
  | zero => exact (by decide : 0 < 1)
  | succ i ih =>
    have := peekN_lt h ((x + i) % 4294967296)
    rw [wacc, Nat.pow_succ]
    omega
theorem wordN_lt {w : World} {B mb mm wm : Nat} {S : MS} (h : MemAt w B mb mm wm S) (x : Nat) : wordN S x < 4294967296 := wacc_lt h x 4

/-- '(*mem.Mem).Word'. -/
theorem word_any {B mb mm wm : Nat} {S : MS} (x : Nat) (w : World) (hx : x < 4294967296) (h : MemAt w B mb mm wm S) :
    Calls Try.prog 15 #[.pointer (some ⟨mb, 0, none⟩), .int .u32 (x : Int)] w fun e w' => e = .returned (.int .u32 (wordN S x : Nat)) ∧ ∃ n, w' = w.drewN n := by
  have H := Lib.hid h
  clear h
  go_enter Try.func15, Try.ntmps15
  go_wp2_with fail
  go_loopw [5, 7] (fun v i wr => ∃ k : Nat, k ≤ 4 ∧ i = .int .u32 k ∧ v = .int .u32 (wacc S x k : Nat) ∧ ∃ n, wr = w.drewN n) (fun _ i _ => 4 - (intOf i).toNat)
  case atStart => exact ⟨0, by omega, rfl, rfl, 0, rfl⟩
  case round =>
    obtain ⟨k, hk, rfl, rfl, n, rfl⟩ := hrel
    by_cases hlt : k < 4
    · have hpk := peekN_lt H.out ((x + k) % 4294967296)
      have hwa : wacc S x k < 16777216 := Nat.lt_of_lt_of_le (wacc_lt H.out x k) (Nat.pow_le_pow_right (by decide) (by omega) : 256 ^ k ≤ 256 ^ 3)
      have e1 : IntKind.u32.wrap ((x : Int) + (k : Int)) = (((x + k) % 4294967296 : Nat) : Int) := by rw [IntKind.wrap_u32]; omega
      have e2 : bits .or .u32 (((wacc S x k : Nat) : Int) * 256) ((peekN S ((x + k) % 4294967296) : Nat) : Int) = ((wacc S x (k + 1) : Nat) : Int) := by
        have h1 := u32_or_nat (wacc S x k * 256) (peekN S ((x + k) % 4294967296)) (by omega) (by omega)
        rw [nat_join 8 _ _ (by omega) hpk] at h1
        rw [wacc, ← h1]; rfl
      go_wp2_with (go_at_call 44; refine (peek_any ((x + k) % 4294967296) _ (Nat.mod_lt _ (by decide)) (H.out.drewN n)).mono ?_; rintro e w' ⟨rfl, m, rfl⟩)
      go_roundw
      case rel => exact ⟨k + 1, by omega, by go_num, rfl, _, rfl⟩
      case measure => simp [intOf]; omega
    · obtain rfl : k = 4 := by omega
      go_wp2
      go_ret
      exact ⟨rfl, _, rfl⟩
end Go.Proofs.Ytjoaenfibkgplaa
