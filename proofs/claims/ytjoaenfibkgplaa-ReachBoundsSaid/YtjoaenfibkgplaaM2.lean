import Derived.Test.YtjoaenfibkgplaaM1
namespace Go.Proofs.Ytjoaenfibkgplaa
set_option linter.unusedSimpArgs false
open Go.RowKit Go.Cq
set_option linter.unusedVariables false

/-- What can be fetched from a place. -/
def fetchK (S : MS) (x : Nat) : Nat := if x % 4 = 0 then (if permN S x % 2 = 1 then 0 else 4) else 1
def fetchW (S : MS) (x : Nat) : Nat := if fetchK S x = 0 then wordN S x else 0
theorem and_one8 : ∀ q, q < 8 → bits .and .i64 ((q : Nat) : Int) 1 = ((q % 2 : Nat) : Int) := by decide

/-- 'access.Fetch'. -/
theorem fetch_any {B mb mm wm : Nat} {S : MS} (x : Nat) (w : World) (hx : x < 4294967296) (h : MemAt w B mb mm wm S) :
    Calls Try.prog 89 #[.pointer (some ⟨mb, 0, none⟩), .int .u32 (x : Int)] w fun e w' => e = .returned (.tuple #[.int .u32 (fetchW S x : Nat), .int .i64 (fetchK S x : Nat)]) ∧ ∃ n, w' = w.drewN n := by
  have hpl := permN_lt h x
  have H := Lib.hid h
  clear h
  by_cases h4 : x % 4 = 0
  · have e4 : (((x : Int) % 4) == 0) = true := by simp; omega
    have hb := and_one8 _ hpl
    by_cases hp : permN S x % 2 = 1
    · have ek : Hid (fetchK S x = 0 ∧ fetchW S x = wordN S x) := by
        have e : fetchK S x = 0 := by unfold fetchK; rw [if_pos h4, if_pos hp]
        exact ⟨e, by unfold fetchW; rw [if_pos e]⟩
      rw [hp] at hb
      clear hp hpl h4
      go_enter Try.func89, Try.ntmps89
      go_wp2_with (first
        | (go_at_call 65; refine (perm_any x _ hx H.out).mono ?_; rintro e w' ⟨rfl, n, rfl⟩)
        | (go_at_call 15; refine (word_any x _ hx (H.out.drewN _)).mono ?_; rintro e w' ⟨rfl, n, rfl⟩))
      refine bodyPost_ret (results_tmp2 rfl _ _ _) rfl ?_
      exact ⟨by rw [ek.out.1, ek.out.2]; rfl, _, rfl⟩
    · have ek : Hid (fetchK S x = 4 ∧ fetchW S x = 0) := by
        have e : fetchK S x = 4 := by unfold fetchK; rw [if_pos h4, if_neg hp]
        exact ⟨e, by unfold fetchW; rw [if_neg (by omega)]⟩
      rw [show permN S x % 2 = 0 by omega] at hb
      clear hp hpl h4
      go_enter Try.func89, Try.ntmps89
      go_wp2_with (go_at_call 65; refine (perm_any x _ hx H.out).mono ?_; rintro e w' ⟨rfl, n, rfl⟩)
      refine bodyPost_ret (results_tmp2 rfl _ _ _) rfl ?_
      exact ⟨by rw [ek.out.1, ek.out.2]; rfl, _, rfl⟩
  · have e4 : (((x : Int) % 4) == 0) = false := by simp; omega
    have ek : Hid (fetchK S x = 1 ∧ fetchW S x = 0) := by
      have e : fetchK S x = 1 := by unfold fetchK; rw [if_neg h4]
      exact ⟨e, by unfold fetchW; rw [if_neg (by omega)]⟩
    clear h4 hpl
    go_enter Try.func89, Try.ntmps89
    go_wp2
    refine bodyPost_ret (results_tmp2 rfl _ _ _) rfl ?_
    exact ⟨by rw [ek.out.1, ek.out.2]; rfl, 0, rfl⟩
theorem fetchW_lt {w : World} {B mb mm wm : Nat} {S : MS} (h : MemAt w B mb mm wm S) (x : Nat) : fetchW S x < 4294967296 := by
  unfold fetchW
  split
  · exact wordN_lt h x
  · decide

/-- '(*mem.Mem).Mapped'. -/
theorem mapped_any {B mb mm wm : Nat} {S : MS} (x : Nat) (w : World) (hx : x < 4294967296) (h : MemAt w B mb mm wm S) :
    Calls Try.prog 87 #[.pointer (some ⟨mb, 0, none⟩), .int .u32 (x : Int)] w fun e w' => e = .returned (.bool (S.find x).isSome) ∧ ∃ n, w' = w.drewN n := by
  have H := Lib.hid h
  clear h
  cases hf : S.find x with
  | none =>
    have HF := Lib.hid hf
    clear hf
    go_enter Try.func87, Try.ntmps87
    go_wp2_with (go_at_call 78; refine (page_any x _ hx H.out).mono ?_; rintro e w' ⟨rfl, n, rfl⟩; rw [HF.out]; unfold ptrOf)
    go_ret
    exact ⟨rfl, _, rfl⟩
  | some p =>
    have HF := Lib.hid hf
    clear hf
    go_enter Try.func87, Try.ntmps87
    go_wp2_with (go_at_call 78; refine (page_any x _ hx H.out).mono ?_; rintro e w' ⟨rfl, n, rfl⟩; rw [HF.out]; unfold ptrOf)
    go_ret
    exact ⟨rfl, _, rfl⟩

theorem zero4 (w : World) : (zeroValue 4).run Try.prog w = .ok (.bool false) w := by kernel_rfl
def MS.watched (S : MS) (x : Nat) : Bool := S.watch.contains (x - x % 256)
theorem aFind_watch (k : Nat) (l : List Nat) (i : Nat) : ((aFind k (l.map fun k => (k, Value.bool true)) i).map (·.2)).getD (.bool false) = .bool (l.contains k) := by
  induction l generalizing i with
  | nil => rfl
  | cons p r ih =>
    rw [List.map_cons, aFind]
    by_cases h : p = k
    · simp [h]
    · rw [if_neg h, ih (i + 1), List.contains_cons]
      have : (k == p) = false := by simp; omega
      rw [this, Bool.false_or]

/-- '(*mem.Mem).Watched'. -/
theorem watched_any {B mb mm wm : Nat} {S : MS} (x : Nat) (w : World) (hx : x < 4294967296) (h : MemAt w B mb mm wm S) :
    Calls Try.prog 86 #[.pointer (some ⟨mb, 0, none⟩), .int .u32 (x : Int)] w fun e w' => e = .returned (.bool (S.watched x)) ∧ ∃ n, w' = w.drewN n := by
  have c2 : w.cell? ⟨mb, 3, none⟩ = some (.map (some wm)) := blk_cell h.mem 3
  obtain ⟨es, c, hm1, hm2⟩ := h.wat
  have hlk : ∀ n, (Instr.lookup 106 (.map (some wm)) (.int .u32 ((x - x % 256 : Nat) : Int)) false).run Try.prog (w.drewN n) = .ok (.bool (S.watched x)) (w.drewN n) := fun n => by
    rw [run_lookup_u32 (z := .bool false) Try.underlying106 Try.underlying27 zero4 (show (w.drewN n).heap[wm]? = _ from hm1) hm2, aFind_watch]
    rfl
  clear hm1 hm2
  have H := Lib.hid h
  clear h
  go_enter Try.func86, Try.ntmps86
  go_wp2
  go_quiet ((go_at_call 83; exact Calls.quiet_of_same (of83 x _ hx)))
  go_wp2
  go_ret
  exact ⟨rfl, _, rfl⟩

/-! The page's own functions and the counter. -/
theorem pperm_any {w : World} {p : Pg} (h : w.heap[p.blk]? = some (.cells (pgCells p) 155 (0, 0))) (hl : p.bytes.length = 256) :
    Calls Try.prog 80 #[.pointer (some ⟨p.blk, 0, none⟩)] w fun e w' => e = .returned (.int .i64 (p.perm : Int)) ∧ w' = w := by
  have c := blk_cell h 256
  rw [pgCells_perm hl] at c
  clear h
  go_enter Try.func80, Try.ntmps80
  go_wp2
  go_ret
  exact ⟨rfl, rfl⟩
theorem setperm_any {w : World} {b : Nat} {o : Value} (q : Int) (r : Nat) (h : w.cell? ⟨b, 256, none⟩ = some o) (hz : w.frozen? ⟨b, 256, none⟩ = false) (hq : bits .and .i64 q 7 = (r : Int)) :
    Calls Try.prog 79 #[.pointer (some ⟨b, 0, none⟩), .int .i64 q] w fun e w' => e = .returned (.tuple #[]) ∧ w' = w.setCell ⟨b, 256, none⟩ (.int .i64 (r : Int)) := by
  go_enter Try.func79, Try.ntmps79
  go_wp2
  go_end0
  exact ⟨rfl, rfl⟩
end Go.Proofs.Ytjoaenfibkgplaa
