import Derived.Test.YtjoaenfibkgplaaM5
namespace Go.Proofs.Ytjoaenfibkgplaa
set_option linter.unusedSimpArgs false
open Go.RowKit Go.Cq
set_option linter.unusedVariables false

theorem MemAt.rewatch {w w1 : World} {B mb mm wm : Nat} {S : MS} {es' : Array MapEntry} {c' : Nat} (l : List Nat) (h : MemAt w B mb mm wm S) (ho : ∀ k, k ≠ wm → w1.heap[k]? = w.heap[k]?)
    (hm : w1.heap[wm]? = some (.map es' c')) (hE : Ents es' (l.map fun k => (k, Value.bool true))) : MemAt w1 B mb mm wm { S with watch := l } := by
  have hmw : mb ≠ wm := by
    intro e
    obtain ⟨es, c, h1, -⟩ := h.wat
    have h3 := h.mem
    rw [e, h1] at h3; injection h3 with h4; cases h4
  refine ⟨by rw [ho _ hmw]; exact h.mem, ?_, ⟨es', c', hm, hE⟩, ?_, h.nd, h.kd, h.ne, h.lo, h.len⟩
  · obtain ⟨es, c, h1, h2⟩ := h.map
    exact ⟨es, c, by rw [ho _ h.ne]; exact h1, h2⟩
  · intro p hp
    rw [ho _ (fun e => (h.apart hp).2.2 e.symm)]
    exact h.pgs p hp
theorem aSet_watch (k : Nat) (l : List Nat) : aSet k (.bool true) (l.map fun k => (k, Value.bool true)) = (if k ∈ l then l else l ++ [k]).map fun k => (k, Value.bool true) := by
  induction l with
  | nil => rfl
  | cons p r ih =>
    rw [List.map_cons, aSet]
    by_cases h : p = k
    · subst h
      simp
    · rw [if_neg h, ih]
      by_cases h2 : k ∈ r
      · rw [if_pos h2, if_pos (List.mem_cons_of_mem _ h2)]; rfl
      · rw [if_neg h2, if_neg (by simp only [List.mem_cons, not_or]; exact ⟨fun e => h e.symm, h2⟩)]; rfl
theorem aDel_watch (k : Nat) (l : List Nat) : aDel k (l.map fun k => (k, Value.bool true)) = (l.erase k).map fun k => (k, Value.bool true) := by
  induction l with
  | nil => rfl
  | cons p r ih =>
    rw [List.map_cons, aDel]
    by_cases h : p = k
    · subst h
      simp
    · rw [if_neg h, ih, List.erase_cons_tail (by simpa using h)]; rfl

def WatchPost (w : World) (B mb mm wm : Nat) (S : MS) (w' : World) : Prop := (∃ S', MemAt w' B mb mm wm S' ∧ S'.pages = S.pages ∧ S'.most = S.most) ∧ Below B w w'
theorem watch_out {B mb mm wm : Nat} {S : MS} (x : Nat) (on : Bool) (w : World) (hx : x < 4294967296) (h : MemAt w B mb mm wm S) (hf : S.find x = none) :
    Calls Try.prog 39 #[.pointer (some ⟨mb, 0, none⟩), .int .u32 (x : Int), .bool on] w fun e w' => e = .returned (.tuple #[]) ∧ WatchPost w B mb mm wm S w' := by
  have hend : Hid (∀ n, WatchPost w B mb mm wm S (w.drewN n)) := fun n => ⟨⟨S, h.drewN n, rfl, rfl⟩, below_drewN (Below.refl _ _) _⟩
  have HF : Hid ((S.find x).isSome = false) := by refine Lib.hid ?_; rw [hf]; rfl
  have H := Lib.hid h
  clear h hf
  go_enter Try.func39, Try.ntmps39
  go_wp2_with (go_at_call 87; refine (mapped_any x _ hx H.out).mono ?_; rintro e w' ⟨rfl, n, rfl⟩; rw [HF.out])
  go_end0
  exact ⟨rfl, hend.out _⟩
theorem watch_on {B mb mm wm : Nat} {S : MS} (x : Nat) (w : World) (hx : x < 4294967296) (h : MemAt w B mb mm wm S) (hf : (S.find x).isSome = true) :
    Calls Try.prog 39 #[.pointer (some ⟨mb, 0, none⟩), .int .u32 (x : Int), .bool true] w fun e w' => e = .returned (.tuple #[]) ∧ WatchPost w B mb mm wm S w' := by
  obtain ⟨es, c, hm1, hm2⟩ := h.wat
  have c3 : ∀ n, (w.drewN n).cell? ⟨mb, 3, none⟩ = some (.map (some wm)) := fun n => blk_cell (show (w.drewN n).heap[mb]? = _ from h.mem) 3
  obtain ⟨es', c', he, hE⟩ : ∃ es' c', (∀ n, (Instr.mapUpdate 106 (.map (some wm)) (.int .u32 ((x - x % 256 : Nat) : Int)) (.bool true)).run Try.prog (w.drewN n) = .ok () (setMap (w.drewN n) wm es' c')) ∧
      Ents es' ((if x - x % 256 ∈ S.watch then S.watch else S.watch ++ [x - x % 256]).map fun k => (k, Value.bool true)) :=
    ⟨_, _, fun n => run_mapUpdate_to Try.underlying106 Try.underlying27 (show (w.drewN n).heap[wm]? = _ from hm1) hm2, by rw [← aSet_watch]; exact updEs_ents c _ _ hm2⟩
  have hend : Hid (∀ n, WatchPost w B mb mm wm S (setMap (w.drewN n) wm es' c')) := fun n =>
    ⟨⟨_, (h.drewN n).rewatch _ (fun k hk => setMap_other _ _ hk) (setMap_same es' c' (show (w.drewN n).heap[wm]? = _ from hm1)) hE, rfl, rfl⟩, below_setMap (below_drewN (Below.refl _ _) _) h.lo.2.2 _ _⟩
  have HF := Lib.hid hf
  have H := Lib.hid h
  clear h hf hm1 hm2 hE
  go_enter Try.func39, Try.ntmps39
  go_wp2_with (go_at_call 87; refine (mapped_any x _ hx H.out).mono ?_; rintro e w' ⟨rfl, n, rfl⟩; rw [HF.out])
  set_option maxRecDepth 4000 in
  go_region_with (go_at_call 83; refine (of83 x _ hx).mono ?_; rintro e w' ⟨rfl, rfl⟩)
  all_goals (
    go_end0
    exact ⟨rfl, hend.out _⟩)
theorem watch_off {B mb mm wm : Nat} {S : MS} (x : Nat) (w : World) (hx : x < 4294967296) (h : MemAt w B mb mm wm S) (hf : (S.find x).isSome = true) :
    Calls Try.prog 39 #[.pointer (some ⟨mb, 0, none⟩), .int .u32 (x : Int), .bool false] w fun e w' => e = .returned (.tuple #[]) ∧ WatchPost w B mb mm wm S w' := by
  obtain ⟨es, c, hm1, hm2⟩ := h.wat
  have c3 : ∀ n, (w.drewN n).cell? ⟨mb, 3, none⟩ = some (.map (some wm)) := fun n => blk_cell (show (w.drewN n).heap[mb]? = _ from h.mem) 3
  obtain ⟨es', c', he, hE⟩ : ∃ es' c', (∀ n ty, (Builtin.delete_ #[106, 27] ty #[.map (some wm), .int .u32 ((x - x % 256 : Nat) : Int)]).run Try.prog (w.drewN n) = .ok (.tuple #[]) (setMap (w.drewN n) wm es' c')) ∧
      Ents es' ((S.watch.erase (x - x % 256)).map fun k => (k, Value.bool true)) :=
    ⟨_, _, fun n ty => run_delete_to Try.underlying106 Try.underlying27 (show (w.drewN n).heap[wm]? = _ from hm1) hm2, by rw [← aDel_watch]; exact delEs_ents _ hm2⟩
  have hend : Hid (∀ n, WatchPost w B mb mm wm S (setMap (w.drewN n) wm es' c')) := fun n =>
    ⟨⟨_, (h.drewN n).rewatch _ (fun k hk => setMap_other _ _ hk) (setMap_same es' c' (show (w.drewN n).heap[wm]? = _ from hm1)) hE, rfl, rfl⟩, below_setMap (below_drewN (Below.refl _ _) _) h.lo.2.2 _ _⟩
  have HF := Lib.hid hf
  have H := Lib.hid h
  clear h hf hm1 hm2 hE
  go_enter Try.func39, Try.ntmps39
  go_wp2_with (go_at_call 87; refine (mapped_any x _ hx H.out).mono ?_; rintro e w' ⟨rfl, n, rfl⟩; rw [HF.out])
  set_option maxRecDepth 4000 in
  go_region_with (go_at_call 83; refine (of83 x _ hx).mono ?_; rintro e w' ⟨rfl, rfl⟩)
  all_goals (
    go_end0
    exact ⟨rfl, hend.out _⟩)

/-- '(*mem.Mem).Watch'. -/
theorem watch_any {B mb mm wm : Nat} {S : MS} (x : Nat) (on : Bool) (w : World) (hx : x < 4294967296) (h : MemAt w B mb mm wm S) :
    Calls Try.prog 39 #[.pointer (some ⟨mb, 0, none⟩), .int .u32 (x : Int), .bool on] w fun e w' => e = .returned (.tuple #[]) ∧ WatchPost w B mb mm wm S w' := by
  cases hf : S.find x with
  | none => exact watch_out x on w hx h hf
  | some p =>
    cases on with
    | true => exact watch_on x w hx h (by rw [hf]; rfl)
    | false => exact watch_off x w hx h (by rw [hf]; rfl)

theorem alloc_at {w : World} (o : Obj) {k : Nat} (h : k = w.heap.size) : (w.alloc o).heap[k]? = some o := by
  subst h
  show (w.heap.push o)[w.heap.size]? = _
  rw [Array.getElem?_push, if_pos rfl]
theorem alloc_size (w : World) (o : Obj) : (w.alloc o).heap.size = w.heap.size + 1 := by
  show (w.heap.push o).size = _
  simp

/-- 'mem.New'. -/
theorem new_any (w : World) : Calls Try.prog 36 #[.int .i64 64] w fun e w' => ∃ mb mm wm, e = .returned (.pointer (some ⟨mb, 0, none⟩)) ∧ MemAt w' w.heap.size mb mm wm ⟨64, [], []⟩ ∧ Below w.heap.size w w' := by
  have hmm := @run_makeMap Try.prog
  go_enter Try.func36, Try.ntmps36
  go_wp2
  go_ret
  refine ⟨_, w.heap.size, w.heap.size + 1, rfl, ⟨?_, ?_, ?_, by simp, by simp, by simp, by omega, by omega, by simp⟩, ?_⟩
  · exact alloc_at _ (by rw [alloc_size, alloc_size])
  · exact ⟨#[], 0, blk_alloc (blk_alloc (alloc_at _ rfl) _) _, rfl⟩
  · exact ⟨#[], 0, blk_alloc (alloc_at _ (by rw [alloc_size])) _, rfl⟩
  · exact (((Below.refl _ _).alloc (Nat.le_refl _) _).alloc (by rw [alloc_size]; omega) _).alloc (by rw [alloc_size, alloc_size]; omega) _
end Go.Proofs.Ytjoaenfibkgplaa
