import Derived.Test.YtjoaenfibkgplaaM4
namespace Go.Cq
set_option linter.unusedSimpArgs false
open Go Go.RowKit
def delEs (es : Array MapEntry) : Option Nat → Array MapEntry
  | none => es
  | some i => es.eraseIdxIfInBounds i
def aDel (k : Nat) : List (Nat × Value) → List (Nat × Value)
  | [] => []
  | p :: r => if p.1 = k then r else p :: aDel k r
theorem run_delete_to {P : Program} {w : World} {t kt et ty t2 : TypeId} {b : Nat} {es : Array MapEntry} {c : Nat} {L : List (Nat × Value)} {k : Nat} (hm : P.underlying t = some (.map kt et)) (hk : P.underlying kt = some (.int .u32))
    (hb : w.heap[b]? = some (.map es c)) (hE : Ents es L) :
    (Builtin.delete_ #[t, t2] ty #[.map (some b), .int .u32 (k : Int)]).run P w = .ok (.tuple #[]) (setMap w b (delEs es ((aFind k L 0).map (·.1))) c) := by
  have hc : ∀ e, (Instr.checkKey e 10000 kt (.int .u32 (k : Int))).run P w = .ok () w := fun e => MapKept.run_checkKey (k := .int .u32 (k : Int)) hk (by simp [MapKept.IsKey]) e 9999
  have hf := MapKept.run_findKey (P := P) (w := w) hk (findNow_u32 k es.toList L 0 hE)
  cases h : aFind k L 0 with
  | none =>
    rw [h] at hf
    simp [Builtin.delete_, run_underlying hm, MapKept.run_getObj_map hb, hc, hf, MapKept.run_setObj_map _ hb, Result.andThen, delEs, setMap]
  | some r =>
    obtain ⟨i, u⟩ := r
    rw [h] at hf
    simp [Builtin.delete_, run_underlying hm, MapKept.run_getObj_map hb, hc, hf, MapKept.run_setObj_map _ hb, Result.andThen, delEs, setMap]
theorem aDel_miss {k : Nat} {L : List (Nat × Value)} {i : Nat} (h : aFind k L i = none) : aDel k L = L := by
  induction L generalizing i with
  | nil => rfl
  | cons p r ih =>
    rw [aFind] at h
    split at h
    · simp at h
    · rename_i e
      rw [aDel, if_neg e, ih h]
theorem aDel_hit {k : Nat} {L : List (Nat × Value)} {i j : Nat} {u : Value} (h : aFind k L i = some (j, u)) : aDel k L = L.eraseIdx (j - i) := by
  induction L generalizing i with
  | nil => simp [aFind] at h
  | cons p r ih =>
    rw [aFind] at h
    split at h
    · rename_i e
      simp only [Option.some.injEq, Prod.mk.injEq] at h
      obtain ⟨rfl, rfl⟩ := h
      simp [aDel, e]
    · rename_i e
      have h1 := (aFind_get h).1
      rw [show j - i = (j - (i + 1)) + 1 by omega, List.eraseIdx_cons_succ, ← ih h, aDel, if_neg e]
theorem delEs_ents {es : Array MapEntry} {L : List (Nat × Value)} (k : Nat) (hE : Ents es L) : Ents (delEs es ((aFind k L 0).map (·.1))) (aDel k L) := by
  cases h : aFind k L 0 with
  | none => rw [aDel_miss h]; exact hE
  | some r =>
    obtain ⟨i, u⟩ := r
    rw [aDel_hit h, Nat.sub_zero]
    unfold Ents at hE ⊢
    simp only [Option.map_some, delEs, Array.eraseIdxIfInBounds]
    split
    · rw [Array.toList_eraseIdx]
      apply List.ext_getElem?
      intro j
      have hj : ∀ j : Nat, (es.toList[j]?).map (fun e : MapEntry => (e.key, e.val)) = (L[j]?).map fun p : Nat × Value => (Value.int .u32 (p.1 : Int), p.2) := fun j => by
        rw [← List.getElem?_map, hE, List.getElem?_map]
      rw [List.getElem?_map, List.getElem?_map, List.getElem?_eraseIdx, List.getElem?_eraseIdx]
      split <;> exact hj _
    · rename_i hn
      have hl : es.toList.length = L.length := by simpa using congrArg List.length hE
      have : L.length ≤ i := by simpa [← hl] using hn
      rw [List.eraseIdx_of_length_le this]; exact hE
end Go.Cq
namespace Go.Proofs.Ytjoaenfibkgplaa
open Go.RowKit Go.Cq
set_option linter.unusedVariables false

/-- 'Poke', of what a memory says. -/
def AM.poke (A : AM) (x v : Nat) : AM := match A.find x with
  | some p => A.upd p.key fun p => { p with bytes := p.bytes.set (x % 256) v }
  | none => A

theorem poke_none {B mb mm wm : Nat} {S : MS} (x v : Nat) (w : World) (hx : x < 4294967296) (h : MemAt w B mb mm wm S) (hf : S.find x = none) :
    Calls Try.prog 38 #[.pointer (some ⟨mb, 0, none⟩), .int .u32 (x : Int), .int .u8 (v : Int)] w fun e w' => e = .returned (.bool false) ∧
      (∃ S', MemAt w' B mb mm wm S' ∧ S'.v = S.v.poke x v) ∧ Below B w w' := by
  have hend : ∀ n, (∃ S', MemAt (w.drewN n) B mb mm wm S' ∧ S'.v = S.v.poke x v) ∧ Below B w (w.drewN n) := fun n => by
    refine ⟨⟨S, h.drewN n, ?_⟩, below_drewN (Below.refl _ _) _⟩
    rw [AM.poke, MS.find_v, hf]; rfl
  have H := Lib.hid h
  have HE := Lib.hid hend
  have HF := Lib.hid hf
  clear h hend hf
  go_enter Try.func38, Try.ntmps38
  go_wp2_with (go_at_call 78; refine (page_any x _ hx H.out).mono ?_; rintro e w' ⟨rfl, n, rfl⟩; rw [HF.out]; unfold ptrOf)
  go_ret
  exact ⟨rfl, HE.out _⟩

theorem setbyte_at {w : World} {b : Nat} {cs : Array Value} {n : Int} {i : Int} (j : Nat) (v : Nat) (hi : i = (j : Int)) (hj : j < 256) (h : w.heap[b]? = some (.cells cs 155 (0, 0))) (hsz : cs.size = 258) (hn : cs[257]? = some (.int .i64 n)) :
    Calls Try.prog 85 #[.pointer (some ⟨b, 0, none⟩), .int .i64 i, .int .u8 (v : Int)] w fun e w' => e = .returned (.tuple #[]) ∧
      w' = (w.setCell ⟨b, j, none⟩ (.int .u8 (v : Int))).setCell ⟨b, 257, none⟩ (.int .i64 (wrap64 (n + 1))) := by
  subst hi
  have := setbyte_any j v hj h hsz hn
  have e : IntKind.i64.wrap (n + 1) = wrap64 (n + 1) := by simp only [go_sem, IntWalk.i64_left]
  rw [← e]
  exact this

theorem poke_found {B mb mm wm : Nat} {S : MS} (x v : Nat) (w : World) (hx : x < 4294967296) (hv : v < 256) (h : MemAt w B mb mm wm S) {p : Pg} (hf : S.find x = some p) (hw : S.watch = []) :
    Calls Try.prog 38 #[.pointer (some ⟨mb, 0, none⟩), .int .u32 (x : Int), .int .u8 (v : Int)] w fun e w' => e = .returned (.bool true) ∧
      (∃ S', MemAt w' B mb mm wm S' ∧ S'.v = S.v.poke x v) ∧ Below B w w' := by
  have hmem := MS.find_mem hf
  have hp := h.pgs p hmem
  have HB : Hid (∀ n, (w.drewN n).heap[p.blk]? = some (.cells (pgCells p) 155 (0, 0))) := fun n => hp.1
  have hl : (nums IntKind.u8 p.bytes).length = 256 := by rw [nums_length]; exact hp.2.1
  have HN : Hid ((pgCells p)[257]? = some (.int .i64 p.writes)) := by
    refine Lib.hid ?_
    simp [pgCells, nums, hp.2.1]
  have hj : x % 256 < 256 := Nat.mod_lt _ (by decide)
  have hi : (x : Int) % 256 = ((x % 256 : Nat) : Int) := by omega
  have HM : Hid (∀ n, MemAt (((w.drewN n).setCell ⟨p.blk, x % 256, none⟩ (.int .u8 (v : Int))).setCell ⟨p.blk, 257, none⟩ (.int .i64 (wrap64 (p.writes + 1)))) B mb mm wm (S.upd p.key fun p => { p with bytes := p.bytes.set (x % 256) v, writes := wrap64 (p.writes + 1) })) := by
    show ∀ n, _
    intro n
    refine (h.drewN n).change hmem _ (fun _ => ⟨rfl, rfl⟩) ?_ ⟨by simp [hp.2.1], ?_, hp.2.2.2.1⟩ ?_ (h.apart hmem)
    · rw [heap_setCell_same _ _ _ _ 155 _ (heap_setCell_same _ _ _ _ 155 _ (HB.out n))]
      congr 2
      unfold pgCells
      apply Array.ext'
      simp only [List.setIfInBounds_toArray]
      rw [List.set_append_left _ _ (by omega), List.set_append_right _ _ (by rw [List.length_set]; omega)]
      rw [List.length_set, hl]
      have : nums IntKind.u8 (p.bytes.set (x % 256) v) = (nums IntKind.u8 p.bytes).set (x % 256) (.int .u8 (v : Int)) := by
        unfold nums; rw [List.map_set]
      rw [this]; rfl
    · intro y hy
      rcases List.mem_or_eq_of_mem_set hy with hy | rfl
      · exact hp.2.2.1 y hy
      · exact hv
    · intro k hk
      rw [heap_setCell_other _ _ _ _ hk, heap_setCell_other _ _ _ _ hk]
  have HV : Hid ((S.upd p.key fun p => { p with bytes := p.bytes.set (x % 256) v, writes := wrap64 (p.writes + 1) }).v = S.v.poke x v) := by
    show _ = _
    rw [MS.upd_v S p.key _ (fun p => { p with bytes := p.bytes.set (x % 256) v }) (fun _ => rfl), AM.poke, MS.find_v, hf]; rfl
  have HW : Hid ((S.upd p.key fun p => { p with bytes := p.bytes.set (x % 256) v, writes := wrap64 (p.writes + 1) }).watched x = false) := by
    show _ = _
    simp [MS.upd, MS.watched, hw]
  have HBl : Hid (∀ n, Below B w (((w.drewN n).setCell ⟨p.blk, x % 256, none⟩ (.int .u8 (v : Int))).setCell ⟨p.blk, 257, none⟩ (.int .i64 (wrap64 (p.writes + 1))))) := by
    show ∀ n, _
    intro n
    exact ((below_drewN (Below.refl _ _) _).setCell hp.2.2.2.2 _).setCell hp.2.2.2.2 _
  have H := Lib.hid h
  have HF := Lib.hid hf
  have HP : Hid (p.bytes.length = 256) := hp.2.1
  clear h hf hmem hp hw hl hv
  generalize (S.upd p.key fun p => { p with bytes := p.bytes.set (x % 256) v, writes := wrap64 (p.writes + 1) }) = S2 at HM HV HW
  have HJ := Lib.hid hj
  have HI := Lib.hid hi
  clear hi hj
  go_enter Try.func38, Try.ntmps38
  go_wp2_with (first
    | (go_at_call 78; refine (page_any x _ hx H.out).mono ?_; rintro e w' ⟨rfl, n, rfl⟩; rw [HF.out]; unfold ptrOf)
    | (go_at_call 85; refine (setbyte_at (x % 256) v HI.out HJ.out (HB.out _) (pgCells_size HP.out) HN.out).mono ?_; rintro e w' ⟨rfl, rfl⟩)
    | (go_at_call 86; refine (watched_any x _ hx (HM.out _)).mono ?_; rintro e w' ⟨rfl, m, rfl⟩; rw [HW.out]))
  go_ret
  exact ⟨rfl, ⟨S2, (HM.out _).drewN _, HV.out⟩, below_drewN (HBl.out _) _⟩

theorem poke_any {B mb mm wm : Nat} {S : MS} (x v : Nat) (w : World) (hx : x < 4294967296) (hv : v < 256) (h : MemAt w B mb mm wm S) (hw : S.watch = []) :
    Calls Try.prog 38 #[.pointer (some ⟨mb, 0, none⟩), .int .u32 (x : Int), .int .u8 (v : Int)] w fun e w' => (∃ b, e = .returned (.bool b)) ∧
      (∃ S', MemAt w' B mb mm wm S' ∧ S'.v = S.v.poke x v) ∧ Below B w w' := by
  cases hf : S.find x with
  | some p => exact (poke_found x v w hx hv h hf hw).mono fun e w' he => ⟨⟨_, he.1⟩, he.2⟩
  | none => exact (poke_none x v w hx h hf).mono fun e w' he => ⟨⟨_, he.1⟩, he.2⟩
end Go.Proofs.Ytjoaenfibkgplaa
