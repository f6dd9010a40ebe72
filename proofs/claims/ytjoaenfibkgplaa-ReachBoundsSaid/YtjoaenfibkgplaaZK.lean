/- The keys of a map with keys of 32 bits, as the library's iterator gives them. -/
import Derived.Test.YtjoaenfibkgplaaC1
import Derived.Shelf.SlIter.Collect
import Derived.Test.YtjoaenfibkgplaaZT
import Derived.Shelf.SlicesE.Clone
import Derived.Shelf.SlicesE.Compact
import Derived.Lib.SlKept
import Derived.Lib.SliceRun
import Derived.Shelf.RegionOpenPlain
namespace Go.Cq
set_option linter.unusedSimpArgs false
open Go Go.RowKit Go.Maps
abbrev encN : Nat → Value := fun x => Value.int .u32 (x : Int)
def litN : Lit → Nat
  | .int _ a => a.toNat
  | _ => 0
/-- A map's keys. -/
def keysN {H : Type} : DataW H → List Nat
  | .map es => es.map fun p => litN p.1
  | _ => []
theorem encN_inj {x y : Nat} (h : encN x = encN y) : x = y := by simp [encN] at h; omega
theorem keyOf_u32 {P : Program} {k : TypeId} (hk : P.underlying k = some (.int .u32)) {key : Value} {kl : Lit} (h : keyOf P k key = some kl) : ∃ x : Nat, key = encN x ∧ kl = .int .u32 (x : Int) ∧ x < 4294967296 := by
  cases key <;> simp [keyOf, hk, mapKey] at h
  rename_i q a
  obtain ⟨⟨rfl, hw⟩, rfl⟩ := h
  have h2 := wf_u32 a hw
  refine ⟨a.toNat, ?_, ?_, by omega⟩
  · simp [encN]; omega
  · congr 1; omega
theorem perm_keysN {H : Type} {es : List (Lit × DataW H)} (hp : es.Pairwise (fun p q => p.1 ≠ q.1)) (hk : ∀ p ∈ es, ∃ x : Nat, p.1 = .int .u32 (x : Int)) {ss : List Nat} (hnd : ss.Nodup) (hm : ∀ x : Nat, x ∈ ss ↔ has (.map es) (.int .u32 (x : Int)) = true) :
    ss.Perm (keysN (.map es)) := by
  refine (List.perm_ext_iff_of_nodup hnd ?_).2 fun x => ?_
  · show (es.map fun p => litN p.1).Nodup
    refine List.pairwise_map.2 (hp.imp_of_mem fun {p q} hp' hq' hne e => hne ?_)
    obtain ⟨a, ha⟩ := hk p hp'
    obtain ⟨b, hb⟩ := hk q hq'
    rw [ha, hb] at e ⊢
    simp only [litN, Int.toNat_natCast] at e
    rw [e]
  · rw [hm x, has_eq, List.any_eq_true]
    show _ ↔ x ∈ es.map fun p => litN p.1
    rw [List.mem_map]
    constructor
    · rintro ⟨p, hp', hs⟩
      obtain ⟨a, ha⟩ := hk p hp'
      rw [ha] at hs
      refine ⟨p, hp', ?_⟩
      rw [ha]
      simp only [Lit.sameKey, litN, Int.toNat_natCast] at hs ⊢
      simp at hs
      omega
    · rintro ⟨p, hp', rfl⟩
      obtain ⟨a, ha⟩ := hk p hp'
      exact ⟨p, hp', by rw [ha]; simp [Lit.sameKey, litN]⟩
/-- No key twice; a key is on the list just where the map has it and it is no longer to come. -/
def CollectedN {H : Type} (D0 : DataW H) (left : Lit → Bool) (ss : List Nat) : Prop := ss.Nodup ∧ ∀ x : Nat, x ∈ ss ↔ (has D0 (.int .u32 (x : Int)) = true ∧ left (.int .u32 (x : Int)) = false)
section
variable {H : Type} {D0 : DataW H} {left : Lit → Bool} {ss : List Nat}
theorem CollectedN.start (D0 : DataW H) : CollectedN D0 (has D0) [] := ⟨List.nodup_nil, fun x => by cases has D0 (.int .u32 (x : Int)) <;> simp⟩
theorem CollectedN.step (h : CollectedN D0 left ss) {x : Nat} {y : DataW H} (hlk : left (.int .u32 (x : Int)) = true) (hat : ∀ zd, D0.atKey (.int .u32 (x : Int)) zd = y) : CollectedN D0 (fun z => left z && !z.sameKey (.int .u32 (x : Int))) (ss ++ [x]) := by
  have hhas : has D0 (.int .u32 (x : Int)) = true := has_true_of_atKey hat
  have hnew : x ∉ ss := fun hx => by have := ((h.2 x).1 hx).2; rw [hlk] at this; cases this
  refine ⟨List.nodup_append.2 ⟨h.1, by simp, fun a ha b hb => by simp at hb; subst hb; exact fun e => hnew (e ▸ ha)⟩, fun y => ?_⟩
  by_cases hy : y = x
  · subst hy; simp [hhas, Lit.sameKey]
  · have hy2 : ¬ (y : Int) = (x : Int) := by omega
    simp [h.2 y, hy, hy2, Lit.sameKey]
variable {P : Program} {k : TypeId} {R : Value → Option (DataW H × List MemPlace)} {w : World} {b n : Nat}
theorem CollectedN.perm (h : CollectedN D0 left ss) (hown : w.ownsMap P k R b n D0) (K : Keyed P k) (hk : P.underlying k = some (.int .u32)) (hl : ∀ kl, left kl = false) : ss.Perm (keysN D0) := by
  obtain ⟨es, hD, hpw, _⟩ := hown.entries K
  obtain ⟨es', hD', hko⟩ := hown.keysOf
  obtain rfl : es = es' := by rw [hD] at hD'; simpa using hD'
  subst hD
  exact perm_keysN hpw (fun p hp => by obtain ⟨v, hv⟩ := hko p hp; obtain ⟨x, _, hx, _⟩ := keyOf_u32 hk hv; exact ⟨x, hx⟩) h.1 (fun x => by rw [h.2 x, hl]; simp)
end
end Go.Cq

namespace Go.Proofs.Ytjoaenfibkgplaa
open Go.RowKit Go.Cq Go.Shelf Go.Maps
set_option linter.unusedVariables false
set_option linter.unusedSimpArgs false
attribute [local go_sem] Oper.semAt_some

set_option maxRecDepth 100000 in
set_option maxHeartbeats 2000000 in
/-- The iterator of 'maps.Keys' over a map of places. -/
theorem keys1N_in {H : Type} (F : Fence) (n : Nat) (h10 : F.fn 113) (hro : F.round = none) (hn : 1 ≤ n) (l Bm b nn : Nat) (D0 : DataW H) {R : Value → Option (DataW H × List MemPlace)} (J : List Nat → World → Prop)
    (hY : ∀ pre x W, J pre W → pre.length < Maps.size D0 → YieldAt F (n - 1) Try.prog l #[encN x] W fun e W' => e = .returned (.bool true) ∧ J (pre ++ [x]) W' ∧ KeepsWalks W W')
    (W : World) (hJ : AbidesFrom W.heap.size J) (hm : W.cell? ⟨Bm, 0, none⟩ = some (.map (some b))) (hown : W.ownsMap Try.prog 27 R b nn D0) (h0 : J [] W) :
    CallsIn F n Try.prog 113 #[.func (.yield l) #[] #[], .pointer (some ⟨Bm, 0, none⟩)] W fun e W' => (∃ v, e = .returned v) ∧ ∃ ss : List Nat, ss.Perm (keysN D0) ∧ J ss W' := by
  refine callsIn_of_wp Try.func113 rfl h10 ?_ hro
  simp only [Try.ntmps113, List.size_toArray, List.length_cons, List.length_nil, Nat.reduceAdd, Nat.reduceSub, Array.replicate_succ, Array.replicate_zero, List.push_toArray, List.append_toArray, List.nil_append, List.cons_append]
  gi_wp2_with (first
    | (gi_at_range; refine wpListIn_range_own _ rfl _ 106 rfl 27 4 (int_keyed Try.underlying27) Try.underlying106 _ b nn _ rfl hown ?_; intro w0 hrg0 hg0 hs0)
    | gi_in)
  go_frame
  gi_loopw [3] (fun _ wr => ∃ (left : Lit → Bool) (cnt : Nat) (ss : List Nat), wr.ranges Try.prog 27 R b W.heap.size nn D0 left cnt ∧ ss.length + cnt ≤ Maps.size D0 ∧ CollectedN D0 left ss ∧ J ss wr)
    (fun _ wr => wr.rangeLeft b W.heap.size)
  case atStart =>
    exact ⟨_, _, [], hrg0, by simp, CollectedN.start D0, hJ [] W w0 none h0 hg0 (fun r e => by cases e)⟩
  case round =>
    obtain ⟨left, cnt, ss, hrg, hcs, hC, hJs⟩ := hrel
    gi_wp2_with (first
      | (gi_at_next; refine wpListIn_next_ranges _ rfl _ rfl 27 (int_keyed Try.underlying27) R encN id (fun key kl hk => by obtain ⟨x, hx, _⟩ := keyOf_u32 Try.underlying27 hk; exact ⟨x, hx⟩) (fun v _ _ => ⟨v, rfl⟩) b W.heap.size nn _ _ _ rfl hrg ?_ ?_)
      | gi_in)
    · intro hc0 hl0
      gi_wp2
      go_end0
      exact ⟨⟨_, rfl⟩, ss, hC.perm hown (int_keyed Try.underlying27) Try.underlying27 hl0, hJs⟩
    · intro x c kl yd yp w2 cnt2 hkey hlk hv hat hrg2 hlt hg2 hs2 hen
      obtain ⟨x', ex, rfl, _⟩ := keyOf_u32 Try.underlying27 hkey
      obtain rfl : x = x' := encN_inj ex
      have hJ2 : J ss w2 := hJ ss wr w2 (some W.heap.size) hJs hg2 (fun r e => by cases e; exact ⟨Nat.le_refl _, hrg.iter_walk⟩)
      obtain ⟨fn, tmps, assign, body, hy, hR⟩ := hY ss x w2 hJ2 (by omega)
      clear hs2
      gi_wp2
      refine hR.mono ?_
      rintro e W3 ⟨rfl, hJ3, hk3⟩
      gi_wp2
      have hrg3 := hrg2.of_walks hk3
      go_roundw
      case rel => exact ⟨_, cnt2, ss ++ [x], hrg3, by simp; omega, hC.step hlk hat, hJ3⟩
      case measure => rw [hrg3.left_eq, hrg.left_eq]; exact hlt
end Go.Proofs.Ytjoaenfibkgplaa

namespace Go.Proofs.Ytjoaenfibkgplaa
open Go.RowKit Go.Cq Go.Shelf Go.Maps
set_option linter.unusedVariables false
set_option linter.unusedSimpArgs false
attribute [local go_sem] Oper.semAt_some
theorem info27k : (Try.prog.info? 27).map (fun i => (i.zero, i.size, i.bytes)) = some (some (.int .u32 0), 1, 4) := by kernel_rfl
theorem cqkeys_gives {H : Type} (F : Fence) (n : Nat) (h10 : F.fn (113)) (hro : F.round = none) (hn : 1 ≤ n) (Bm b nn : Nat) (D0 : DataW H) {R : Value → Option (DataW H × List MemPlace)} (w : World) (hBm : Bm < w.heap.size)
    (hm : w.cell? ⟨Bm, 0, none⟩ = some (.map (some b))) (hown : w.ownsMap Try.prog (27) R b nn D0) :
    SeqGives F n Try.prog (113) #[.pointer (some ⟨Bm, 0, none⟩)] encN (fun ss => ss.Perm (keysN D0)) (Maps.size D0) w := fun l J W hW hJ hY h0 => by
  have hown' : W.ownsMap Try.prog (27) R b nn D0 := by
    have hbl := hown.lt
    obtain ⟨es, clock, hb, Ft, hs, hD⟩ := hown
    exact ⟨es, clock, (hW.block b hbl).trans hb, Ft, hs, hD⟩
  exact keys1N_in F n h10 hro hn l Bm b nn D0 J hY W hJ ((hW.cell (p := ⟨Bm, 0, none⟩) hBm).trans hm) hown' h0

def cqapAssign : Code := (Code.region 2 #[{ dst := some 5, op := Op.assign (Operand.tmp 7), type := 27, pos := "iter.go:51", after := #[], guard := none }] false)
def cqapBody : Code := (Code.block 1 (Code.region 3 #[{ dst := some 8, op := Op.load (23) (Operand.tmp 2), type := 23, pos := "iter.go:52", after := #[], guard := none }, { dst := some 9, op := Op.move (Operand.tmp 5), type := 27, pos := "iter.go:52", after := #[], guard := none }, { dst := some 10, op := Op.buildSlice (23) 1 #[(0, Operand.tmp 9)], type := 23, pos := "iter.go:52", after := #[{ on := 1, ground := Ground.data }], guard := none }, { dst := some 11, op := Op.call { callee := Callee.builtin Builtin.append, args := #[Operand.tmp 8, Operand.tmp 10], argTypes := #[23, 23] }, type := 23, pos := "iter.go:52", after := #[{ on := 0, ground := Ground.data }, { on := 2, ground := Ground.data }], guard := none }, { dst := none, op := Op.store (23) (Operand.tmp 2) (Operand.tmp 11), type := 0, pos := "iter.go:52", after := #[{ on := 3, ground := Ground.data }, { on := 3, ground := Ground.chain }, { on := 0, ground := Ground.phase }, { on := 1, ground := Ground.phase }, { on := 2, ground := Ground.phase }, { on := 3, ground := Ground.phase }], guard := none }] false))
def cqapRec (fn : FuncId) (sv : Value) (Bs D : Nat) (st : LoopState) (pend : Option Code) : Loop :=
  { state := st, pending := pend, fn, tmps := #[.slice none 0 0, sv, .pointer (some ⟨Bs, 0, none⟩), undef, .slice none 0 0, undef, sv, undef, undef, undef, undef, undef, undef], params := #[7], assign := cqapAssign, body := cqapBody, defers := D }

structure cqApAt (w0 : World) (fn : FuncId) (sv : Value) (Bs l D : Nat) (ss : List Nat) (W : World) : Prop where
  box : ∃ v, W.heap[Bs]? = some (.cells #[v] (23) (0, 0)) ∧ W.ownsRow w0.heap.size (27) 1 v ss.length (ss.map encN) ∧ (v = .slice none 0 0 ↔ ss = [])
  L : W.heap[l]? = some (.loop (cqapRec fn sv Bs D .ready none))
  K : W.heap[D]? = some (.deferred (some []))
  below : Below w0.heap.size w0 W

theorem cqap_abides (w0 : World) (fn : FuncId) (sv : Value) (Bs l D B : Nat) (hB : w0.heap.size ≤ B) : AbidesFrom B (cqApAt w0 fn sv Bs l D) := fun s W W' row h hg hrow => by
  have hrow' : ∀ r, row = some r → ∃ o : Obj, W.heap[r]? = some o ∧ o.isWalk = true := fun r e => (hrow r e).2
  obtain ⟨v, hv, hr, hn⟩ := h.box
  exact ⟨⟨v, (grownBy_keeps hg hrow' hv rfl).trans hv, ownsRow_abides_a hr hg hrow', hn⟩, (grownBy_keeps hg hrow' h.L rfl).trans h.L, (grownBy_keeps hg hrow' h.K rfl).trans h.K,
    h.below.grown hg h.below.size (fun k e => Nat.le_trans hB (hrow k e).1)⟩

set_option maxRecDepth 100000 in
set_option maxHeartbeats 2000000 in
theorem cqapYield (F : Fence) (m : Nat) (w0 : World) (fn : FuncId) (hfn : F.fn fn) (sv : Value) (Bs l D : Nat) (hBl : Bs ≠ l) (hDl : D ≠ l) (hDB : D ≠ Bs) (h0B : w0.heap.size ≤ Bs) (h0l : w0.heap.size ≤ l)
    (N : Nat) (hN : N ≤ maxLen) (hNb : N * 4 ≤ 140737488355328) (ss : List Nat) (x : Nat) (W : World) (h : cqApAt w0 fn sv Bs l D ss W) (hlen : ss.length < N) :
    YieldAt F m Try.prog l #[encN x] W fun e W' => e = .returned (.bool true) ∧ cqApAt w0 fn sv Bs l D (ss ++ [x]) W' ∧ KeepsWalks W W' := by
  have hne : (23 : Nat) ≠ 27 := by omega
  obtain ⟨i0, hi, hz0, hz1, hz2⟩ := info_parts info27k
  obtain ⟨v, hv, hrow, _⟩ := h.box
  refine ⟨fn, #[.slice none 0 0, sv, .pointer (some ⟨Bs, 0, none⟩), undef, .slice none 0 0, undef, sv, encN x, undef, undef, undef, undef, undef], cqapAssign, cqapBody, by simpa [cqapRec] using run_yield (P := Try.prog) (args := #[encN x]) h.L rfl, roundIn_of_wpIn hfn ?_⟩
  have hl : l < W.heap.size := (Array.getElem?_eq_some_iff.1 h.L).1
  have hbr := run_beginRound (P := Try.prog) h.L rfl
  obtain ⟨W2, hW2⟩ : ∃ W2, W.putObj l (.loop { cqapRec fn sv Bs D .ready none with state := .busy }) = W2 := ⟨_, rfl⟩
  rw [hW2] at hbr
  have hg2 : W.grownBy W2 (some l) := by rw [← hW2]; exact grownBy_putObj_a _ _ _
  have hk2 : KeepsWalks W W2 := by rw [← hW2]; exact KeepsWalks.putObj _ h.L rfl
  have hv2 : W2.heap[Bs]? = some (.cells #[v] (23) (0, 0)) := by rw [← hW2]; exact (World.putObj_heap_other hBl).trans hv
  have hK2 : W2.heap[D]? = some (.deferred (some [])) := by rw [← hW2]; exact (World.putObj_heap_other hDl).trans h.K
  have hL2 : W2.heap[l]? = some (.loop { cqapRec fn sv Bs D .ready none with state := .busy }) := by rw [← hW2]; exact World.putObj_heap_same hl
  have hrow2 : W2.ownsRow w0.heap.size (27) 1 v ss.length (ss.map encN) := hrow.kept hg2 (ownsRow_ne_a hrow h.L (fun cur e => by first | cases e | exact hne (Obj.cells.inj e).2.1))
  have hb2 : Below w0.heap.size w0 W2 := h.below.grown hg2 h.below.size (fun k e => by cases e; exact h0l)
  obtain ⟨hc2, hf2⟩ := cell_of_box_a hv2
  have hBlt : Bs < W2.heap.size := (Array.getElem?_eq_some_iff.1 hv2).1
  have hl2 : l < W2.heap.size := (Array.getElem?_eq_some_iff.1 hL2).1
  have hDlt : D < W2.heap.size := (Array.getElem?_eq_some_iff.1 hK2).1
  have ne_of : ∀ {j : Nat} {o : Obj}, W2.heap[j]? = some o → (∀ cur, o ≠ .cells cur (27) (0, 0)) → some j ≠ v.ownBlock := fun hj hno => by
    rcases ownsRow_ne_a hrow2 hj hno with e | e
    · rw [e]; simp
    · exact fun e' => e e'.symm
  clear hW2
  unfold cqapAssign
  gi_wp2_with gi_round_op_a
  unfold cqapBody
  gi_wp2_with (first
    | (gi_at_builtin; refine wpListIn_append_own _ rfl _ _ (23) rfl w0.heap.size (27) i0 (.int .u32 0) 1 4 Try.underlying23 hi hz0 hz1 hz2 rfl (by decide) _ _ _ rfl (hrow2.alloc _) ⟨W2.heap.size, 0, none⟩ 1 1 [encN x] rfl rfl (cell_one_new _ _ _) (by simp [Value.oneCell', encN]) (by omega) (by omega) (by have := hb2.size; simp; omega) ?_; intro v' w3 hown' hg3 hnil3
       have hv3 : w3.heap[Bs]? = some (.cells #[v] (23) (0, 0)) := (hg3.block Bs (by simp; omega) (ne_of hv2 (fun cur e => by first | cases e | exact hne (Obj.cells.inj e).2.1))).trans ((Below.heap_alloc _ _ Bs hBlt).trans hv2)
       obtain ⟨hc3, hf3⟩ := cell_of_box_a hv3
       obtain ⟨g', cap', cur', rfl, hbase', hgb', hr1, hr2, hr3, hr4⟩ : ∃ g' cap' cur', v' = .slice (some ⟨g', 0, none⟩) (ss.length + 1) cap' ∧ w0.heap.size ≤ g' ∧ w3.heap[g']? = some (.cells cur' (27) (0, 0)) ∧ ss.length + 1 ≤ cap' ∧ cap' ≤ maxLen ∧ cur'.size = cap' * 1 ∧ cur'.toList.take ((ss.length + 1) * 1) = ss.map encN ++ [encN x] := by
         rcases hown'.2 with ⟨_, h0⟩ | h'
         · exact absurd h0 (by omega)
         · exact h'
       go_frame)
    | gi_round_op_a)
  have hg3' : (W2.alloc (.cells #[encN x] (27))).grownBy w3 v.ownBlock := hg3
  have hL3 : w3.heap[l]? = some (.loop { cqapRec fn sv Bs D .ready none with state := .busy }) := (hg3'.block l (by simp; omega) (ne_of hL2 (fun cur e => by first | cases e | exact hne (Obj.cells.inj e).2.1))).trans ((Below.heap_alloc _ _ l hl2).trans hL2)
  have hK3 : w3.heap[D]? = some (.deferred (some [])) := (hg3'.block D (by simp; omega) (ne_of hK2 (fun cur e => by first | cases e | exact hne (Obj.cells.inj e).2.1))).trans ((Below.heap_alloc _ _ D hDlt).trans hK2)
  obtain ⟨w4, hw4⟩ : ∃ w4, w3.setCell ⟨Bs, 0, none⟩ (.slice (some ⟨g', 0, none⟩) (ss.length + 1) cap') = w4 := ⟨_, rfl⟩
  rw [hw4]
  have hg4 : w3.grownBy w4 (some Bs) := by rw [← hw4]; exact grownBy_setCell0_a _ _ _
  have hv4 : w4.heap[Bs]? = some (.cells #[.slice (some ⟨g', 0, none⟩) (ss.length + 1) cap'] (23) (0, 0)) := by rw [← hw4]; exact heap_setCell_box_a _ hv3
  have hL4 : w4.heap[l]? = some (.loop { cqapRec fn sv Bs D .ready none with state := .busy }) := (hg4.block l (Array.getElem?_eq_some_iff.1 hL3).1 (fun e => hBl (by cases e; rfl))).trans hL3
  have hK4 : w4.heap[D]? = some (.deferred (some [])) := (hg4.block D (Array.getElem?_eq_some_iff.1 hK3).1 (fun e => hDB (by cases e; rfl))).trans hK3
  have hrow4 := hown'.kept hg4 (ownsRow_ne_a hown' hv3 (fun cur e => by first | cases e | exact hne (Obj.cells.inj e).2.1))
  have hl4 : l < w4.heap.size := (Array.getElem?_eq_some_iff.1 hL4).1
  have hb3 : Below w0.heap.size w0 w3 := (hb2.alloc hb2.size _).grown hg3' (by have := hb2.size; simp; omega) (fun k e => (hrow2.lt k e).1)
  have hb4 : Below w0.heap.size w0 w4 := hb3.grown hg4 hb3.size (fun k e => by cases e; exact h0B)
  have hk4 : KeepsWalks W w4 := ((hk2.trans (KeepsWalks.alloc _ _)).trans (KeepsWalks.of_grownBy hg3' (ownsRow_not_walk_a (hrow2.alloc _)))).trans (by rw [← hw4]; exact KeepsWalks.setCell _ _ _)
  clear hw4
  refine ⟨_, _, run_endRound none hL4, rfl, ⟨⟨_, (World.putObj_heap_other hBl).trans hv4, ?_, by simp⟩, World.putObj_heap_same hl4, (World.putObj_heap_other hDl).trans hK4, hb4.grown (grownBy_putObj_a _ _ _) hb4.size (fun k e => by cases e; exact h0l)⟩, hk4.trans (KeepsWalks.putObj _ hL4 rfl)⟩
  have := hrow4.kept (grownBy_putObj_a w4 l (.loop { { cqapRec fn sv Bs D .ready none with state := .busy } with state := if (none : Option Code).isNone then .ready else .done, pending := none })) (ownsRow_ne_a hrow4 hL4 (fun cur e => by first | cases e | exact hne (Obj.cells.inj e).2.1))
  simpa using this


set_option maxRecDepth 100000 in
set_option maxHeartbeats 2000000 in
theorem cqappendSeq_in (F : Fence) (n : Nat) (h11 : F.fn (125)) (hro : F.round = none) (hn : 2 ≤ n) (g : Nat) (lb : Array Value) (hFg : F.fn g) (eg : ∀ args w, (callFunc g args).run Try.prog w = .ok (.enter g args) w)
    (S : List Nat → Prop) (N : Nat) (hN : N ≤ maxLen) (hNb : N * 4 ≤ 140737488355328) (w : World) (hseq : SeqGives F (n - 1) Try.prog g lb encN S N w) :
    CallsIn F n Try.prog (125) #[.slice none 0 0, .func (.func g) #[] lb] w fun e w' => ∃ (v : Value) (ss : List Nat), e = .returned v ∧ S ss ∧ w'.ownsRow w.heap.size (27) 1 v ss.length (ss.map encN) ∧ (v = .slice none 0 0 ↔ ss = []) ∧ Below w.heap.size w w' := by
  have h1 : 1 ≤ n := by omega
  have hne : (23 : Nat) ≠ 27 := by omega
  refine callsIn_of_wp_marks Try.func125 rfl h11 ?_ hro
  simp only [Try.ntmps125, List.size_toArray, List.length_cons, List.length_nil, Nat.reduceAdd, Nat.reduceSub, Array.replicate_succ, Array.replicate_zero, List.push_toArray, List.append_toArray, List.nil_append, List.cons_append]
  gi_wp2
  refine wpIn_rangeFunc ?_
  intro fn hfn
  rw [hro]
  obtain ⟨W0, hW0⟩ : ∃ W0, w.alloc (.cells #[.slice none 0 0] (23)) = W0 := ⟨_, rfl⟩
  have hs0 : W0.heap.size = w.heap.size + 1 := by rw [← hW0]; simp
  have hv0 : W0.heap[w.heap.size]? = some (.cells #[.slice none 0 0] (23) (0, 0)) := by rw [← hW0]; exact World.alloc_heap_new w _
  have hb0 : Below w.heap.size w W0 := by rw [← hW0]; exact (Below.refl _ w).alloc (Nat.le_refl _) _
  rw [hW0]
  obtain ⟨W1, hW1⟩ : ∃ W1, (W0.alloc (.deferred (some []))).alloc (.loop (cqapRec fn (.func (.func g) #[] lb) w.heap.size W0.heap.size .ready none)) = W1 := ⟨_, rfl⟩
  have hold : ∀ k, k < W0.heap.size → W1.heap[k]? = W0.heap[k]? := fun k hk => by
    rw [← hW1]; exact (Below.heap_alloc _ _ k (by simp; omega)).trans (Below.heap_alloc _ _ k hk)
  have hb1 : Below w.heap.size w W1 := by rw [← hW1]; exact (hb0.alloc hb0.size _).alloc (by have := hb0.size; simp; omega) _
  have hs1 : W1.heap.size = W0.heap.size + 2 := by rw [← hW1]; simp
  have hM : cqApAt w fn (.func (.func g) #[] lb) w.heap.size (W0.heap.size + 1) W0.heap.size [] W1 :=
    ⟨⟨_, (hold w.heap.size (by omega)).trans hv0, ⟨rfl, .inl ⟨rfl, rfl⟩⟩, by simp⟩,
     by rw [← hW1]; have := World.alloc_heap_new (W0.alloc (.deferred (some []))) (.loop (cqapRec fn (.func (.func g) #[] lb) w.heap.size W0.heap.size .ready none)); rwa [World.size_alloc] at this,
     by rw [← hW1]; exact (Below.heap_alloc _ _ _ (by simp)).trans (World.alloc_heap_new W0 _), hb1⟩
  refine ⟨W0.heap.size + 1, [{ target := .collected W0.heap.size, args := #[] }], W1, { target := .fn (.func g) lb, args := #[.func (.yield (W0.heap.size + 1)) #[] #[]] }, W1, g,
    #[.func (.yield (W0.heap.size + 1)) #[] #[]] ++ lb, W1, ?_, ?_, ?_, ?_, fun _ => h1, ?_⟩
  · rw [← hW1]; exact run_enterLoop_outer _ _ _ _ _
  · simp [resolve, go_sem]
  · intro f' hf'; simp [Target.leads] at hf'; subst hf'; exact hFg
  · simp [invoke, go_sem, eg]
  · refine (hseq (W0.heap.size + 1) (cqApAt w fn (.func (.func g) #[] lb) w.heap.size (W0.heap.size + 1) W0.heap.size) W1 hb1 (cqap_abides _ _ _ _ _ _ _ hb1.size)
      (fun pre x W hJ hl => cqapYield F (n - 1 - 1) w fn hfn _ w.heap.size (W0.heap.size + 1) W0.heap.size (by omega) (by omega) (by omega) (Nat.le_refl _) (by omega) N hN hNb pre x W hJ hl) hM).mono ?_
    rintro e W2 ⟨⟨v0, rfl⟩, ss, hS, h2⟩
    obtain ⟨v, hv, hrow, hnil⟩ := h2.box
    have hend := run_endLoop (P := Try.prog) h2.L (by simp [cqapRec])
    obtain ⟨W3, hW3⟩ : ∃ W3, W2.putObj (W0.heap.size + 1) (.loop { cqapRec fn (.func (.func g) #[] lb) w.heap.size W0.heap.size .ready none with state := .exhausted }) = W3 := ⟨_, rfl⟩
    rw [hW3] at hend
    have hg3 : W2.grownBy W3 (some (W0.heap.size + 1)) := by rw [← hW3]; exact grownBy_putObj_a _ _ _
    have hv3 : W3.heap[w.heap.size]? = some (.cells #[v] (23) (0, 0)) := by rw [← hW3]; exact (World.putObj_heap_other (by omega)).trans hv
    have hK3 : W3.heap[W0.heap.size]? = some (.deferred (some [])) := by rw [← hW3]; exact (World.putObj_heap_other (by omega)).trans h2.K
    have hrow3 := hrow.kept hg3 (ownsRow_ne_a hrow h2.L (fun cur e => by first | cases e | exact hne (Obj.cells.inj e).2.1))
    have hb3 : Below w.heap.size w W3 := h2.below.grown hg3 h2.below.size (fun k e => by cases e; omega)
    obtain ⟨hc3, hf3⟩ := cell_of_box_a hv3
    clear hW3
    refine ⟨none, W3, hend, ?_⟩
    gi_wp2
    rw [← hs0]
    refine ⟨by simp, .inl ⟨_, _, rfl, run_takeDeferred hK3, ?_⟩⟩
    exact ⟨_, results_tmp rfl _ _ _, v, ss, rfl, hS, hrow3.kept (grownBy_putObj_a _ _ _) (ownsRow_ne_a hrow3 hK3 (fun cur e => by first | cases e | exact hne (Obj.cells.inj e).2.1)), hnil, hb3.grown (grownBy_putObj_a _ _ _) hb3.size (fun k e => by cases e; omega)⟩


set_option maxHeartbeats 1000000 in
theorem cqcollect_in (F : Fence) (n : Nat) (h8 : F.fn (112)) (h11 : F.fn (125)) (hro : F.round = none) (hn : 3 ≤ n) (g : Nat) (lb : Array Value) (hFg : F.fn g) (eg : ∀ args w, (callFunc g args).run Try.prog w = .ok (.enter g args) w)
    (S : List Nat → Prop) (N : Nat) (hN : N ≤ maxLen) (hNb : N * 4 ≤ 140737488355328) (w : World) (hseq : SeqGives F (n - 1 - 1) Try.prog g lb encN S N w) :
    CallsIn F n Try.prog (112) #[.func (.func g) #[] lb] w fun e w' => ∃ (v : Value) (ss : List Nat), e = .returned v ∧ S ss ∧ w'.ownsRow w.heap.size (27) 1 v ss.length (ss.map encN) ∧ (v = .slice none 0 0 ↔ ss = []) ∧ Below w.heap.size w w' := by
  have h1 : 1 ≤ n := by omega
  have e11 : ∀ args w, (callFunc (125) args).run Try.prog w = .ok (.enter (125) args) w := enters_of Try.func125 (by kernel_rfl) rfl
  refine callsIn_of_wp Try.func112 rfl h8 ?_ hro
  simp only [Try.ntmps112, List.size_toArray, List.length_cons, List.length_nil, Nat.reduceAdd, Nat.reduceSub, Array.replicate_succ, Array.replicate_zero, List.push_toArray, List.append_toArray, List.nil_append, List.cons_append]
  gi_wp2_with (gi_at_call 125; refine (cqappendSeq_in F (n - 1) h11 hro (by omega) g lb hFg eg S N hN hNb _ hseq).mono ?_; rintro e w' ⟨v, ss, rfl, hS, hrow, hnil, hb⟩)
  go_ret
  exact ⟨v, ss, rfl, hS, hrow, hnil, hb⟩


/-- 'slices.Sorted', over whatever iterator: what it gave, sorted, in new memory. -/
theorem sorted_in (n : Nat) (hn : 4 ≤ n) (g : Nat) (lb : Array Value) (eg : ∀ args w, (callFunc g args).run Try.prog w = .ok (.enter g args) w)
    (S : List Nat → Prop) (N : Nat) (hN : N ≤ maxLen) (hNb : N * 4 ≤ 140737488355328) (w : World) (hseq : SeqGives Fence.wide (n - 1 - 1 - 1) Try.prog g lb encN S N w) :
    CallsIn Fence.wide n Try.prog 74 #[.func (.func g) #[] lb] w fun e w' => ∃ (v : Value) (ss : List Nat), e = .returned v ∧ S ss ∧
      w'.ownsRow w.heap.size 27 1 v ss.length (nums .u32 (sortN ss)) ∧ Below w.heap.size w w' := by
  have h1 : 1 ≤ n := by omega
  refine callsIn_of_wp Try.func74 rfl trivial ?_ rfl
  simp only [Try.ntmps74, List.size_toArray, List.length_cons, List.length_nil, Nat.reduceAdd, Nat.reduceSub, Array.replicate_succ, Array.replicate_zero, List.push_toArray, List.append_toArray, List.nil_append, List.cons_append]
  gi_wp2_with (refine ⟨trivial, ?_⟩; gi_at_call 112; refine (cqcollect_in Fence.wide (n - 1) trivial trivial rfl (by omega) g lb trivial eg _ N hN hNb _ hseq.bounded).mono ?_; rintro e W ⟨v, ss, rfl, ⟨hS, hlen⟩, hrow, hnil, hb⟩)
  have hrow2 : W.ownsRow w.heap.size 27 1 v ss.length (nums .u32 ss) := hrow
  have HR := Lib.hid hrow2
  have HB := Lib.hid hb
  have HL := Lib.hid hlen
  have HN := Lib.hid hNb
  clear hrow hrow2 hb hlen hN hNb hseq
  gi_wp2_with (refine ⟨trivial, ?_⟩; gi_at_call 110; refine (callsIn_wide.2 (sort_own HR.out (by have := HL.out; have := HN.out; omega))).mono ?_; rintro e w' ⟨rfl, h2, h3⟩)
  go_ret
  exact ⟨v, ss, rfl, hS, h2, HB.out.grown h3 HB.out.size (fun k e => ownBlock_of_own HR.out k e)⟩
end Go.Proofs.Ytjoaenfibkgplaa

namespace Go.Cq
set_option linter.unusedSimpArgs false
open Go Go.RowKit Go.Maps
/-- Block b is a map with such entries. -/
def MapC (w : World) (b : Nat) (L : List (Nat × Value)) : Prop := ∃ es c, w.heap[b]? = some (.map es c) ∧ Ents es L ∧ MapKept.Stamped es c
theorem MapC.made (w : World) : MapC (w.alloc (.map #[] 0)) w.heap.size [] := ⟨#[], 0, heap_alloc_new w _, rfl, by simp [MapKept.Stamped]⟩
theorem MapC.lt {w : World} {b : Nat} {L : List (Nat × Value)} (h : MapC w b L) : b < w.heap.size := by
  obtain ⟨es, c, h1, _⟩ := h
  exact (Array.getElem?_eq_some_iff.1 h1).1
theorem MapC.grown {w w' : World} {row : Option Nat} {b : Nat} {L : List (Nat × Value)} (h : MapC w b L) (hg : w.grownBy w' row) (hne : some b ≠ row) : MapC w' b L := by
  have hl := h.lt
  obtain ⟨es, c, h1, h2⟩ := h
  exact ⟨es, c, (hg.block b hl hne).trans h1, h2⟩
theorem MapC.kept {w w' : World} {b B : Nat} {L : List (Nat × Value)} (h : MapC w b L) (hb : Below B w w') (hB : b < B) : MapC w' b L := by
  obtain ⟨es, c, h1, h2⟩ := h
  exact ⟨es, c, (hb.block b hB).trans h1, h2⟩
theorem MapC.lookup_ok {P : Program} {w : World} {t kt et : TypeId} {b : Nat} {L : List (Nat × Value)} {k : Nat} {z : Value} (hm : P.underlying t = some (.map kt et)) (hk : P.underlying kt = some (.int .u32))
    (hz : ∀ w, (zeroValue et).run P w = .ok z w) (h : MapC w b L) :
    (Instr.lookup t (.map (some b)) (.int .u32 (k : Int)) true).run P w = .ok (.tuple #[((aFind k L 0).map (·.2)).getD z, .bool (aFind k L 0).isSome]) w := by
  obtain ⟨es, c, hb, hE, _⟩ := h
  have hc : ∀ e, (Instr.checkKey e 10000 kt (.int .u32 (k : Int))).run P w = .ok () w := fun e => MapKept.run_checkKey (k := .int .u32 (k : Int)) hk (by simp [MapKept.IsKey]) e 9999
  have hf := MapKept.run_findKey (P := P) (w := w) hk (findNow_u32 k es.toList L 0 hE)
  simp [Instr.lookup, run_underlying hm, MapKept.run_getObj_map hb, hc, hf, Result.andThen]
  cases h : aFind k L 0 with
  | none => simp [hz, Result.andThen]
  | some r => obtain ⟨i, v⟩ := r; simp [Result.andThen]
theorem MapC.lookup {P : Program} {w : World} {t kt et : TypeId} {b : Nat} {L : List (Nat × Value)} {k : Nat} {z : Value} (hm : P.underlying t = some (.map kt et)) (hk : P.underlying kt = some (.int .u32))
    (hz : ∀ w, (zeroValue et).run P w = .ok z w) (h : MapC w b L) :
    (Instr.lookup t (.map (some b)) (.int .u32 (k : Int)) false).run P w = .ok (((aFind k L 0).map (·.2)).getD z) w := by
  obtain ⟨es, c, hb, hE, _⟩ := h
  exact run_lookup_u32 hm hk hz hb hE
theorem MapC.len {P : Program} {w : World} {t kt et : TypeId} {b : Nat} {L : List (Nat × Value)} (h : MapC w b L) (ht : P.underlying t = some (.map kt et)) (ty : TypeId) : (Builtin.len_ #[t] ty #[.map (some b)]).run P w = .ok (.int .i64 (L.length : Int)) w := by
  obtain ⟨es, c, hb, hE, _⟩ := h
  have e1 : es.size = L.length := by
    have := congrArg List.length hE
    simpa using this
  simp [Builtin.len_, run_underlying ht, MapKept.run_getObj_map hb, goInt, Result.andThen, e1]
theorem aFind_none {k : Nat} {L : List (Nat × Value)} {i : Nat} (h : aFind k L i = none) : ∀ p ∈ L, p.1 ≠ k := by
  induction L generalizing i with
  | nil => simp
  | cons p r ih =>
    rw [aFind] at h
    split at h
    · simp at h
    · rename_i e
      intro q hq
      rcases List.mem_cons.1 hq with rfl | hq
      · exact e
      · exact ih h q hq
theorem MapC.update {P : Program} {w : World} {t kt et : TypeId} {b : Nat} {L : List (Nat × Value)} {k : Nat} {v : Value} (hm : P.underlying t = some (.map kt et)) (hk : P.underlying kt = some (.int .u32)) (h : MapC w b L) :
    ∃ w', (Instr.mapUpdate t (.map (some b)) (.int .u32 (k : Int)) v).run P w = .ok () w' ∧ MapC w' b (aSet k v L) ∧ w.grownBy w' (some b) := by
  have hlt := h.lt
  obtain ⟨es, c, hb, hE, hS1, hS2, hS3⟩ := h
  have hc : ∀ e, (Instr.checkKey e 10000 kt (.int .u32 (k : Int))).run P w = .ok () w := fun e => MapKept.run_checkKey (k := .int .u32 (k : Int)) hk (by simp [MapKept.IsKey]) e 9999
  have hf := MapKept.run_findKey (P := P) (w := w) hk (findNow_u32 k es.toList L 0 hE)
  have hgr : ∀ o : Obj, w.grownBy { w with heap := w.heap.setIfInBounds b o } (some b) := fun o => ⟨rfl, rfl, rfl, by simp, fun j hj hne => by
    show (w.heap.setIfInBounds b o)[j]? = _
    rw [Array.getElem?_setIfInBounds, if_neg (fun e => hne (by rw [e]))]⟩
  cases h : aFind k L 0 with
  | none =>
    rw [h] at hf
    refine ⟨{ w with heap := w.heap.setIfInBounds b (.map (es.push { key := .int .u32 (k : Int), val := v, born := c }) (c + 1)) }, ?_, ⟨es.push { key := .int .u32 (k : Int), val := v, born := c }, c + 1, by simp [hlt], ?_, ?_⟩, hgr _⟩
    · simp [Instr.mapUpdate, run_underlying hm, MapKept.run_getObj_map hb, hc, hf, MapKept.run_setObj_map _ hb, Result.andThen]
    · rw [aSet_miss h]
      unfold Ents at hE ⊢
      simp [hE]
    · refine ⟨?_, ?_, ?_⟩
      · intro x hx
        simp only [Array.toList_push, List.mem_append, List.mem_singleton] at hx
        rcases hx with hx | rfl
        · exact Nat.lt_succ_of_lt (hS1 x hx)
        · exact Nat.lt_succ_self _
      · rw [Array.toList_push, List.map_append, List.nodup_append]
        refine ⟨hS2, by simp, ?_⟩
        intro a ha b2 hb2 e
        simp only [List.map_cons, List.map_nil, List.mem_singleton] at hb2
        obtain ⟨x, hx, rfl⟩ := List.mem_map.1 ha
        have := hS1 x hx
        omega
      · rw [Array.toList_push, List.map_append, List.nodup_append]
        refine ⟨hS3, by simp, ?_⟩
        intro a ha b2 hb2 e
        simp only [List.map_cons, List.map_nil, List.mem_singleton] at hb2
        obtain ⟨x, hx, rfl⟩ := List.mem_map.1 ha
        have h1 : (x.key, x.val) ∈ L.map fun p => (Value.int .u32 (p.1 : Int), p.2) := by rw [← hE]; exact List.mem_map.2 ⟨x, hx, rfl⟩
        obtain ⟨p, hp, hpe⟩ := List.mem_map.1 h1
        have h2 := aFind_none h p hp
        simp only [Prod.mk.injEq] at hpe
        rw [← hpe.1, hb2] at e
        simp only [Value.int.injEq, true_and] at e
        omega
  | some r =>
    obtain ⟨i, u⟩ := r
    rw [h] at hf
    have hg := (aFind_get h).2
    rw [Nat.sub_zero] at hg
    have hi : es.toList[i]?.map (fun e => (e.key, e.val)) = some (.int .u32 (k : Int), u) := by
      rw [← List.getElem?_map, hE, List.getElem?_map, hg]; rfl
    obtain ⟨e, he, hee⟩ := Option.map_eq_some_iff.1 hi
    simp only [Prod.mk.injEq] at hee
    have he2 : es[i]? = some e := by simpa using he
    have hst : (Instr.keyThatStays (.int .u32 (k : Int)) (.int .u32 (k : Int))).run P w = .ok (.int .u32 (k : Int)) w := by
      simp [Instr.keyThatStays, Instr.sameBits]
    refine ⟨{ w with heap := w.heap.setIfInBounds b (.map (es.modify i fun e => { e with key := .int .u32 (k : Int), val := v }) c) }, ?_, ⟨es.modify i fun e => { e with key := .int .u32 (k : Int), val := v }, c, by simp [hlt], ?_, ?_⟩, hgr _⟩
    · simp [Instr.mapUpdate, run_underlying hm, MapKept.run_getObj_map hb, hc, hf, MapKept.run_setObj_map _ hb, Result.andThen, he2, hee.1, hst]
    · rw [aSet_hit h]
      unfold Ents at hE ⊢
      rw [Nat.sub_zero]
      apply List.ext_getElem?
      intro j
      rw [List.getElem?_map, List.getElem?_map, Array.getElem?_toList, Array.getElem?_modify, List.getElem?_set]
      have hj : es.toList[j]?.map (fun e => (e.key, e.val)) = (L[j]?).map fun p => (Value.int .u32 (p.1 : Int), p.2) := by
        rw [← List.getElem?_map, hE, List.getElem?_map]
      by_cases ej : i = j
      · subst ej
        have hlt : i < L.length := (List.getElem?_eq_some_iff.1 hg).1
        simp [he2, hlt]
      · rw [if_neg ej, if_neg ej]; simpa using hj
    · have hbo : (es.modify i fun e => { e with key := .int .u32 (k : Int), val := v }).toList.map (·.born) = es.toList.map (·.born) := by
        apply List.ext_getElem?
        intro j
        rw [List.getElem?_map, List.getElem?_map, Array.getElem?_toList, Array.getElem?_toList, Array.getElem?_modify]
        by_cases ej : i = j
        · subst ej; simp [he2]
        · rw [if_neg ej]
      have hke : (es.modify i fun e => { e with key := .int .u32 (k : Int), val := v }).toList.map (·.key) = es.toList.map (·.key) := by
        apply List.ext_getElem?
        intro j
        rw [List.getElem?_map, List.getElem?_map, Array.getElem?_toList, Array.getElem?_toList, Array.getElem?_modify]
        by_cases ej : i = j
        · subst ej; simp [he2, hee.1]
        · rw [if_neg ej]
      refine ⟨?_, by rw [hbo]; exact hS2, by rw [hke]; exact hS3⟩
      intro x hx
      have : x.born ∈ es.toList.map (·.born) := by rw [← hbo]; exact List.mem_map.2 ⟨x, hx, rfl⟩
      obtain ⟨y, hy, hye⟩ := List.mem_map.1 this
      rw [← hye]
      exact hS1 y hy
/-- A reader of values that looks at none. -/
def readAny : Value → Option (DataW Unit × List MemPlace) := fun _ => some (.lit (.bool true), [])
theorem MapC.owns {P : Program} {w : World} {kt : TypeId} {b : Nat} {L : List (Nat × Value)} (hk : P.underlying kt = some (.int .u32)) (h : MapC w b L) (hL : ∀ p ∈ L, p.1 < 4294967296) (hs : L.length ≤ maxLen) :
    ∃ D0, w.ownsMap P kt readAny b L.length D0 ∧ (keysN D0).Perm (L.map (·.1)) ∧ Maps.size D0 = L.length := by
  obtain ⟨es, c, hb, hE, hS⟩ := h
  have e1 : es.size = L.length := by
    have := congrArg List.length hE
    simpa using this
  have hrd : ∀ x ∈ es.toList, ∃ k : Nat, x.key = .int .u32 (k : Int) ∧ WideElems.rd P kt readAny x = some (.int .u32 (k : Int), .lit (.bool true)) := by
    intro x hx
    have h1 : (x.key, x.val) ∈ L.map fun p => (Value.int .u32 (p.1 : Int), p.2) := by rw [← hE]; exact List.mem_map.2 ⟨x, hx, rfl⟩
    obtain ⟨p, hp, hpe⟩ := List.mem_map.1 h1
    simp only [Prod.mk.injEq] at hpe
    have hlt := hL p hp
    refine ⟨p.1, hpe.1.symm, ?_⟩
    unfold WideElems.rd
    rw [← hpe.1]
    have hwf : (Lit.int .u32 (p.1 : Int)).wf = true := by simp [Lit.wf, IntKind.min, IntKind.max, IntKind.bits, IntKind.signed]; omega
    have : keyOf P kt (.int .u32 (p.1 : Int)) = some (.int .u32 (p.1 : Int)) := keyOf_int_mk hk hwf
    rw [this]
    rfl
  refine ⟨_, ⟨es, c, hb, ⟨by rw [e1]; exact hs, hS, fun x hx => let ⟨k, _, h⟩ := hrd x hx; ⟨_, h⟩⟩, by omega, rfl⟩, ?_, ?_⟩
  · show (((es.toList.map (WideElems.rg P kt readAny)).foldr DataW.insert []).map fun p => litN p.1).Perm _
    refine ((WideShapes.sorted_perm _).map _).trans ?_
    rw [List.map_map]
    have : es.toList.map ((fun p => litN p.1) ∘ WideElems.rg P kt readAny) = L.map (·.1) := by
      have h2 : es.toList.map ((fun p => litN p.1) ∘ WideElems.rg P kt readAny) = (es.toList.map (fun e => (e.key, e.val))).map (fun q => match q.1 with | .int _ a => a.toNat | _ => 0) := by
        rw [List.map_map]
        apply List.map_congr_left
        intro x hx
        obtain ⟨k, hk1, hk2⟩ := hrd x hx
        simp [WideElems.rg, hk2, litN, hk1]
      rw [h2, hE, List.map_map]
      apply List.map_congr_left
      intro p _
      simp
    rw [this]
  · simp [Maps.size, Go.length_sorted, e1]
theorem sortN_of_perm {l l' : List Nat} (h : l.Perm l') : Go.Proofs.Ytjoaenfibkgplaa.sortN l = Go.Proofs.Ytjoaenfibkgplaa.sortN l' := by
  have tr : ∀ a b c : Nat, decide (a ≤ b) = true → decide (b ≤ c) = true → decide (a ≤ c) = true := fun a b c h1 h2 => by simp only [decide_eq_true_eq] at *; omega
  have tot : ∀ a b : Nat, (decide (a ≤ b) || decide (b ≤ a)) = true := fun a b => by simp only [Bool.or_eq_true, decide_eq_true_eq]; omega
  refine List.Perm.eq_of_pairwise (le := fun a b => decide (a ≤ b) = true) (fun a b _ _ h1 h2 => ?_) (List.pairwise_mergeSort tr tot l) (List.pairwise_mergeSort tr tot l') (((List.mergeSort_perm l _).trans h).trans (List.mergeSort_perm l' _).symm)
  simp only [decide_eq_true_eq] at h1 h2
  omega
end Go.Cq
namespace Go.Proofs.Ytjoaenfibkgplaa
open Go.RowKit Go.Cq Go.Shelf Go.Maps
set_option linter.unusedVariables false
set_option linter.unusedSimpArgs false
/-- 'maps.Keys' of a map of places. -/
theorem keys_any (b : Nat) (w : World) : Calls Try.prog 75 #[.map (some b)] w fun e w' =>
    e = .returned (.func (.func 113) #[] #[.pointer (some ⟨w.heap.size, 0, none⟩)]) ∧ w' = w.alloc (.cells #[.map (some b)] 106 (0, 0)) := by
  have hmf : ∀ (fn : Fn) (first cap : Array Value) (w : World), (Instr.makeFunc fn first cap).run Try.prog w = .ok (.func fn first cap) w := fun _ _ _ _ => rfl
  go_enter Try.func75, Try.ntmps75
  go_wp2
  go_ret
  exact ⟨rfl, rfl⟩
/-- 'slices.Sorted(maps.Keys(m))': behind the iterator's making. -/
theorem sortedKeys_any {b : Nat} {L : List (Nat × Value)} (w : World) (h : MapC w b L) (hL : ∀ p ∈ L, p.1 < 4294967296) (hs : L.length ≤ 100000) :
    Calls Try.prog 74 #[.func (.func 113) #[] #[.pointer (some ⟨w.heap.size, 0, none⟩)]] (w.alloc (.cells #[.map (some b)] 106 (0, 0))) fun e w' => ∃ v, e = .returned v ∧
      w'.ownsRow (w.heap.size + 1) 27 1 v L.length (nums .u32 (sortN (L.map (·.1)))) ∧ Below (w.heap.size + 1) (w.alloc (.cells #[.map (some b)] 106 (0, 0))) w' := by
  have hlt := h.lt
  obtain ⟨D0, hown, hp, hsz⟩ := (h.grown (World.grownBy_alloc w (.cells #[.map (some b)] 106 (0, 0)) none) (by simp)).owns Try.underlying27 hL (by simp only [maxLen]; omega)
  have hseq : SeqGives Fence.wide 2 Try.prog 113 #[.pointer (some ⟨w.heap.size, 0, none⟩)] encN (fun ss => ss.Perm (keysN D0)) (Maps.size D0) (w.alloc (.cells #[.map (some b)] 106 (0, 0))) :=
    cqkeys_gives Fence.wide _ trivial rfl (by omega) w.heap.size b _ D0 _ (by simp) (by simp) hown
  refine (callsIn_wide (n := 5)).1 ?_
  refine (sorted_in 5 (by omega) 113 _ (enters_of Try.func113 (by kernel_rfl) rfl) _ _ (by rw [hsz]; simp only [maxLen]; omega) (by rw [hsz]; omega) _ hseq).mono ?_
  rintro e w' ⟨v, ss, rfl, hS, hrow, hb⟩
  have hpp := hS.trans hp
  have hl : ss.length = L.length := by simpa using hpp.length_eq
  refine ⟨v, rfl, ?_, ?_⟩
  · rw [← sortN_of_perm hpp, ← hl]
    simpa using hrow
  · simpa using hb
end Go.Proofs.Ytjoaenfibkgplaa

namespace Go.Proofs.Ytjoaenfibkgplaa
set_option linter.unusedSimpArgs false
open Go.RowKit Go.Cq Go.Sort Go.Shelf Go.Maps
set_option linter.unusedVariables false
def Try.laysClone_ren : Go.Shelf.Ren := ⟨fun | 41 => 108 | n => n, fun | 22 => 23 | 23 => 27 | 4 => 4 | n => n, fun | n => n⟩
theorem Try.laysClone : Go.Proofs.SlLaysE0.n41 Try.prog Try.laysClone_ren := {
  mixed := by kernel_rfl
  f41 := ⟨Try.f108.name, by decide, Try.func108.trans (congrArg some (by kernel_rfl))⟩
  t4 := Try.underlying4
  a4 := Try.isAgg4
  z4 := Try.sizeOf4
  v4 := Try.zeroValue4
  t22 := Try.underlying23
  a22 := Try.isAgg23
  z22 := Try.sizeOf23
  v22 := Try.zeroValue23 }
def Try.laysCompact_ren : Go.Shelf.Ren := ⟨fun | 43 => 111 | n => n, fun | 22 => 23 | 23 => 27 | 3 => 3 | 4 => 4 | 0 => 0 | n => n, fun | n => n⟩
theorem Try.laysCompact : Go.Proofs.SlLaysE.n43 Try.prog Try.laysCompact_ren := {
  mixed := by kernel_rfl
  f43 := ⟨Try.f111.name, by decide, Try.func111.trans (congrArg some (by kernel_rfl))⟩
  t0 := Try.underlying0
  a0 := Try.isAgg0
  z0 := Try.sizeOf0
  v0 := Try.zeroValue0
  t3 := Try.underlying3
  a3 := Try.isAgg3
  z3 := Try.sizeOf3
  v3 := Try.zeroValue3
  t4 := Try.underlying4
  a4 := Try.isAgg4
  z4 := Try.sizeOf4
  v4 := Try.zeroValue4
  t22 := Try.underlying23
  a22 := Try.isAgg23
  z22 := Try.sizeOf23
  v22 := Try.zeroValue23
  a23 := Try.isAgg27
  z23 := Try.sizeOf27 }
end Go.Proofs.Ytjoaenfibkgplaa

namespace Go.Proofs.Ytjoaenfibkgplaa
set_option linter.unusedSimpArgs false
open Go.RowKit Go.Cq Go.Sort Go.Shelf Go.Maps
set_option linter.unusedVariables false
theorem info27c : (Try.prog.info? 27).map (fun i => (i.zero, i.size, i.bytes)) = some (some (.int .u32 0), 1, 4) := by kernel_rfl
theorem cell_own {w : World} {g : Nat} {cur : Array Value} {xs : List Nat} (hg : w.heap[g]? = some (.cells cur 27 (0, 0))) (ht : cur.toList.take (xs.length * 1) = nums .u32 xs) (j : Nat) (hj : j < xs.length) :
    w.cell? ⟨g, j, none⟩ = some (.int .u32 (xs.getD j 0 : Nat)) := by
  rw [cell_of_row w g j cur 27 (0, 0) hg]
  have h2 : (cur.toList.take (xs.length * 1))[j]? = some (.int .u32 (xs.getD j 0 : Nat)) := by rw [ht]; exact nums_get .u32 xs j hj
  rw [List.getElem?_take, if_pos (by omega), Array.getElem?_toList] at h2
  exact h2
theorem clone_own {w : World} {base : Nat} {v : Value} {xs : List Nat} (h : w.ownsRow base 27 1 v xs.length (nums .u32 xs)) (hn : xs.length ≤ 100000) :
    Calls Try.prog 108 #[v] w fun e w' => ∃ v', e = .returned v' ∧ w'.ownsRow w.heap.size 27 1 v' xs.length (nums .u32 xs) ∧ Below w.heap.size w w' := by
  rcases h.2 with ⟨rfl, h0⟩ | ⟨g, cap, cur, rfl, hb, hg, hnc, hcm, hcs, ht⟩
  · refine (AnyE.slices_Clone_nil Try.laysClone _ _ w).mono ?_
    rintro e w' ⟨rfl, rfl⟩
    obtain rfl := List.eq_nil_of_length_eq_zero h0
    exact ⟨_, rfl, ⟨rfl, .inl ⟨rfl, rfl⟩⟩, Below.refl _ _⟩
  · obtain ⟨i0, hi1, hi2, hi3, hi4⟩ := info_parts info27c
    refine (AnyE.slices_Clone Try.laysClone i0 (.int .u32 0) 1 4 hi1 hi2 hi3 hi4 rfl (by omega) Try.sizeOf27 g 0 xs.length cap (nums .u32 xs) w (by rw [nums_length, Nat.mul_one]) (by simp only [maxLen]; omega) (by omega) ?_ (nums_one _ _)).mono ?_
    · intro j u hj
      have hjl : j < xs.length := by have := (List.getElem?_eq_some_iff.1 hj).1; rwa [nums_length] at this
      rw [nums_get .u32 xs j hjl] at hj
      rw [Nat.zero_add, cell_own hg ht j hjl, ← hj]
    · rintro e w' ⟨v', rfl, h1, _, h2⟩
      exact ⟨v', rfl, h1, h2⟩
theorem eql_encN : EqlAt Try.prog 27 encN (fun x y => decide (x = y)) := by
  have h := EqlAt.intD Try.prog 27 .u32
  refine ⟨fun x y w => ?_, fun op a b x y w => h.2 op a b x y w⟩
  rw [show encN x = Value.int .u32 (x : Int) from rfl, show encN y = Value.int .u32 (y : Int) from rfl, h.1]
  simp only [Int.natCast_inj]
theorem neq_encN : NeqAt Try.prog 27 encN (fun x y => decide (x = y)) := by
  have h := NeqAt.intD Try.prog 27 .u32
  refine ⟨fun x y w => ?_, fun op a b x y w => h.2 op a b x y w⟩
  rw [show encN x = Value.int .u32 (x : Int) from rfl, show encN y = Value.int .u32 (y : Int) from rfl, h.1]
  simp only [Int.natCast_inj]
theorem compact_none (cap : Nat) (w : World) : Calls Try.prog 111 #[.slice none 0 cap] w fun e w' => e = .returned (.slice none 0 cap) ∧ w' = w := by
  go_enter Try.func111, Try.ntmps111
  go_wp2
  go_ret
  exact ⟨rfl, rfl⟩
/-- Each element once that stands beside itself. -/
def compN (xs : List Nat) : List Nat := Lib.compactUpTo xs.toArray xs.toArray.size
/-- The row of a list. -/
theorem holds_own {w : World} {g : Nat} {cap : Nat} {cur : Array Value} {xs : List Nat} (hg : w.heap[g]? = some (.cells cur 27 (0, 0))) (ht : cur.toList.take (xs.length * 1) = nums .u32 xs) : Holds encN w g 0 xs.toArray := by
  intro j hj
  have hj' : j < xs.length := by simpa using hj
  refine ⟨?_, by simp [World.frozen?, hg]⟩
  rw [Nat.zero_add, cell_of_row w g j cur 27 (0, 0) hg]
  have h2 : (cur.toList.take (xs.length * 1))[j]? = some (.int .u32 (xs.getD j 0 : Nat)) := by rw [ht]; exact nums_get .u32 xs j hj'
  rw [List.getElem?_take, if_pos (by omega), Array.getElem?_toList] at h2
  rw [h2]
  simp [encN, hj', List.getD]
theorem take_put {cur : Array Value} {ys : List Nat} {n : Nat} (zs : List Nat) (h : (ys ++ zs).length ≤ cur.size) : (putCells encN 0 (ys ++ zs).toArray cur).toList.take ys.length = nums .u32 ys := by
  apply List.ext_getElem?
  intro j
  by_cases hj : j < ys.length
  · have hj2 : j < cur.size := by rw [List.length_append] at h; omega
    have hj3 : j < (ys ++ zs).length := by simp; omega
    rw [List.getElem?_take_of_lt hj, Array.getElem?_toList, nums_get _ _ _ hj]
    simp only [putCells, Array.getElem?_mapIdx, Array.getElem?_eq_getElem hj2, Option.map_some]
    simp [hj3, List.getD, hj, encN]
    rw [if_pos (by omega), List.getElem?_append_left hj]
    simp [hj]
  · rw [List.getElem?_take_eq_none (by omega), List.getElem?_eq_none (by simp [nums]; omega)]
theorem compact_own {w : World} {base : Nat} {v : Value} {xs : List Nat} (h : w.ownsRow base 27 1 v xs.length (nums .u32 xs)) (hn : xs.length ≤ 100000) :
    Calls Try.prog 111 #[v] w fun e w' => ∃ v', e = .returned v' ∧ w'.ownsRow base 27 1 v' (compN xs).length (nums .u32 (compN xs)) ∧ w.grownBy w' v.ownBlock := by
  rcases h.2 with ⟨rfl, h0⟩ | ⟨g, cap, cur, rfl, hb, hg, hnc, hcm, hcs, ht⟩
  · refine (compact_none 0 w).mono ?_
    rintro e w' ⟨rfl, rfl⟩
    obtain rfl := List.eq_nil_of_length_eq_zero h0
    exact ⟨_, rfl, h, World.grownBy.refl _ _⟩
  · have hH := holds_own (cap := cap) hg ht
    have hc := AnyE.slices_Compact Try.laysCompact encN (fun _ => rfl) eql_encN neq_encN 0 Try.zeroValue27 g 0 cap xs.toArray w hH (by simp; omega) (by simpa using hnc)
    have hs : xs.toArray.size = xs.length := by simp
    refine (show Calls Try.prog 111 _ _ _ from by rw [← hs]; exact hc).mono ?_
    rintro e w' ⟨rfl, q, rfl⟩
    have hle : (compN xs).length ≤ xs.length := by
      have := List.length_filter_le (Lib.keeps xs.toArray) (List.range xs.toArray.size)
      unfold compN Lib.compactUpTo
      simpa using this
    refine ⟨_, rfl, ⟨by rw [nums_length, Nat.mul_one], .inr ⟨g, cap, putCells encN 0 (compN xs ++ List.replicate (xs.toArray.size - (compN xs).length) 0).toArray cur, rfl, hb, ?_, by omega, hcm, ?_, ?_⟩⟩, ?_⟩
    · simp [putRow, mapBlock, Sort.ahead, Array.getElem?_modify, hg, onCells, compN]
    · simp [putCells, hcs]
    · rw [Nat.mul_one]
      exact take_put (n := 0) _ (by simp; omega)
    · refine ⟨rfl, rfl, rfl, by simp [putRow, mapBlock, Sort.ahead], fun k hk hne => ?_⟩
      have : g ≠ k := fun e => hne (by rw [e]; rfl)
      simp [putRow, mapBlock, Sort.ahead, Array.getElem?_modify, this]
end Go.Proofs.Ytjoaenfibkgplaa

namespace Go.Proofs.Ytjoaenfibkgplaa
set_option linter.unusedSimpArgs false
open Go.RowKit Go.Cq Go.Sort Go.Shelf Go.Maps Go.Lib
set_option linter.unusedVariables false
theorem SRel.setAt {w wr : World} {b off : Nat} {e : Array Int} (h : SRel w wr b off e) (i : Nat) (x : Int) (hi : i < e.size) : SRel w (wr.setCell ⟨b, off + i, none⟩ (encU x)) b off (e.setIfInBounds i x) := by
  refine ⟨⟨h.grown.os, h.grown.tape, h.grown.output, by simp only [World.setCell, Array.size_modify]; exact h.grown.size, fun k hk hne => ?_⟩, ?_⟩
  · have hkb : b ≠ k := fun c => hne (by rw [c])
    simp only [World.setCell, Array.getElem?_modify, if_neg hkb]
    exact h.grown.block k hk hne
  · rw [← putRow_set encU w b off e i x hi]
    simp only [World.setCell, Array.getElem?_modify, if_true, h.row]
theorem SRel.layAt {w wr : World} {b off : Nat} : ∀ (xs : List Int) {e : Array Int} (k : Nat), SRel w wr b off e → k + xs.length ≤ e.size → SRel w (wr.setCells b (off + k) (xs.map encU)) b off (lay e k xs)
  | [], e, k, h, _ => h
  | x :: r, e, k, h, hl => by
    have hl' : k + (r.length + 1) ≤ e.size := by simpa using hl
    have h1 := h.setAt k x (by omega)
    have h2 : SRel w _ b off _ := SRel.layAt r (k + 1) h1 (by simp; omega)
    exact h2
/-- What is asked of a predicate: it answers, whatever was made behind B. -/
def PredB (g : Nat) (lb : Array Value) (p : Nat → Bool) (B : Nat) (w : World) : Prop :=
  ∀ W, Below B w W → ∀ x : Nat, x < 4294967296 → Calls Try.prog g (#[.int .u32 (x : Int)] ++ lb) W fun e W' => e = .returned (.bool (p x)) ∧ Below W.heap.size W W'
set_option maxHeartbeats 2000000 in
theorem idx_own (g : Nat) (lb : Array Value) (p : Nat → Bool) (eg : ∀ args w, (callFunc g args).run Try.prog w = .ok (.enter g args) w) {B b cap : Nat} {xs : List Nat} {cur : Array Value} {w : World}
    (hg : w.heap[b]? = some (.cells cur 27 (0, 0))) (ht : cur.toList.take (xs.length * 1) = nums .u32 xs) (hx : ∀ x ∈ xs, x < 4294967296) (hB : B ≤ w.heap.size) (hp : PredB g lb p B w) (hn : xs.length ≤ 100000) :
    Calls Try.prog 114 #[.slice (some ⟨b, 0, none⟩) xs.length cap, .func (.func g) #[] lb] w fun e w' => Below w.heap.size w w' ∧
      ((e = .returned (.int .i64 (-1)) ∧ ∀ j, j < xs.length → p (xs.getD j 0) = false) ∨ ∃ k, k < xs.length ∧ e = .returned (.int .i64 (k : Int)) ∧ p (xs.getD k 0) = true ∧ ∀ j, j < k → p (xs.getD j 0) = false) := by
  have HG := Lib.hid hg
  have HT := Lib.hid ht
  have HX := Lib.hid hx
  have HP := Lib.hid hp
  clear hg ht hx hp
  obtain ⟨n, hl⟩ : ∃ n, xs.length = n := ⟨_, rfl⟩
  have HL := Lib.hid hl
  rw [hl] at hn
  rw [hl]
  clear hl
  go_enter Try.func114, Try.ntmps114
  go_wp2
  go_loopw [8] (fun v wr => ∃ i : Nat, v = .int .i64 (i : Int) ∧ i ≤ n ∧ Hid (Below w.heap.size w wr) ∧ Hid (∀ j, j < i → p (xs.getD j 0) = false)) (fun v _ => n - (intOf v).toNat)
  case atStart => exact ⟨0, rfl, by omega, Lib.hid (Below.refl _ _), Lib.hid (fun j hj => absurd hj (Nat.not_lt_zero _))⟩
  case round =>
    obtain ⟨i, rfl, hi, HB, HA⟩ := hrel
    by_cases hlt : i < n
    · have hlt2 : (i : Int) < (n : Int) := by omega
      have hc : wr.cell? ⟨b, i, none⟩ = some (.int .u32 (xs.getD i 0 : Nat)) := cell_own ((HB.out.block b (Array.getElem?_eq_some_iff.1 HG.out).1).trans HG.out) HT.out i (by rw [HL.out]; exact hlt)
      have hcall := HP.out wr (HB.out.mono hB) (xs.getD i 0) (HX.out _ (getD_mem xs i (by rw [HL.out]; exact hlt)))
      obtain ⟨y, hy⟩ : ∃ y, xs.getD i 0 = y := ⟨_, rfl⟩
      rw [hy] at hc hcall
      have HY := Lib.hid hy
      clear hy
      have HC := Lib.hid hcall
      clear hcall
      cases hq : p y with
      | false =>
        have HQ := Lib.hid hq
        go_wp2_with (go_at_fn g; refine HC.out.mono ?_; rw [HQ.out]; rintro e w' ⟨rfl, hb⟩)
        have HB2 := Lib.hid hb
        clear hb
        go_roundw
        case rel => exact ⟨i + 1, by go_num, by omega, Lib.hid (HB.out.trans (HB2.out.mono HB.out.size)), Lib.hid (fun j hj => by
          rcases Nat.lt_or_ge j i with h | h
          · exact HA.out j h
          · obtain rfl : j = i := by omega
            rw [HY.out]; exact HQ.out)⟩
        case measure => simp [intOf]; omega
      | true =>
        have HQ := Lib.hid hq
        go_wp2_with (go_at_fn g; refine HC.out.mono ?_; rw [HQ.out]; rintro e w' ⟨rfl, hb⟩)
        have HB2 := Lib.hid hb
        clear hb
        go_ret
        exact ⟨HB.out.trans (HB2.out.mono HB.out.size), .inr ⟨i, hlt, rfl, by rw [HY.out]; exact HQ.out, HA.out⟩⟩
    · obtain rfl : i = n := by omega
      have hlt2 : ¬ (i : Int) < (i : Int) := by omega
      go_wp2
      go_ret
      exact ⟨HB.out, .inl ⟨rfl, HA.out⟩⟩
theorem enI_get (xs : List Nat) (j : Nat) (hj : j < xs.length) : (enI xs).toArray[j]! = (xs.getD j 0 : Nat) := by
  simp [enI, List.getD, hj]
/-- What is kept, as a list. -/
def delN (p : Nat → Bool) (xs : List Nat) : List Nat := xs.filter fun x => !p x
theorem kept_delN (p : Nat → Bool) (xs : List Nat) : keptUpTo (fun j => !p (xs.getD j 0)) (enI xs).toArray (enI xs).toArray.size = enI (delN p xs) := by
  have h := keptUpTo_filter (fun x : Int => !p x.toNat) (enI xs).toArray
  have e1 : keptUpTo (fun j => !p (xs.getD j 0)) (enI xs).toArray (enI xs).toArray.size = keptUpTo (fun j => (fun x : Int => !p x.toNat) (enI xs).toArray[j]!) (enI xs).toArray (enI xs).toArray.size := by
    unfold keptUpTo
    congr 1
    apply List.filter_congr
    intro j hj
    have hj2 : j < xs.length := by simpa [enI] using hj
    simp only [enI_get xs j hj2, Int.toNat_natCast]
  rw [e1, h]
  simp only [enI, delN, List.toList_toArray, List.filter_map]
  congr 1
theorem holdsI_own {w : World} {g : Nat} {cur : Array Value} {xs : List Nat} (hg : w.heap[g]? = some (.cells cur 27 (0, 0))) (ht : cur.toList.take (xs.length * 1) = nums .u32 xs) : Holds encU w g 0 (enI xs).toArray := by
  intro j hj
  have hj' : j < xs.length := by simpa [enI] using hj
  refine ⟨?_, by simp [World.frozen?, hg]⟩
  rw [Nat.zero_add, cell_own hg ht j hj']
  simp [enI, encU, hj', List.getD]
theorem take_putI {cur : Array Value} {ys : List Nat} (zs : List Int) (h : ys.length + zs.length ≤ cur.size) : (putCells encU 0 (enI ys ++ zs).toArray cur).toList.take ys.length = nums .u32 ys := by
  apply List.ext_getElem?
  intro j
  by_cases hj : j < ys.length
  · have hj2 : j < cur.size := by omega
    have hj3 : j < (enI ys ++ zs).length := by simp [enI]; omega
    rw [List.getElem?_take_of_lt hj, Array.getElem?_toList, nums_get _ _ _ hj]
    simp only [putCells, Array.getElem?_mapIdx, Array.getElem?_eq_getElem hj2, Option.map_some]
    simp [hj3, List.getD, hj, encU]
    rw [if_pos (by simp [enI]; omega), List.getElem?_append_left (by simpa [enI] using hj)]
    simp [enI, hj]
  · rw [List.getElem?_take_eq_none (by omega), List.getElem?_eq_none (by simp [nums]; omega)]
set_option maxHeartbeats 4000000 in
set_option maxRecDepth 100000 in
theorem del_any (g : Nat) (lb : Array Value) (p : Nat → Bool) (eg : ∀ args w, (callFunc g args).run Try.prog w = .ok (.enter g args) w) {B b cap : Nat} {xs : List Nat} {cur : Array Value} {w : World}
    (hg : w.heap[b]? = some (.cells cur 27 (0, 0))) (ht : cur.toList.take (xs.length * 1) = nums .u32 xs) (hx : ∀ x ∈ xs, x < 4294967296) (hB : B ≤ b) (hp : PredB g lb p B w) (hn : xs.length ≤ 100000) (hcap : xs.length ≤ cap) :
    Calls Try.prog 76 #[.slice (some ⟨b, 0, none⟩) xs.length cap, .func (.func g) #[] lb] w fun e w' => ∃ zs : List Int, (delN p xs).length + zs.length = xs.length ∧ e = .returned (.slice (some ⟨b, 0, none⟩) (delN p xs).length cap) ∧ SRel w w' b 0 (enI (delN p xs) ++ zs).toArray := by
  have hbl : b < w.heap.size := (Array.getElem?_eq_some_iff.1 hg).1
  have hI := idx_own g lb p eg (cap := cap) hg ht hx (by omega) hp hn
  have hH := holdsI_own hg ht
  have hD := kept_delN p xs
  obtain ⟨kp, HK⟩ : ∃ kp : Nat → Bool, Hid (kp = fun j => !p (xs.getD j 0)) := ⟨_, rfl⟩
  rw [← HK.out] at hD
  obtain ⟨d, hd⟩ : ∃ d, (enI xs).toArray = d := ⟨_, rfl⟩
  have hds : d.size = xs.length := by rw [← hd]; simp [enI]
  have hdg : ∀ j, j < xs.length → d[j]! = (xs.getD j 0 : Nat) := fun j hj => by rw [← hd]; exact enI_get xs j hj
  rw [hd] at hH hD
  have HG := Lib.hid hg
  have HT := Lib.hid ht
  have HX := Lib.hid hx
  have HP := Lib.hid hp
  have HH := Lib.hid hH
  have HI := Lib.hid hI
  have HD := Lib.hid hD
  have HDG := Lib.hid hdg
  have HDS := Lib.hid hds
  obtain ⟨n, hl⟩ : ∃ n, xs.length = n := ⟨_, rfl⟩
  have HL := Lib.hid hl
  rw [hl] at hn hcap HI ⊢
  clear hg ht hx hp hH hI hD hdg hds hl hd
  go_enter Try.func76, Try.ntmps76
  go_wp2_with fail
  refine HI.out.mono ?_
  rintro e w1 ⟨hb1, ⟨rfl, hall⟩ | ⟨k0, hk0, rfl, hk1, hk2⟩⟩
  · have HB1 := Lib.hid hb1
    have HALL := Lib.hid hall
    clear hb1 hall
    go_wp2
    go_ret
    have hq : delN p xs = xs := by
      unfold delN
      rw [List.filter_eq_self]
      intro x hx
      obtain ⟨j, hj, rfl⟩ := List.mem_iff_getElem.1 hx
      have := HALL.out j (by rw [← HL.out]; exact hj)
      rw [List.getD_eq_getElem?_getD, List.getElem?_eq_getElem hj] at this
      simpa using this
    refine ⟨[], by rw [hq]; simp [HL.out], by rw [hq, HL.out]; rfl, ?_⟩
    rw [hq, List.append_nil]
    exact (SRel.refl (holdsI_own HG.out HT.out)).below HB1.out (Nat.le_refl _) hbl
  · have HB1 := Lib.hid hb1
    have hne1 : ((k0 : Int) == -1) = false := beq_eq_false_iff_ne.2 (by omega)
    have hst : KeptInv kp d (k0 + 1) k0 d := KeptInv.start (fun j hj => by rw [HK.out]; simp only []; rw [hk2 j hj]; rfl) (by rw [HK.out]; simp only []; rw [hk1]; rfl)
    have HST := Lib.hid hst
    clear hb1 hk1 hk2 hst
    go_wp2
    go_loopw [5, 6, 7] (fun s5 s6 _ wr => ∃ (i j : Nat) (dk : Array Int), s5 = .int .i64 i ∧ s6 = .int .i64 j ∧ j ≤ n ∧ Hid (SRel w wr b 0 dk) ∧ Hid (KeptInv kp d j i dk)) (fun _ s6 _ _ => n - (intOf s6).toNat)
    case atStart => exact ⟨k0, k0 + 1, d, rfl, by go_num, by omega, Lib.hid ((SRel.refl HH.out).below HB1.out (Nat.le_refl _) hbl), HST⟩
    case round =>
      obtain ⟨i, j, dk, rfl, rfl, hjn, HS, HV⟩ := hrel
      have hij : i < j := HV.out.lt
      by_cases hlt : j < n
      · have hlt2 : (j : Int) < (n : Int) := by omega
        have hHk := HS.out.holds HH.out HV.out.size
        have hds := HDS.out
        have hl := HL.out
        have cj := (hHk j (by rw [HV.out.size, hds, hl]; exact hlt)).1
        have ci := (hHk i (by rw [HV.out.size, hds, hl]; omega)).1
        have fi := (hHk i (by rw [HV.out.size, hds, hl]; omega)).2
        rw [HV.out.high j (by omega), HDG.out j (by rw [hl]; exact hlt)] at cj
        rw [Nat.zero_add] at cj ci fi
        clear hds hl
        have hbel : Below B w wr := ⟨HS.out.grown.os, HS.out.grown.tape, HS.out.grown.output, HS.out.grown.size, fun k hk => HS.out.grown.block k (by omega) (fun e => by have := Option.some.inj e; omega)⟩
        have hcall := HP.out wr hbel (xs.getD j 0) (HX.out _ (getD_mem xs j (by rw [HL.out]; exact hlt)))
        obtain ⟨y, hy⟩ : ∃ y, xs.getD j 0 = y := ⟨_, rfl⟩
        rw [hy] at cj hcall
        have HY := Lib.hid hy
        generalize encU dk[i]! = old at ci
        have HC := Lib.hid hcall
        have hdj : d[j]! = (y : Int) := by rw [HDG.out j (by rw [HL.out]; exact hlt), hy]
        have HDJ := Lib.hid hdj
        have cj' : wr.cell? ⟨b, j, none⟩ = some (.int .u32 (y : Int)) := cj
        clear hcall hy hHk hbel hdj cj
        have hisz : i < dk.size := by rw [HV.out.size, HDS.out, HL.out]; omega
        have HIS := Lib.hid hisz
        clear hisz
        have HCI := Lib.hid ci
        have HFI := Lib.hid fi
        clear ci fi
        have hbw : b < wr.heap.size := Nat.lt_of_lt_of_le hbl HS.out.grown.size
        cases hq : p y with
        | false =>
          have HQ := Lib.hid hq
          go_wp2_with (go_at_fn g; refine HC.out.mono ?_; rw [HQ.out]; rintro e w' ⟨rfl, hb⟩; have hci := (hb.cell (p := ⟨b, i, none⟩) hbw).trans HCI.out; have hfi := (hb.frozen (p := ⟨b, i, none⟩) hbw).trans HFI.out; have HB2 := Lib.hid hb; clear hb)
          go_roundw
          case rel =>
            refine ⟨i + 1, j + 1, dk.setIfInBounds i y, by go_num, by go_num, by omega, Lib.hid ?_, Lib.hid ?_⟩
            · have := ((HS.out.below HB2.out HS.out.grown.size hbl).setAt i (y : Int) HIS.out)
              rw [Nat.zero_add] at this
              exact this
            · have := HV.out.keep (by rw [HDS.out, HL.out]; exact hlt) (show kp j = true by rw [HK.out]; simp only []; rw [HY.out, HQ.out]; rfl)
              rw [HDJ.out] at this
              exact this
          case measure => simp [intOf]; omega
        | true =>
          have HQ := Lib.hid hq
          go_wp2_with (go_at_fn g; refine HC.out.mono ?_; rw [HQ.out]; rintro e w' ⟨rfl, hb⟩; have HB2 := Lib.hid hb; clear hb)
          go_roundw
          case rel => exact ⟨i, j + 1, dk, rfl, by go_num, by omega, Lib.hid (HS.out.below HB2.out HS.out.grown.size hbl), Lib.hid (HV.out.skip (by rw [HK.out]; simp only []; rw [HY.out, HQ.out]; rfl))⟩
          case measure => simp [intOf]; omega
      · obtain rfl : j = n := by omega
        have hltz : ¬ (j : Int) < (j : Int) := by omega
        have hHk := HS.out.holds HH.out HV.out.size
        have hsz : dk.size = j := by rw [HV.out.size, HDS.out, HL.out]
        have hcl : ∀ ty, (Builtin.clear_ #[23] ty #[.slice (some ⟨b, i, none⟩) (j - i) (cap - i)]).run Try.prog wr = .ok (.tuple #[]) (wr.setCells b i (List.replicate (j - i) (.int .u32 0))) :=
          fun ty => Lib.run_clear_slice wr _ _ ty _ Try.underlying23 Try.zeroValue27 rfl rfl b i _ _ (by omega) (fun t ht => by have := (hHk (i + t) (by omega)).1; rw [Nat.zero_add] at this; rw [this]; rfl) (fun t ht => by have := (hHk (i + t) (by omega)).2; rw [Nat.zero_add] at this; exact this)
        have HSZ := Lib.hid hsz
        clear hHk hsz
        go_wp2
        go_ret
        have hdj : d.size = j := by rw [HDS.out, HL.out]
        have hV : KeptInv kp d d.size i dk := by rw [hdj]; exact HV.out
        have hlen : (delN p xs).length = i := by
          have h1 := hV.len
          rw [HD.out] at h1
          simpa [enI] using h1
        refine ⟨List.replicate (j - i) 0, by rw [hlen, List.length_replicate]; omega, by rw [hlen]; rfl, ?_⟩
        have h2 := HS.out.layAt (List.replicate (j - i) 0) i (by rw [List.length_replicate, HSZ.out]; omega)
        have h3 := hV.done 0
        rw [HD.out, hdj] at h3
        rw [h3, Nat.zero_add, List.map_replicate] at h2
        exact h2
theorem idx_none (f : Value) (cap : Nat) (w : World) : Calls Try.prog 114 #[.slice none 0 cap, f] w fun e w' => e = .returned (.int .i64 (-1)) ∧ w' = w := by
  go_enter Try.func114, Try.ntmps114
  go_wp2
  go_loopw [8] (fun v wr => v = .int .i64 0 ∧ wr = w) (fun _ _ => 0)
  case atStart => exact ⟨rfl, rfl⟩
  case round =>
    obtain ⟨rfl, rfl⟩ := hrel
    go_wp2
    go_ret
    exact ⟨rfl, rfl⟩
theorem del_none (f : Value) (cap : Nat) (w : World) : Calls Try.prog 76 #[.slice none 0 cap, f] w fun e w' => e = .returned (.slice none 0 cap) ∧ w' = w := by
  go_enter Try.func76, Try.ntmps76
  go_wp2_with fail
  refine (idx_none f cap w).mono ?_
  rintro e w1 ⟨rfl, rfl⟩
  go_wp2
  go_ret
  exact ⟨rfl, rfl⟩
/-- 'slices.DeleteFunc' of a row that the call owns. -/
theorem del_own (g : Nat) (lb : Array Value) (p : Nat → Bool) (eg : ∀ args w, (callFunc g args).run Try.prog w = .ok (.enter g args) w) {B : Nat} {v : Value} {xs : List Nat} {w : World}
    (h : w.ownsRow B 27 1 v xs.length (nums .u32 xs)) (hx : ∀ x ∈ xs, x < 4294967296) (hp : PredB g lb p B w) (hn : xs.length ≤ 100000) :
    Calls Try.prog 76 #[v, .func (.func g) #[] lb] w fun e w' => ∃ v', e = .returned v' ∧ w'.ownsRow B 27 1 v' (delN p xs).length (nums .u32 (delN p xs)) ∧ w.grownBy w' v.ownBlock := by
  rcases h.2 with ⟨rfl, h0⟩ | ⟨b, cap, cur, rfl, hb, hg, hnc, hcm, hcs, ht⟩
  · refine (del_none _ 0 w).mono ?_
    rintro e w' ⟨rfl, rfl⟩
    obtain rfl := List.eq_nil_of_length_eq_zero h0
    exact ⟨_, rfl, h, World.grownBy.refl _ _⟩
  · refine (del_any g lb p eg hg ht hx hb hp hn hnc).mono ?_
    rintro e w' ⟨zs, hz, rfl, hS⟩
    refine ⟨_, rfl, ⟨by rw [nums_length, Nat.mul_one], .inr ⟨b, cap, putCells encU 0 (enI (delN p xs) ++ zs).toArray cur, rfl, hb, ?_, by omega, hcm, ?_, ?_⟩⟩, hS.grown⟩
    · rw [hS.row, putRow_block, hg]; rfl
    · simp [putCells, hcs]
    · rw [Nat.mul_one]
      exact take_putI zs (by omega)
end Go.Proofs.Ytjoaenfibkgplaa

namespace Go.Proofs.Ytjoaenfibkgplaa
set_option linter.unusedSimpArgs false
open Go.RowKit Go.Cq Go.Sort Go.Shelf Go.Maps Go.Lib
set_option linter.unusedVariables false
def odd4 (x : Nat) : Bool := decide (x % 4 ≠ 0)
theorem odd_any (x : Nat) (w : World) (hx : x < 4294967296) : Calls Try.prog 109 #[.int .u32 (x : Int)] w fun e w' => e = .returned (.bool (odd4 x)) ∧ w' = w := by
  have h4 : (x : Int).tmod 4 = ((x % 4 : Nat) : Int) := by rw [Int.tmod_eq_emod_of_nonneg (by omega)]; omega
  obtain ⟨r, hr⟩ : ∃ r, x % 4 = r := ⟨_, rfl⟩
  rw [hr] at h4
  have hr4 : r < 4 := by omega
  by_cases h0 : r = 0
  · have ho : odd4 x = false := by unfold odd4; rw [hr, h0]; rfl
    have HO := Lib.hid ho
    subst h0
    clear ho hr hr4
    go_enter Try.func109, Try.ntmps109
    go_wp2
    go_ret
    exact ⟨by rw [HO.out]; first | done | rfl, rfl⟩
  · have ho : odd4 x = true := by unfold odd4; rw [hr]; simpa using h0
    have HO := Lib.hid ho
    have hne : ¬ (r : Int) = 0 := by omega
    clear ho hr
    go_enter Try.func109, Try.ntmps109
    go_wp2
    go_ret
    exact ⟨by rw [HO.out]; simp [h0], rfl⟩
/-- What 'reach.places' answers. -/
def placesN (xs : List Nat) : List Nat := compN (sortN (delN odd4 xs))
theorem delN_le (p : Nat → Bool) (xs : List Nat) : (delN p xs).length ≤ xs.length := List.length_filter_le _ _
set_option maxHeartbeats 1000000 in
theorem places_any {base : Nat} {v : Value} {xs : List Nat} {w : World} (h : w.ownsRow base 27 1 v xs.length (nums .u32 xs)) (hx : ∀ x ∈ xs, x < 4294967296) (hn : xs.length ≤ 50000) :
    Calls Try.prog 72 #[v] w fun e w' => ∃ v', e = .returned v' ∧ w'.ownsRow w.heap.size 27 1 v' (placesN xs).length (nums .u32 (placesN xs)) ∧ Below w.heap.size w w' := by
  have hd := delN_le odd4 xs
  have HH := Lib.hid h
  have HX := Lib.hid hx
  have HDL := Lib.hid hd
  clear h hx hd
  go_enter Try.func72, Try.ntmps72
  go_wp2_with fail
  refine (clone_own HH.out (by omega)).mono ?_
  rintro e w1 ⟨v1, rfl, h1, hb1⟩
  have H1 := Lib.hid h1
  have B1 := Lib.hid hb1
  clear h1 hb1
  go_wp2_with fail
  refine (del_own 109 #[] odd4 (enters_of Try.func109 (by kernel_rfl) rfl) H1.out HX.out (fun W hW x hx => (odd_any x W hx).mono fun e W' ⟨a, b⟩ => ⟨a, by subst b; exact Below.refl _ _⟩) (by omega)).mono ?_
  rintro e w2 ⟨v2, rfl, h2, hb2⟩
  have H2 := Lib.hid h2
  have B2 := Lib.hid hb2
  clear h2 hb2
  go_wp2_with fail
  refine (sort_own H2.out (by have := HDL.out; omega)).mono ?_
  rintro e w3 ⟨rfl, h3, hb3⟩
  rw [← sortN_length] at h3
  have H3 := Lib.hid h3
  have B3 := Lib.hid hb3
  clear h3 hb3
  go_wp2_with fail
  refine (compact_own H3.out (by rw [sortN_length]; have := HDL.out; omega)).mono ?_
  rintro e w4 ⟨v4, rfl, h4, hb4⟩
  have H4 := Lib.hid h4
  have B4 := Lib.hid hb4
  clear h4 hb4
  go_wp2
  go_ret
  have b1 := B1.out
  have b2 := b1.grown B2.out b1.size (fun k e => ownBlock_of_own H1.out k e)
  have b3 := b2.grown B3.out b2.size (fun k e => ownBlock_of_own H2.out k e)
  have b4 := b3.grown B4.out b3.size (fun k e => ownBlock_of_own H3.out k e)
  exact ⟨v4, rfl, H4.out, b4⟩
end Go.Proofs.Ytjoaenfibkgplaa
