import Derived.RangeFuncNested
import Derived.RangeFuncBound
import Derived.RangeFuncCalls
import Derived.RangeFuncLeaves
import Derived.Shelf.Abstract
import Derived.Shelf.RegionOpen
import Derived.OwnWalkIn
import Derived.TacticsInMore
import Derived.LoopNIn
import Derived.LoopIn
import Derived.Test.YtjoaenfibkgplaaM2
import Derived.BigFrameIn
namespace Go.Proofs.Ytjoaenfibkgplaa
set_option linter.unusedSimpArgs false
open Go.RowKit Go.Cq Go.Shelf
set_option linter.unusedVariables false
attribute [local go_sem] Oper.semAt_some

theorem cell_blk2 {w : World} {a : Addr} {v : Value} (h : w.cell? a = some v) : a.block < w.heap.size := by
  unfold World.cell? at h
  split at h
  · rename_i hb; exact (Array.getElem?_eq_some_iff.1 hb).1
  · cases h
abbrev U32 := { x : Nat // x < 4294967296 }
/-- What is fetched from a place on, one word behind the other. -/
inductive Fetches (S : MS) : Nat → List U32 → Prop
  | out (a : Nat) (h : 4294967296 ≤ a) : Fetches S a []
  | stop (a : Nat) (h : a < 4294967296) (hk : fetchK S a ≠ 0) : Fetches S a []
  | go (a : Nat) (x : U32) (xs : List U32) (h : a < 4294967296) (hk : fetchK S a = 0) (hx : x.1 = fetchW S a) (hr : Fetches S (a + 4) xs) : Fetches S a (x :: xs)
theorem Fetches.ex {w : World} {B mb mm wm : Nat} {S : MS} (h : MemAt w B mb mm wm S) (a : Nat) : ∃ xs, Fetches S a xs := by
  by_cases ha : a < 4294967296
  · by_cases hk : fetchK S a = 0
    · obtain ⟨xs, hx⟩ := Fetches.ex h (a + 4)
      exact ⟨⟨fetchW S a, fetchW_lt h a⟩ :: xs, .go a _ xs ha hk rfl hx⟩
    · exact ⟨[], .stop a ha hk⟩
  · exact ⟨[], .out a (by omega)⟩
termination_by 4294967296 - a

/-- 'block.words': the iterator, made. -/
theorem words_any (mb x : Nat) (w : World) : Calls Try.prog 41 #[.pointer (some ⟨mb, 0, none⟩), .int .u32 (x : Int)] w fun e w' =>
    e = .returned (.func (.func 88) #[] #[.pointer (some ⟨w.heap.size + 1, 0, none⟩), .pointer (some ⟨w.heap.size, 0, none⟩)]) ∧
      w' = (w.alloc (.cells #[.pointer (some ⟨mb, 0, none⟩)] 25 (0, 0))).alloc (.cells #[.int .u32 (x : Int)] 27 (0, 0)) := by
  have hmf : ∀ (fn : Fn) (first cap : Array Value) (w : World), (Instr.makeFunc fn first cap).run Try.prog w = .ok (.func fn first cap) w := fun _ _ _ _ => rfl
  go_enter Try.func41, Try.ntmps41
  go_wp2
  go_ret
  exact ⟨rfl, rfl⟩

/-- What a round keeps: what lay there ahead of the call, and the iterator's own variable. -/
def KeepsM (n0 mbb : Nat) (W W' : World) : Prop := Below n0 W W' ∧ W'.heap[mbb]? = W.heap[mbb]?
def WPost (xs : List U32) (J Jx : List U32 → World → Prop) (W' : World) : Prop := (∃ ys, ys = xs ∧ J ys W') ∨ (∃ pre, pre <+: xs ∧ Jx pre W')
set_option maxRecDepth 100000 in
set_option maxHeartbeats 2000000 in
theorem words_in (n : Nat) (hn : 1 ≤ n) (l pcb mbb : Nat) {B mb mm wm : Nat} {S : MS} (x : Nat) (w : World) (hx : x < 4294967296) (hM : MemAt w B mb mm wm S) (xs : List U32) (hF : Fetches S x xs) (J Jx : List U32 → World → Prop)
    (W : World) (hB : Below w.heap.size w W) (hpc : W.cell? ⟨pcb, 0, none⟩ = some (.int .u32 (x : Int))) (hmc : W.heap[mbb]? = some (.cells #[.pointer (some ⟨mb, 0, none⟩)] 25 (0, 0)))
    (hJ : AbidesFrom W.heap.size J)
    (hY : ∀ pre x W, J pre W → pre.length < xs.length → YieldAt Fence.wide (n - 1) Try.prog l #[.int .u32 (x.1 : Int)] W fun e W' =>
      (e = .returned (.bool true) ∧ J (pre ++ [x]) W' ∧ KeepsM w.heap.size mbb W W') ∨ (e = .returned (.bool false) ∧ Jx (pre ++ [x]) W'))
    (h0 : J [] W) :
    CallsIn Fence.wide n Try.prog 88 #[.func (.yield l) #[] #[], .pointer (some ⟨pcb, 0, none⟩), .pointer (some ⟨mbb, 0, none⟩)] W fun e W' => (∃ v, e = .returned v) ∧ WPost xs J Jx W' := by
  have HJ := Lib.hid hJ
  have HY := Lib.hid hY
  have HM := Lib.hid hM
  have HF := Lib.hid hF
  clear hJ hY hM hF
  refine callsIn_of_wp Try.func88 rfl trivial ?_ rfl
  simp only [Try.ntmps88, List.size_toArray, List.length_cons, List.length_nil, Nat.reduceAdd, Nat.reduceSub, Array.replicate_succ, Array.replicate_zero, List.push_toArray, List.append_toArray, List.nil_append, List.cons_append]
  gi_wp2
  gi_loopw [4] (fun p wr => ∃ (pre rest : List U32) (a : Nat), p = .int .u64 (a : Int) ∧ a < 4294967300 ∧ xs = pre ++ rest ∧ Fetches S a rest ∧ Below w.heap.size w wr ∧ wr.heap[mbb]? = some (.cells #[.pointer (some ⟨mb, 0, none⟩)] 25 (0, 0)) ∧ J pre wr)
    (fun p wr => 4294967300 - (intOf p).toNat)
  case atStart =>
    exact ⟨[], xs, x, rfl, by omega, rfl, HF.out, hB, hmc, h0⟩
  case round =>
    obtain ⟨pre, rest, a, rfl, ha, hxs, hf, hb, hm, hj⟩ := hrel
    have hmc2 := blk_cell hm 0
    have HB := Lib.hid hb
    have HMM := Lib.hid hm
    have HJJ := Lib.hid hj
    have HX := Lib.hid hxs
    clear hb hm hj hxs
    have HX0 := Lib.hid hx
    have HA2 := Lib.hid ha
    clear hx ha
    cases hf with
    | out _ h =>
      have hlt : ¬ ((a : Int) < 4294967296) := by omega
      clear h
      gi_wp2
      go_end0
      exact ⟨⟨_, rfl⟩, .inl ⟨pre, by rw [HX.out]; simp, HJJ.out⟩⟩
    | stop _ h hk =>
      have hlt : ((a : Int) < 4294967296) := by omega
      have HQ : Hid (fetchK S a = 1 ∨ fetchK S a = 4) := by
        refine Lib.hid ?_
        unfold fetchK at hk ⊢
        split
        · rename_i h4
          rw [if_pos h4] at hk
          split
          · rename_i h5
            rw [if_pos h5] at hk
            exact absurd rfl hk
          · exact .inr rfl
        · exact .inl rfl
      have HH := Lib.hid h
      clear hk h
      have hM2 := Lib.hid (HM.out.kept HB.out)
      rcases HQ.out with h1 | h1
      · have HQ1 := Lib.hid h1
        clear h1
        gi_wp2_with (first
          | (refine ⟨trivial, ?_⟩; gi_at_call 89; refine (callsIn_wide.2 (fetch_any a _ HH.out hM2.out)).mono ?_; rintro e w' ⟨rfl, m, rfl⟩; rw [HQ1.out])
          | (refine wpListIn_skip (by rfl) (by rfl) ?_))
        refine bodyPost_ret (results_none rfl _ _ _) rfl ?_
        exact ⟨⟨_, rfl⟩, .inl ⟨pre, by rw [HX.out]; simp, HJ.out pre wr _ none HJJ.out (grown_of_below (below_drewN (Below.refl _ _) m)) (fun r e => by cases e)⟩⟩
      · have HQ1 := Lib.hid h1
        clear h1
        gi_wp2_with (first
          | (refine ⟨trivial, ?_⟩; gi_at_call 89; refine (callsIn_wide.2 (fetch_any a _ HH.out hM2.out)).mono ?_; rintro e w' ⟨rfl, m, rfl⟩; rw [HQ1.out])
          | (refine wpListIn_skip (by rfl) (by rfl) ?_))
        refine bodyPost_ret (results_none rfl _ _ _) rfl ?_
        exact ⟨⟨_, rfl⟩, .inl ⟨pre, by rw [HX.out]; simp, HJ.out pre wr _ none HJJ.out (grown_of_below (below_drewN (Below.refl _ _) m)) (fun r e => by cases e)⟩⟩
    | go _ y rest' h hk hy hr =>
      have hlt : ((a : Int) < 4294967296) := by omega
      have HH := Lib.hid h
      have HK := Lib.hid hk
      have HY1 := Lib.hid hy
      have HR := Lib.hid hr
      clear hk h hy hr
      have hM2 := Lib.hid (HM.out.kept HB.out)
      have hlen : Hid (pre.length < xs.length) := by
        refine Lib.hid ?_
        rw [HX.out]; simp
      gi_wp2_with (refine ⟨trivial, ?_⟩; gi_at_call 89; refine (callsIn_wide.2 (fetch_any a _ HH.out hM2.out)).mono ?_; rintro e w' ⟨rfl, m, rfl⟩; rw [HK.out, ← HY1.out]; obtain ⟨fn, tmps, assign, body, hy, hR⟩ := HY.out pre y (wr.drewN m) (HJ.out pre wr (wr.drewN m) none HJJ.out (grown_of_below (below_drewN (Below.refl _ _) m)) (fun r e => by cases e)) hlen.out; have HRR := Lib.hid hR; clear hR)
      refine HRR.out.mono ?_
      rintro e W3 (⟨rfl, hJ3, hk3⟩ | ⟨rfl, hJx3⟩)
      · have HJ3 := Lib.hid hJ3
        have HK3 := Lib.hid hk3
        clear hJ3 hk3 hy
        gi_wp2
        go_roundw
        case rel => exact ⟨pre ++ [y], rest', a + 4, by go_num, by have := HH.out; omega, by rw [HX.out]; simp, HR.out, (below_drewN HB.out _).trans HK3.out.1, by rw [HK3.out.2]; exact HMM.out, HJ3.out⟩
        case measure => simp [intOf]; have := HH.out; omega
      · have HJ3 := Lib.hid hJx3
        clear hJx3 hy
        gi_wp2
        refine bodyPost_ret (results_none rfl _ _ _) rfl ?_
        exact ⟨⟨_, rfl⟩, .inr ⟨pre ++ [y], ⟨rest', by rw [HX.out]; simp⟩, HJ3.out⟩⟩

/-- The iterator's contract, as the law of a range over a function wants it. -/
theorem words_stops (n : Nat) (hn : 1 ≤ n) (pcb mbb : Nat) {B mb mm wm : Nat} {S : MS} (x : Nat) (w w1 : World) (hx : x < 4294967296) (hM : MemAt w B mb mm wm S) (xs : List U32) (hF : Fetches S x xs)
    (hb : Below w.heap.size w w1) (hpc : w1.cell? ⟨pcb, 0, none⟩ = some (.int .u32 (x : Int))) (hmc : w1.heap[mbb]? = some (.cells #[.pointer (some ⟨mb, 0, none⟩)] 25 (0, 0))) :
    SeqStopsK Fence.wide n Try.prog 88 #[.pointer (some ⟨pcb, 0, none⟩), .pointer (some ⟨mbb, 0, none⟩)] (fun y : U32 => #[Value.int .u32 (y.1 : Int)]) (KeepsM w.heap.size mbb) (fun ys => ys = xs) (fun pre => pre <+: xs) xs.length w1 := by
  intro l J Jx W hW hJ hJx hY h0
  refine (words_in n hn l pcb mbb x w hx hM xs hF J Jx W (hb.trans (hW.mono hb.size)) ((hW.cell (cell_blk2 hpc)).trans hpc) (blk_kept hmc hW) hJ hY h0).mono fun e W' he => ?_
  exact ⟨he.1, he.2⟩
end Go.Proofs.Ytjoaenfibkgplaa
