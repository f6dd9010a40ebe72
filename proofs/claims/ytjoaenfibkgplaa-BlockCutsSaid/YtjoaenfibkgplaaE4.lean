import Derived.Test.YtjoaenfibkgplaaE3
namespace Go.Proofs.Ytjoaenfibkgplaa
set_option linter.unusedSimpArgs false
open Go.RowKit Go.Cq
set_option linter.unusedVariables false

theorem info5u : (Try.prog.info? 5).map (fun i => (i.zero, i.size, i.bytes)) = some (some (.int .u8 0), 1, 1) := by kernel_rfl
def codeN (ys : List Nat) : List Nat := ys.flatMap putN
theorem codeN_length (ys : List Nat) : (codeN ys).length = 4 * ys.length := by
  induction ys with
  | nil => rfl
  | cons y r ih => rw [codeN, List.flatMap_cons, List.length_append]; unfold codeN at ih; rw [ih]; simp [putN]; omega
theorem codeN_step (ys : List Nat) (j : Nat) (h : j < ys.length) : codeN (ys.take (j + 1)) = cat (codeN (ys.take j)) (putN (ys.getD j 0)) := by
  unfold codeN cat
  rw [List.take_add_one, List.flatMap_append, List.getElem?_eq_getElem h]
  simp [List.getD, h]

set_option maxHeartbeats 1000000 in
/-- 'calquelaw00.Code'. -/
theorem code_any {a : Option Addr} {len cap : Nat} {ys : List Nat} (w : World) (hN : Nums w .u32 a len cap ys) (hy : ∀ y ∈ ys, y < 4294967296) (hl : len ≤ 1000) :
    Calls Try.prog 11 #[.slice a len cap] w fun e w' => ∃ v, e = .returned v ∧ w'.ownsRow w.heap.size 5 1 v (codeN ys).length (nums .u8 (codeN ys)) ∧ Below w.heap.size w w' := by
  have HM := Lib.hid hN
  have HY := Lib.hid hy
  clear hN hy
  go_enter Try.func11, Try.ntmps11
  go_wp2_with fail
  go_loopw [3, 4] (fun v i wr => ∃ j : Nat, j ≤ len ∧ i = .int .i64 j ∧ wr.ownsRow w.heap.size 5 1 v (codeN (ys.take j)).length (nums .u8 (codeN (ys.take j))) ∧ Below w.heap.size w wr) (fun _ i _ => len - (intOf i).toNat)
  case atStart => exact ⟨0, by omega, rfl, World.ownsRow_nil _ _ _ _, Below.refl _ _⟩
  case round =>
    obtain ⟨j, hj, rfl, hown, hbr⟩ := hrel
    by_cases hlt : j < len
    · obtain ⟨b, off, rfl, hbl, hc⟩ := HM.out.2.2.2 j hlt
      have hlen : j < ys.length := by rw [HM.out.1]; exact hlt
      obtain ⟨x, hxb, HXk⟩ : ∃ x : Nat, x < 4294967296 ∧ Hid (x = ys.getD j 0) := ⟨_, HY.out _ (getD_mem ys j hlen), rfl⟩
      have hc' : wr.cell? ⟨b, off + j, none⟩ = some (.int .u32 (x : Nat)) := by
        rw [HXk.out]
        exact (hbr.cell (p := ⟨b, off + j, none⟩) hbl).trans hc
      clear hc
      have hpl : (codeN (ys.take j)).length ≤ 4000 := by rw [codeN_length, List.length_take]; omega
      have HO := Lib.hid hown
      clear hown
      go_wp2_with (first
        | (go_at_call 40; refine (put_any x _ hxb).mono ?_; rintro e w2 ⟨v2, rfl, ho2, hb2⟩; obtain ⟨a3, c2, rfl, hn2⟩ := Nums.of_own (xs := putN x) ho2; have ho3 := Lib.hid (own_kept HO.out hb2))
        | (at_builtin; refine wpList_append_nums _ rfl _ _ 28 rfl w.heap.size 5 .u8 1 Try.underlying28 info5u _ (codeN (ys.take j)) rfl ho3.out _ _ _ (putN x) rfl hn2 (by have e : (putN x).length = 4 := rfl; rw [e]; exact Nat.le_trans (by omega : _ ≤ 5000) (by decide)) (by have e : (putN x).length = 4 := rfl; rw [e]; omega) (Nat.le_trans hbr.size hb2.size) ?_; intro v4 w4 ho4 hg4))
      have hb4 : Below w.heap.size w w4 := (hbr.trans (hb2.mono hbr.size)).grown hg4 (Nat.le_trans hbr.size hb2.size) (ownBlock_of_own ho3.out)
      go_roundw
      case rel => exact ⟨j + 1, by omega, by go_num, by rw [codeN_step ys j hlen, ← HXk.out]; exact ho4, hb4⟩
      case measure => simp [intOf]; omega
    · obtain rfl : j = ys.length := by rw [HM.out.1]; omega
      rw [List.take_length] at hown
      go_wp2
      go_ret
      exact ⟨_, rfl, hown, hbr⟩
end Go.Proofs.Ytjoaenfibkgplaa
