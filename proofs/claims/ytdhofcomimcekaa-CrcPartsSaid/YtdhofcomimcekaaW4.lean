import Derived.Test.YtdhofcomimcekaaW3
import Derived.Lib.SlBytesConst
namespace Go.Proofs.Ytdhofcomimcekaa
open Go.RowKit Go.Cq
set_option linter.unusedVariables false

/-- 'calqueref02.Words'. -/
theorem rwords_any (a : Option Addr) (len cap : Nat) (xs : List Nat) (w : World) (hl : len ≤ 140737488351232) (hx : ∀ x ∈ xs, x < 4294967296) (hn : Nums w .u32 a len cap xs) :
    Calls Try.prog 15 #[.slice a len cap] w fun e w' => e = .returned (.int .u32 (wordsN xs : Nat)) ∧ Below w.heap.size w w' := by
  have HX := Lib.hid hx
  clear hx
  have HN := Lib.hid hn
  clear hn
  go_enter Try.func15, Try.ntmps15
  go_wp2_with (go_at_call 12; refine (rmore_int 0 _ _ _ [] _ (by decide) (by decide) (by omega) (by simp) (Nums.nil _ _)).mono ?_; rintro e w' ⟨rfl, rfl⟩)
  go_loopw [3, 4] (fun v i wr => ∃ k st : Nat, k ≤ len ∧ i = .int .i64 k ∧ v = .int .u32 (st : Int) ∧ Hid (st = wordsN (xs.take k)) ∧ st < 4294967296 ∧ Below w.heap.size w wr) (fun _ i _ => len - (intOf i).toNat)
  case atStart => exact ⟨0, _, by omega, rfl, rfl, rfl, CrcM.more_lt _ _ (by decide) (by simp), Below.refl _ _⟩
  case round =>
    obtain ⟨k, st, hk, rfl, rfl, HS, hst, hbr⟩ := hrel
    by_cases hlt : k < len
    · obtain ⟨b, off, rfl, hbl, hc⟩ := HN.out.2.2.2 k hlt
      have hlen : k < xs.length := by rw [HN.out.1]; exact hlt
      obtain ⟨x, hxb, HXk⟩ : ∃ x : Nat, x < 4294967296 ∧ Hid (x = xs.getD k 0) := ⟨_, HX.out _ (getD_mem xs k hlen), rfl⟩
      have hc' : wr.cell? ⟨b, off + k, none⟩ = some (.int .u32 (x : Nat)) := by
        rw [HXk.out]
        exact (hbr.cell (p := ⟨b, off + k, none⟩) hbl).trans hc
      clear hc
      go_wp2_with (first
        | (go_at_call 16; refine (put_any x _ hxb).mono ?_; rintro e w2 ⟨v2, rfl, ho2, hb2⟩; obtain ⟨a2, c2, rfl, hn2⟩ := Nums.of_own ho2)
        | (go_at_call 12; refine (rmore_any st _ _ _ (be4 x) _ hst (by simp [be4]) (be4_lt x) hn2).mono ?_; rintro e w' ⟨rfl, rfl⟩))
      go_roundw
      case rel => exact ⟨k + 1, _, by omega, by go_num, rfl, by rw [wordsN_step xs k hlen, ← HS.out, ← HXk.out]; rfl, CrcM.more_lt _ _ hst (be4_lt x), hbr.trans (hb2.mono hbr.size)⟩
      case measure => simp [intOf]; omega
    · go_wp2_with fail
      go_ret
      obtain rfl : k = xs.length := by rw [HN.out.1]; omega
      refine ⟨?_, hbr⟩
      have := HS.out
      rw [List.take_length] at this
      rw [this]
      rfl

/-- 'awake': the document's example. -/
theorem awake_any (w : World) : Calls Try.prog 7 #[] w fun e w' => e = .returned (.bool true) ∧ Below w.heap.size w w' := by
  have kc := fun (w : World) (C : Array Value) (n c : Nat) => Lib.run_convert_bytes_const (P := Try.prog) w 22 5 C n c Try.underlying22 Try.underlying5
  have h1 : CrcM.more 0 [49, 50, 51, 52, 53, 54, 55, 56, 57] = 3421780262 := by decide +kernel
  have h2 : CrcM.more 0 [] = 0 := by decide +kernel
  have hm := fun (w : World) (C : Array Value) (h : C.toList = nums .u8 [49, 50, 51, 52, 53, 54, 55, 56, 57]) => Nums.new_marked w .u8 C 5 (9, 10) [49, 50, 51, 52, 53, 54, 55, 56, 57] h
  go_enter Try.func7, Try.ntmps7
  go_wp2_with (first
    | (go_at_call 10; refine (of_any _ _ _ [49, 50, 51, 52, 53, 54, 55, 56, 57] _ (by decide) (by decide) (hm _ _ rfl)).mono ?_; rintro e w1 ⟨rfl, hb1⟩; rw [h1]; clear hm)
    | (go_at_call 10; refine (of_any none 0 0 [] _ (by decide) (by simp) (Nums.nil _ _)).mono ?_; rintro e w2 ⟨rfl, hb2⟩; rw [h2]))
  go_ret
  exact ⟨rfl, (((Below.refl _ _).alloc (Nat.le_refl _) _).trans (hb1.mono (by simp))).trans (hb2.mono (by have := hb1.size; simp at this; omega))⟩
end Go.Proofs.Ytdhofcomimcekaa
