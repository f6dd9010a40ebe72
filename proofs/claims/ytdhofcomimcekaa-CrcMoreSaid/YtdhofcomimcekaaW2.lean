import Derived.Test.YtdhofcomimcekaaW1
import Derived.Test.YtdhofcomimcekaaKit
namespace Go.Proofs.Ytdhofcomimcekaa
open Go.RowKit Go.Cq
set_option linter.unusedVariables false

/-- Four bits by the table. -/
theorem nib (y : Nat) (hy : y < 4294967296) : ∃ t z : Nat, (tabs 16)[y % 16]? = some (.int .u32 (t : Int)) ∧ bits .xor .u32 ((y : Int) / 16) (t : Int) = (z : Int) ∧ z < 4294967296 ∧ Hid (z = CrcM.steps 4 y) := by
  have h16 : y % 16 < 16 := Nat.mod_lt _ (by decide)
  have ht := CrcM.steps_lt 4 (y % 16) (by omega)
  refine ⟨CrcM.steps 4 (y % 16), CrcM.steps 4 y, ?_, ?_, CrcM.steps_lt 4 y hy, rfl⟩
  · rw [tabs_get 16 _ h16]; unfold tabN; rw [if_pos h16]
  · have := u32_xor_nat (y / 16) (CrcM.steps 4 (y % 16)) (by omega) ht
    rw [CrcM.steps_table 4 y]
    exact this
theorem take_step (xs : List Nat) (k : Nat) (h : k < xs.length) (s : Nat) : CrcM.run s (xs.take (k + 1)) = CrcM.byte (CrcM.run s (xs.take k)) (xs.getD k 0) := by
  rw [List.take_add_one, CrcM.run_append]
  simp [List.getD, List.getElem?_eq_getElem h, CrcM.run]
theorem two_nibs (s x y z q : Nat) (hy : y = s ^^^ x) (hz : z = CrcM.steps 4 y) (hq : q = CrcM.steps 4 z) : q = CrcM.byte s x := by
  rw [hq, hz, hy, ← CrcM.steps_add]; rfl
theorem not_u32 (s : Nat) (h : s < 4294967296) : bits .xor .u32 IntKind.u32.max (s : Int) = ((s ^^^ CrcM.mask : Nat) : Int) := by
  have := u32_xor_nat 4294967295 s (by decide) h
  rw [Nat.xor_comm] at this
  exact this
theorem us32 : IntKind.u32.signed = false := rfl

theorem more_any (s : Nat) (a : Option Addr) (len cap : Nat) (xs : List Nat) (w : World) (hs : s < 4294967296) (hl : len ≤ 140737488351232) (hx : ∀ x ∈ xs, x < 256) (hn : Nums w .u8 a len cap xs) :
    Calls Try.prog 11 #[.int .u32 s, .slice a len cap] w fun e w' => e = .returned (.int .u32 (CrcM.more s xs : Nat)) ∧ Below w.heap.size w w' := by
  have hu := us32
  obtain ⟨s0, hs0, Hs0⟩ : ∃ s0 : Nat, bits .xor .u32 IntKind.u32.max (s : Int) = (s0 : Int) ∧ s0 < 4294967296 ∧ Hid (s0 = s ^^^ CrcM.mask) := ⟨_, not_u32 s hs, Nat.xor_lt_two_pow (n := 32) hs (by decide), rfl⟩
  obtain ⟨hs0b, Hs0⟩ := Hs0
  have HX := Lib.hid hx
  clear hx
  go_enter Try.func11, Try.ntmps11
  go_wp2_with (first | (go_at_call 17; refine (sums_any _).mono ?_; rintro e w1 ⟨rfl, hb⟩) | (refine wpList_store_row rfl 39 _ _ rfl w1.heap.size (tabs 16) rfl rfl 39 _ (heap_alloc_last w1 _) (by rw [tabs_size]; exact Try.info39) rfl (tabs_one _) ?_; rw [World.setRow_alloc_new]))
  go_loop [6, 14] (fun v i => ∃ k st : Nat, k ≤ len ∧ i = .int .i64 k ∧ v = .int .u32 (st : Int) ∧ Hid (st = CrcM.run s0 (xs.take k)) ∧ st < 4294967296) (fun _ i => len - (intOf i).toNat)
  case atStart => exact ⟨0, s0, by omega, rfl, rfl, rfl, hs0b⟩
  case round =>
    obtain ⟨k, st, hk, rfl, rfl, HS, hst⟩ := hrel
    by_cases hlt : k < len
    · obtain ⟨b, off, rfl, hbl, hc⟩ := hn.2.2.2 k hlt
      have hlen : k < xs.length := by rw [hn.1]; exact hlt
      have HN := Lib.hid hn
      clear hn
      obtain ⟨x, hxb, HXk⟩ : ∃ x : Nat, x < 256 ∧ Hid (x = xs.getD k 0) := ⟨_, HX.out _ (getD_mem xs k hlen), rfl⟩
      have hc' : (w1.alloc (.cells (tabs 16) 39)).cell? ⟨b, off + k, none⟩ = some (.int .u8 (x : Nat)) := by
        rw [World.cell?_alloc_lt _ _ _ (by have := hb.size; exact Nat.lt_of_lt_of_le hbl this), HXk.out]
        exact (hb.cell (p := ⟨b, off + k, none⟩) hbl).trans hc
      clear hc
      obtain ⟨y, hy, hyb, HY⟩ : ∃ y : Nat, bits .xor .u32 (st : Int) (x : Int) = (y : Int) ∧ y < 4294967296 ∧ Hid (y = st ^^^ x) := ⟨_, u32_xor_nat st x hst (by omega), Nat.xor_lt_two_pow (n := 32) hst (by omega), rfl⟩
      obtain ⟨t, z, ht, hz, hzb, HZ⟩ := nib y hyb
      obtain ⟨t2, q, ht2, hq, hqb, HQ⟩ := nib z hzb
      go_wp2
      go_round
      case rel => exact ⟨k + 1, q, by omega, by go_num, rfl, by rw [take_step xs k hlen, ← HS.out, ← HXk.out]; exact two_nibs _ _ _ _ _ HY.out HZ.out HQ.out, hqb⟩
      case measure => simp [intOf]; omega
    · have e1 := not_u32 st hst
      go_wp2
      go_ret
      obtain rfl : k = xs.length := by rw [hn.1]; omega
      refine ⟨?_, hb.trans ((Below.refl _ _).alloc hb.size _)⟩
      have := HS.out
      rw [List.take_length, Hs0.out] at this
      rw [CrcM.more, ← this]
      rfl


theorem more_int (s : Int) (a : Option Addr) (len cap : Nat) (xs : List Nat) (w : World) (h0 : 0 ≤ s) (hs : s < 4294967296) (hl : len ≤ 140737488351232) (hx : ∀ x ∈ xs, x < 256) (hn : Nums w .u8 a len cap xs) :
    Calls Try.prog 11 #[.int .u32 s, .slice a len cap] w fun e w' => e = .returned (.int .u32 (CrcM.more s.toNat xs : Nat)) ∧ Below w.heap.size w w' := by
  obtain ⟨n, rfl⟩ := Int.eq_ofNat_of_zero_le h0
  rw [Int.toNat_natCast]
  exact more_any n a len cap xs w (by omega) hl hx hn

/-- 'crc.Of'. -/
theorem of_any (a : Option Addr) (len cap : Nat) (xs : List Nat) (w : World) (hl : len ≤ 140737488351232) (hx : ∀ x ∈ xs, x < 256) (hn : Nums w .u8 a len cap xs) :
    Calls Try.prog 10 #[.slice a len cap] w fun e w' => e = .returned (.int .u32 (CrcM.more 0 xs : Nat)) ∧ Below w.heap.size w w' := by
  go_enter Try.func10, Try.ntmps10
  go_wp2_with (go_at_call 11; refine (more_int 0 _ _ _ xs _ (by decide) (by decide) hl hx hn).mono ?_; rintro e w1 ⟨rfl, hb⟩)
  go_ret
  exact ⟨rfl, hb⟩

/-- A number's bytes, the highest first. -/
def be4 (v : Nat) : List Nat := [v / 16777216 % 256, v / 65536 % 256, v / 256 % 256, v % 256]
theorem be4_lt (v : Nat) : ∀ x ∈ be4 v, x < 256 := by
  intro x hx
  simp only [be4, List.mem_cons, List.not_mem_nil, or_false] at hx
  omega
def wordsN (l : List Nat) : Nat := l.foldl (fun s v => CrcM.more s (be4 v)) (CrcM.more 0 [])

theorem be4_new (w : World) (t : TypeId) (x : Nat) (h : x < 4294967296) : Nums (w.alloc (.cells #[.int .u8 ((x : Int) / 16777216), .int .u8 ((x : Int) / 65536 % 256), .int .u8 ((x : Int) / 256 % 256), .int .u8 ((x : Int) % 256)] t)) .u8 (some ⟨w.heap.size, 0, none⟩) 4 4 (be4 x) := by
  refine Nums.new w .u8 _ t (be4 x) ?_
  have : x / 16777216 % 256 = x / 16777216 := by omega
  simp [nums, be4, this]
theorem wordsN_step (xs : List Nat) (k : Nat) (h : k < xs.length) : wordsN (xs.take (k + 1)) = CrcM.more (wordsN (xs.take k)) (be4 (xs.getD k 0)) := by
  rw [List.take_add_one, List.getElem?_eq_getElem h, Option.toList_some]
  unfold wordsN
  rw [List.foldl_append, List.getD, List.getElem?_eq_getElem h]
  rfl

theorem words_any (a : Option Addr) (len cap : Nat) (xs : List Nat) (w : World) (hl : len ≤ 140737488351232) (hx : ∀ x ∈ xs, x < 4294967296) (hn : Nums w .u32 a len cap xs) :
    Calls Try.prog 13 #[.slice a len cap] w fun e w' => e = .returned (.int .u32 (wordsN xs : Nat)) ∧ Below w.heap.size w w' := by
  have HX := Lib.hid hx
  clear hx
  have HN := Lib.hid hn
  clear hn
  go_enter Try.func13, Try.ntmps13
  go_wp2_with (go_at_call 10; refine (of_any _ _ _ [] _ (by omega) (by simp) (Nums.nil _ _)).mono ?_; rintro e w1 ⟨rfl, hb⟩)
  go_loopw [3, 9] (fun v i wr => ∃ k st : Nat, k ≤ len ∧ i = .int .i64 k ∧ v = .int .u32 (st : Int) ∧ Hid (st = wordsN (xs.take k)) ∧ st < 4294967296 ∧ Below w.heap.size w wr) (fun _ i _ => len - (intOf i).toNat)
  case atStart => exact ⟨0, _, by omega, rfl, rfl, rfl, CrcM.more_lt _ _ (by decide) (by simp), hb⟩
  case round =>
    obtain ⟨k, st, hk, rfl, rfl, HS, hst, hbr⟩ := hrel
    by_cases hlt : k < len
    · obtain ⟨b, off, rfl, hbl, hc⟩ := HN.out.2.2.2 k hlt
      have hlen : k < xs.length := by rw [HN.out.1]; exact hlt
      obtain ⟨x, hxb, HXk⟩ : ∃ x : Nat, x < 4294967296 ∧ Hid (x = xs.getD k 0) := ⟨_, HX.out _ (getD_mem xs k hlen), rfl⟩
      have hc' : wr.cell? ⟨b, off + k, none⟩ = some (.int .u32 (x : Nat)) := by
        rw [HXk.out]
        exact (hbr.cell (p := ⟨b, off + k, none⟩) hbl).trans hc
      clear hc
      go_wp2_with (go_at_call 11; refine (more_any st _ _ _ (be4 x) _ hst (by omega) (be4_lt x) (be4_new wr 5 x hxb)).mono ?_; rintro e w2 ⟨rfl, hb2⟩)
      go_roundw
      case rel => exact ⟨k + 1, _, by omega, by go_num, rfl, by rw [wordsN_step xs k hlen, ← HS.out, ← HXk.out]; rfl, CrcM.more_lt _ _ hst (be4_lt x), (hbr.alloc hbr.size _).trans (hb2.mono (by have := hbr.size; simp; omega))⟩
      case measure => simp [intOf]; omega
    · go_wp2_with fail
      go_ret
      obtain rfl : k = xs.length := by rw [HN.out.1]; omega
      refine ⟨?_, hbr⟩
      have := HS.out
      rw [List.take_length] at this
      rw [this]
      rfl
end Go.Proofs.Ytdhofcomimcekaa
