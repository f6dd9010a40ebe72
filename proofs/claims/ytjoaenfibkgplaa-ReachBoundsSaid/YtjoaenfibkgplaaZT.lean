/- How many bits a number has: the library's contract at this program (the laying was written by the kit's lay-plain.mjs). -/
import Derived.Test.YtjoaenfibkgplaaS6
import Derived.Shelf.Small.Bits
import Derived.Sort.LotD5
import Derived.Sort.Walk7
import Derived.Sort.Walk13a
import Derived.Sort.AssemblyPlain
namespace Go.Proofs.Ytjoaenfibkgplaa
set_option linter.unusedSimpArgs false
open Go.RowKit Go.Cq Go.Sort
set_option linter.unusedVariables false
theorem pe_stop {α : Type} [Inhabited α] (lt : α → α → Bool) {a i j i2 j2 : Nat} {d : Array α} (h1 : scanUp (fun x => !lt d[a]! x) d j i = i2) (h2 : scanDown (fun x => lt d[a]! x) d i2 j = j2) (h : j2 < i2) : partEqLoop lt a i j d = (i2, d) := by
  rw [partEqLoop]
  simp only [h1, h2]
  rw [if_pos h]
theorem pe_go {α : Type} [Inhabited α] (lt : α → α → Bool) {a i j i2 j2 : Nat} {d : Array α} (h1 : scanUp (fun x => !lt d[a]! x) d j i = i2) (h2 : scanDown (fun x => lt d[a]! x) d i2 j = j2) (h3 : i ≤ i2) (h : i2 < j2) (h4 : j2 ≤ j) : partEqLoop lt a i j d = partEqLoop lt a (i2 + 1) (j2 - 1) (swp d i2 j2) := by
  rw [partEqLoop]
  simp only [h1, h2]
  rw [if_neg (by omega), dif_pos (by omega)]
set_option maxHeartbeats 4000000 in
set_option maxRecDepth 100000 in
/-- 'slices.partitionEqualOrdered', at uint32. -/
theorem parteq_any (b off cap lo hi piv : Nat) (d : Array Int) (w : World) (hH : Holds encU w b off d) (hab : lo < hi) (hb : hi ≤ d.size) (hp1 : lo ≤ piv) (hp2 : piv < hi) (hsz : d.size < 1152921504606846976) :
    Calls Try.prog 135 #[.slice (some ⟨b, off, none⟩) d.size cap, .int .i64 (lo : Int), .int .i64 (hi : Int), .int .i64 (piv : Int)] w fun e w' =>
      e = .returned (.int .i64 ((partitionEqual ltInt d lo hi piv).1 : Nat)) ∧ ∃ n, w' = rowW w n b off (partitionEqual ltInt d lo hi piv).2 := by
  have HH := Lib.hid hH
  clear hH
  obtain ⟨h1, kh⟩ : ∃ h1, hi = h1 + 1 := ⟨hi - 1, by omega⟩
  have q1 : (hi : Int) - 1 = (h1 : Int) := by omega
  have hh1 : h1 < d.size ∧ lo ≤ h1 ∧ piv ≤ h1 := by omega
  have KH := Lib.hid kh
  clear kh
  go_enter Try.func135, Try.ntmps135
  go_wp2_with fail
  obtain ⟨G, hG⟩ := row_of (w := w) (b := b) (off := off) (n := 0) (e := d) (d := d) (wr := w) (rowW_self HH.out).symm rfl
  have c1 := hG.cells HH.out lo (by omega)
  have f1 := hG.free HH.out lo (by omega)
  by_cases hlp : piv = lo
  · subst hlp
    obtain ⟨e, he⟩ : ∃ e, swp d piv piv = e := ⟨_, rfl⟩
    have HE : Hid (e.size = d.size) := by refine Lib.hid ?_; rw [← he, size_swp]
    have HEE := Lib.hid he
    have HG := Lib.hid hG
    clear he hG
    go_region
    all_goals
      have hw0 := swapped HG.out 1 piv piv (by omega) (by omega)
      rw [HEE.out] at hw0
      have HW := Lib.hid hw0
      clear hw0 HG c1 f1
      go_wp2
      go_loopw [9, 10] (fun v10 v11 wr => ∃ (i j n : Nat) (e3 : Array Int), v10 = .int .i64 i ∧ v11 = .int .i64 j ∧ piv < i ∧ i ≤ j + 1 ∧ j ≤ h1 ∧ Hid (e3.size = d.size) ∧ Hid (wr = rowW w n b off e3) ∧ Hid (partEqLoop ltInt piv i j e3 = partEqLoop ltInt piv (piv + 1) h1 e)) (fun v10 v11 _ => (intOf v11 + 1 - intOf v10).toNat)
      case atStart => exact ⟨piv + 1, h1, _, _, by go_num, rfl, by omega, by omega, by omega, HE, HW, rfl⟩
      case round =>
        obtain ⟨i3, j3, n3, e3, rfl, rfl, hi3, hij3, hj3, HE3, HW3, HPL⟩ := hrel
        go_upto_block 2 with (fail)
        go_cut [9] from 29 to 45 (fun v wr => ∃ i n : Nat, v = .int .i64 i ∧ i3 ≤ i ∧ i ≤ j3 + 1 ∧ Hid (wr = rowW w n b off e3) ∧ Hid (scanUp (fun x => !ltInt e3[piv]! x) e3 j3 i3 = i) ∧ Hid (i ≤ j3 → ltInt e3[piv]! e3[i]! = true))
        case first =>
          go_wp2
          go_loopw [9] (fun v wr => ∃ i n : Nat, v = .int .i64 i ∧ i3 ≤ i ∧ i ≤ j3 + 1 ∧ Hid (wr = rowW w n b off e3) ∧ Hid (scanUp (fun x => !ltInt e3[piv]! x) e3 j3 i = scanUp (fun x => !ltInt e3[piv]! x) e3 j3 i3)) (fun v _ => j3 + 1 - (intOf v).toNat)
          case atStart => exact ⟨i3, _, rfl, by omega, by omega, HW3, rfl⟩
          case round =>
            obtain ⟨i, n, rfl, hi1, hi2, HWi, HI⟩ := hrel
            by_cases hlt : i ≤ j3
            · have i1 : (i : Int) ≤ (j3 : Int) := by omega
              obtain ⟨G, hG⟩ := row_of HWi.out HE3.out
              have c1 := hG.cells HH.out i (by omega)
              have c2 := hG.cells HH.out piv (by omega)
              have HG := Lib.hid hG
              clear hG
              go_wp2_with fail
              go_quiet ((go_at_call 134; refine (less_any _ _ _).mono ?_; rintro e0 w'' ⟨rfl, rfl⟩; exact ⟨rfl, _, rfl⟩))
              cases hl : ltInt (G piv) (G i) with
              | false =>
                have HL := Lib.hid hl
                go_wp2
                go_roundw
                case rel => exact ⟨i + 1, _, by go_num, by omega, by omega, by refine Lib.hid ?_; rw [HWi.out, rowW_drewN], by refine Lib.hid ?_; rw [← HI.out]; exact (up_go hlt (by rw [← HG.out.val, ← HG.out.val, HL.out]; first | done | rfl)).symm⟩
                case measure => simp [intOf]; omega
              | true =>
                have HL := Lib.hid hl
                go_wp2
                go_meet
                case rel => exact ⟨i, _, rfl, by omega, by omega, by refine Lib.hid ?_; rw [HWi.out, rowW_drewN], by refine Lib.hid ?_; rw [← HI.out]; exact up_stop (.inr (by rw [← HG.out.val, ← HG.out.val, HL.out]; first | done | rfl)), Lib.hid (fun _ => by rw [← HG.out.val, ← HG.out.val]; exact HL.out)⟩
            · have i1 : ¬ (i : Int) ≤ (j3 : Int) := by omega
              go_wp2_with fail
              go_quiet ((go_at_call 134; refine (less_any _ _ _).mono ?_; rintro e0 w'' ⟨rfl, rfl⟩; exact ⟨rfl, _, rfl⟩))
              go_wp2
              go_meet
              case rel => exact ⟨i, _, rfl, by omega, by omega, by refine Lib.hid ?_; rw [HWi.out, rowW_drewN], by refine Lib.hid ?_; rw [← HI.out]; exact up_stop (.inl hlt), Lib.hid (fun h => absurd h hlt)⟩
        case rest =>
          obtain ⟨i4, n4, rfl, hi4, hi5, HW4, HI4, HQ4⟩ := hcut
          go_upto_block 4 with (fail)
          go_cut [10] from 46 to 61 (fun v wr => ∃ j n : Nat, v = .int .i64 j ∧ j ≤ j3 ∧ i4 ≤ j + 1 ∧ Hid (wr = rowW w n b off e3) ∧ Hid (scanDown (fun x => ltInt e3[piv]! x) e3 i4 j3 = j) ∧ Hid (i4 ≤ j → ltInt e3[piv]! e3[j]! = false))
          case first =>
            go_wp2
            go_loopw [10] (fun v wr => ∃ j n : Nat, v = .int .i64 j ∧ j ≤ j3 ∧ i4 ≤ j + 1 ∧ Hid (wr = rowW w n b off e3) ∧ Hid (scanDown (fun x => ltInt e3[piv]! x) e3 i4 j = scanDown (fun x => ltInt e3[piv]! x) e3 i4 j3)) (fun v _ => (intOf v).toNat)
            case atStart => exact ⟨j3, _, rfl, by omega, by omega, HW4, rfl⟩
            case round =>
              obtain ⟨j, n, rfl, hj1, hj2, HWi, HI⟩ := hrel
              by_cases hlt : i4 ≤ j
              · obtain ⟨jm, kj⟩ : ∃ jm, j = jm + 1 := ⟨j - 1, by omega⟩
                have i1 : (i4 : Int) ≤ (j : Int) := by omega
                have q1 : (j : Int) - 1 = (jm : Int) := by omega
                have hjm : jm < j ∧ i4 ≤ jm + 1 := by omega
                have KJ := Lib.hid kj
                clear kj
                obtain ⟨G, hG⟩ := row_of HWi.out HE3.out
                have c1 := hG.cells HH.out j (by omega)
                have c2 := hG.cells HH.out piv (by omega)
                have HG := Lib.hid hG
                clear hG
                go_wp2_with fail
                go_quiet ((go_at_call 134; refine (less_any _ _ _).mono ?_; rintro e0 w'' ⟨rfl, rfl⟩; exact ⟨rfl, _, rfl⟩))
                cases hl : ltInt (G piv) (G j) with
                | true =>
                  have HL := Lib.hid hl
                  go_wp2
                  go_roundw
                  case rel => exact ⟨jm, _, by go_num, by omega, by omega, by refine Lib.hid ?_; rw [HWi.out, rowW_drewN], by refine Lib.hid ?_; rw [← HI.out]; exact (down_go' KJ.out hlt (by rw [← HG.out.val, ← HG.out.val, HL.out]; first | done | rfl)).symm⟩
                  case measure => simp [intOf]; omega
                | false =>
                  have HL := Lib.hid hl
                  go_wp2
                  go_meet
                  case rel => exact ⟨j, _, rfl, by omega, by omega, by refine Lib.hid ?_; rw [HWi.out, rowW_drewN], by refine Lib.hid ?_; rw [← HI.out]; exact down_stop (by omega) (.inr (by rw [← HG.out.val, ← HG.out.val, HL.out]; first | done | rfl)), Lib.hid (fun _ => by rw [← HG.out.val, ← HG.out.val]; exact HL.out)⟩
              · have i1 : ¬ (i4 : Int) ≤ (j : Int) := by omega
                go_wp2_with fail
                go_quiet ((go_at_call 134; refine (less_any _ _ _).mono ?_; rintro e0 w'' ⟨rfl, rfl⟩; exact ⟨rfl, _, rfl⟩))
                go_wp2
                go_meet
                case rel => exact ⟨j, _, rfl, by omega, by omega, by refine Lib.hid ?_; rw [HWi.out, rowW_drewN], by refine Lib.hid ?_; rw [← HI.out]; exact down_stop (by omega) (.inl hlt), Lib.hid (fun h => absurd h hlt)⟩
          case rest =>
            obtain ⟨j4, n5, rfl, hj4, hj5, HW5, HJ5, HQ5⟩ := hcut
            by_cases hij : j4 < i4
            · have g1 : (j4 : Int) < (i4 : Int) := by omega
              have HP : Hid (partitionEqual ltInt d piv hi piv = (i4, e3)) := by refine Lib.hid ?_; unfold partitionEqual; rw [HEE.out, KH.out, Nat.add_sub_cancel, ← HPL.out, pe_stop ltInt HI4.out HJ5.out hij]
              go_wp2
              go_ret
              exact ⟨by rw [HP.out]; first | done | rfl, _, by rw [HP.out]; exact HW5.out⟩
            · have hne : i4 ≠ j4 := fun h => by
                have a1 := HQ4.out (by omega)
                have a2 := HQ5.out (by omega)
                rw [h] at a1; rw [a1] at a2; cases a2
              have hlt4 : i4 < j4 := by omega
              have g1 : ¬ (j4 : Int) < (i4 : Int) := by omega
              clear hne
              obtain ⟨G, hG⟩ := row_of HW5.out HE3.out
              have c1 := hG.cells HH.out i4 (by omega)
              have f1 := hG.free HH.out i4 (by omega)
              have c2 := hG.cells HH.out j4 (by omega)
              have f2 := hG.free HH.out j4 (by omega)
              have HG := Lib.hid hG
              clear hG
              go_wp2_with fail
              go_region
              all_goals
                have hw0 := swapped HG.out 1 i4 j4 (by omega) (by omega)
                have HSW := Lib.hid hw0
                have HSE : Hid ((swp e3 i4 j4).size = d.size) := by refine Lib.hid ?_; rw [size_swp]; exact HE3.out
                clear hw0 HG c1 f1 c2 f2
                go_wp2
                go_roundw
                case rel => exact ⟨i4 + 1, j4 - 1, _, swp e3 i4 j4, by go_num, by congr 1; omega, by omega, by omega, by omega, HSE, HSW, by refine Lib.hid ?_; rw [← HPL.out]; exact (pe_go ltInt HI4.out HJ5.out (by omega) hlt4 (by omega)).symm⟩
                case measure => simp [intOf]; omega
  · have hlp2 : lo < piv := by omega
    have c2 := hG.cells HH.out piv (by omega)
    have f2 := hG.free HH.out piv (by omega)
    obtain ⟨e, he⟩ : ∃ e, swp d lo piv = e := ⟨_, rfl⟩
    have HE : Hid (e.size = d.size) := by refine Lib.hid ?_; rw [← he, size_swp]
    have HEE := Lib.hid he
    have HG := Lib.hid hG
    clear he hG
    go_region
    all_goals
      have hw0 := swapped HG.out 1 lo piv (by omega) (by omega)
      rw [HEE.out] at hw0
      have HW := Lib.hid hw0
      clear hw0 HG c1 f1 c2 f2
      go_wp2
      go_loopw [9, 10] (fun v10 v11 wr => ∃ (i j n : Nat) (e3 : Array Int), v10 = .int .i64 i ∧ v11 = .int .i64 j ∧ lo < i ∧ i ≤ j + 1 ∧ j ≤ h1 ∧ Hid (e3.size = d.size) ∧ Hid (wr = rowW w n b off e3) ∧ Hid (partEqLoop ltInt lo i j e3 = partEqLoop ltInt lo (lo + 1) h1 e)) (fun v10 v11 _ => (intOf v11 + 1 - intOf v10).toNat)
      case atStart => exact ⟨lo + 1, h1, _, _, by go_num, rfl, by omega, by omega, by omega, HE, HW, rfl⟩
      case round =>
        obtain ⟨i3, j3, n3, e3, rfl, rfl, hi3, hij3, hj3, HE3, HW3, HPL⟩ := hrel
        go_upto_block 2 with (fail)
        go_cut [9] from 29 to 45 (fun v wr => ∃ i n : Nat, v = .int .i64 i ∧ i3 ≤ i ∧ i ≤ j3 + 1 ∧ Hid (wr = rowW w n b off e3) ∧ Hid (scanUp (fun x => !ltInt e3[lo]! x) e3 j3 i3 = i) ∧ Hid (i ≤ j3 → ltInt e3[lo]! e3[i]! = true))
        case first =>
          go_wp2
          go_loopw [9] (fun v wr => ∃ i n : Nat, v = .int .i64 i ∧ i3 ≤ i ∧ i ≤ j3 + 1 ∧ Hid (wr = rowW w n b off e3) ∧ Hid (scanUp (fun x => !ltInt e3[lo]! x) e3 j3 i = scanUp (fun x => !ltInt e3[lo]! x) e3 j3 i3)) (fun v _ => j3 + 1 - (intOf v).toNat)
          case atStart => exact ⟨i3, _, rfl, by omega, by omega, HW3, rfl⟩
          case round =>
            obtain ⟨i, n, rfl, hi1, hi2, HWi, HI⟩ := hrel
            by_cases hlt : i ≤ j3
            · have i1 : (i : Int) ≤ (j3 : Int) := by omega
              obtain ⟨G, hG⟩ := row_of HWi.out HE3.out
              have c1 := hG.cells HH.out i (by omega)
              have c2 := hG.cells HH.out lo (by omega)
              have HG := Lib.hid hG
              clear hG
              go_wp2_with fail
              go_quiet ((go_at_call 134; refine (less_any _ _ _).mono ?_; rintro e0 w'' ⟨rfl, rfl⟩; exact ⟨rfl, _, rfl⟩))
              cases hl : ltInt (G lo) (G i) with
              | false =>
                have HL := Lib.hid hl
                go_wp2
                go_roundw
                case rel => exact ⟨i + 1, _, by go_num, by omega, by omega, by refine Lib.hid ?_; rw [HWi.out, rowW_drewN], by refine Lib.hid ?_; rw [← HI.out]; exact (up_go hlt (by rw [← HG.out.val, ← HG.out.val, HL.out]; first | done | rfl)).symm⟩
                case measure => simp [intOf]; omega
              | true =>
                have HL := Lib.hid hl
                go_wp2
                go_meet
                case rel => exact ⟨i, _, rfl, by omega, by omega, by refine Lib.hid ?_; rw [HWi.out, rowW_drewN], by refine Lib.hid ?_; rw [← HI.out]; exact up_stop (.inr (by rw [← HG.out.val, ← HG.out.val, HL.out]; first | done | rfl)), Lib.hid (fun _ => by rw [← HG.out.val, ← HG.out.val]; exact HL.out)⟩
            · have i1 : ¬ (i : Int) ≤ (j3 : Int) := by omega
              go_wp2_with fail
              go_quiet ((go_at_call 134; refine (less_any _ _ _).mono ?_; rintro e0 w'' ⟨rfl, rfl⟩; exact ⟨rfl, _, rfl⟩))
              go_wp2
              go_meet
              case rel => exact ⟨i, _, rfl, by omega, by omega, by refine Lib.hid ?_; rw [HWi.out, rowW_drewN], by refine Lib.hid ?_; rw [← HI.out]; exact up_stop (.inl hlt), Lib.hid (fun h => absurd h hlt)⟩
        case rest =>
          obtain ⟨i4, n4, rfl, hi4, hi5, HW4, HI4, HQ4⟩ := hcut
          go_upto_block 4 with (fail)
          go_cut [10] from 46 to 61 (fun v wr => ∃ j n : Nat, v = .int .i64 j ∧ j ≤ j3 ∧ i4 ≤ j + 1 ∧ Hid (wr = rowW w n b off e3) ∧ Hid (scanDown (fun x => ltInt e3[lo]! x) e3 i4 j3 = j) ∧ Hid (i4 ≤ j → ltInt e3[lo]! e3[j]! = false))
          case first =>
            go_wp2
            go_loopw [10] (fun v wr => ∃ j n : Nat, v = .int .i64 j ∧ j ≤ j3 ∧ i4 ≤ j + 1 ∧ Hid (wr = rowW w n b off e3) ∧ Hid (scanDown (fun x => ltInt e3[lo]! x) e3 i4 j = scanDown (fun x => ltInt e3[lo]! x) e3 i4 j3)) (fun v _ => (intOf v).toNat)
            case atStart => exact ⟨j3, _, rfl, by omega, by omega, HW4, rfl⟩
            case round =>
              obtain ⟨j, n, rfl, hj1, hj2, HWi, HI⟩ := hrel
              by_cases hlt : i4 ≤ j
              · obtain ⟨jm, kj⟩ : ∃ jm, j = jm + 1 := ⟨j - 1, by omega⟩
                have i1 : (i4 : Int) ≤ (j : Int) := by omega
                have q1 : (j : Int) - 1 = (jm : Int) := by omega
                have hjm : jm < j ∧ i4 ≤ jm + 1 := by omega
                have KJ := Lib.hid kj
                clear kj
                obtain ⟨G, hG⟩ := row_of HWi.out HE3.out
                have c1 := hG.cells HH.out j (by omega)
                have c2 := hG.cells HH.out lo (by omega)
                have HG := Lib.hid hG
                clear hG
                go_wp2_with fail
                go_quiet ((go_at_call 134; refine (less_any _ _ _).mono ?_; rintro e0 w'' ⟨rfl, rfl⟩; exact ⟨rfl, _, rfl⟩))
                cases hl : ltInt (G lo) (G j) with
                | true =>
                  have HL := Lib.hid hl
                  go_wp2
                  go_roundw
                  case rel => exact ⟨jm, _, by go_num, by omega, by omega, by refine Lib.hid ?_; rw [HWi.out, rowW_drewN], by refine Lib.hid ?_; rw [← HI.out]; exact (down_go' KJ.out hlt (by rw [← HG.out.val, ← HG.out.val, HL.out]; first | done | rfl)).symm⟩
                  case measure => simp [intOf]; omega
                | false =>
                  have HL := Lib.hid hl
                  go_wp2
                  go_meet
                  case rel => exact ⟨j, _, rfl, by omega, by omega, by refine Lib.hid ?_; rw [HWi.out, rowW_drewN], by refine Lib.hid ?_; rw [← HI.out]; exact down_stop (by omega) (.inr (by rw [← HG.out.val, ← HG.out.val, HL.out]; first | done | rfl)), Lib.hid (fun _ => by rw [← HG.out.val, ← HG.out.val]; exact HL.out)⟩
              · have i1 : ¬ (i4 : Int) ≤ (j : Int) := by omega
                go_wp2_with fail
                go_quiet ((go_at_call 134; refine (less_any _ _ _).mono ?_; rintro e0 w'' ⟨rfl, rfl⟩; exact ⟨rfl, _, rfl⟩))
                go_wp2
                go_meet
                case rel => exact ⟨j, _, rfl, by omega, by omega, by refine Lib.hid ?_; rw [HWi.out, rowW_drewN], by refine Lib.hid ?_; rw [← HI.out]; exact down_stop (by omega) (.inl hlt), Lib.hid (fun h => absurd h hlt)⟩
          case rest =>
            obtain ⟨j4, n5, rfl, hj4, hj5, HW5, HJ5, HQ5⟩ := hcut
            by_cases hij : j4 < i4
            · have g1 : (j4 : Int) < (i4 : Int) := by omega
              have HP : Hid (partitionEqual ltInt d lo hi piv = (i4, e3)) := by refine Lib.hid ?_; unfold partitionEqual; rw [HEE.out, KH.out, Nat.add_sub_cancel, ← HPL.out, pe_stop ltInt HI4.out HJ5.out hij]
              go_wp2
              go_ret
              exact ⟨by rw [HP.out]; first | done | rfl, _, by rw [HP.out]; exact HW5.out⟩
            · have hne : i4 ≠ j4 := fun h => by
                have a1 := HQ4.out (by omega)
                have a2 := HQ5.out (by omega)
                rw [h] at a1; rw [a1] at a2; cases a2
              have hlt4 : i4 < j4 := by omega
              have g1 : ¬ (j4 : Int) < (i4 : Int) := by omega
              clear hne
              obtain ⟨G, hG⟩ := row_of HW5.out HE3.out
              have c1 := hG.cells HH.out i4 (by omega)
              have f1 := hG.free HH.out i4 (by omega)
              have c2 := hG.cells HH.out j4 (by omega)
              have f2 := hG.free HH.out j4 (by omega)
              have HG := Lib.hid hG
              clear hG
              go_wp2_with fail
              go_region
              all_goals
                have hw0 := swapped HG.out 1 i4 j4 (by omega) (by omega)
                have HSW := Lib.hid hw0
                have HSE : Hid ((swp e3 i4 j4).size = d.size) := by refine Lib.hid ?_; rw [size_swp]; exact HE3.out
                clear hw0 HG c1 f1 c2 f2
                go_wp2
                go_roundw
                case rel => exact ⟨i4 + 1, j4 - 1, _, swp e3 i4 j4, by go_num, by congr 1; omega, by omega, by omega, by omega, HSE, HSW, by refine Lib.hid ?_; rw [← HPL.out]; exact (pe_go ltInt HI4.out HJ5.out (by omega) hlt4 (by omega)).symm⟩
                case measure => simp [intOf]; omega
end Go.Proofs.Ytjoaenfibkgplaa

namespace Go.Proofs.Ytjoaenfibkgplaa
set_option linter.unusedSimpArgs false
open Go.RowKit Go.Cq Go.Sort
set_option linter.unusedVariables false
/-- Nothing below the counter's block has turned; the counter reads so. -/
structure Sw (w w' : World) (sb s : Nat) : Prop where
  below : Below sb w w'
  cell : w'.cell? ⟨sb, 0, none⟩ = some (.int .i64 (s : Int))
  free : w'.frozen? ⟨sb, 0, none⟩ = false
theorem frozen_below {w w' : World} {B : Nat} (h : Below B w w') {p : Addr} (hp : p.block < B) : w'.frozen? p = w.frozen? p := by
  unfold World.frozen?
  rw [h.block _ hp]
theorem holds_below {w w' : World} {B b off : Nat} {d : Array Int} (h : Below B w w') (hb : b < B) (hH : Holds encU w b off d) : Holds encU w' b off d := fun j hj => by
  obtain ⟨h1, h2⟩ := hH j hj
  exact ⟨(h.cell (p := ⟨b, off + j, none⟩) hb).trans h1, (frozen_below h (p := ⟨b, off + j, none⟩) hb).trans h2⟩
theorem Sw.refl {w : World} {sb s : Nat} (hc : w.cell? ⟨sb, 0, none⟩ = some (.int .i64 (s : Int))) (hf : w.frozen? ⟨sb, 0, none⟩ = false) : Sw w w sb s := ⟨Below.refl _ _, hc, hf⟩
theorem Sw.then {w w1 w2 : World} {sb s t : Nat} (h1 : Sw w w1 sb s) (h2 : Sw w1 w2 sb t) : Sw w w2 sb t := ⟨h1.below.trans h2.below, h2.cell, h2.free⟩
theorem Sw.drewN {w w1 : World} {sb s : Nat} (h : Sw w w1 sb s) (n : Nat) : Sw w (w1.drewN n) sb s := ⟨below_drewN h.below n, h.cell, h.free⟩

theorem Sw.set {w w1 : World} {sb s : Nat} (h : Sw w w1 sb s) (t : Nat) : Sw w (w1.setCell ⟨sb, 0, none⟩ (.int .i64 (t : Int))) sb t :=
  ⟨h.below.setCell (p := ⟨sb, 0, none⟩) (Nat.le_refl _) _, World.cell?_setCell_same _ _ _ h.cell, (World.frozen?_setCell _ _ _ _).trans h.free⟩
set_option maxHeartbeats 1000000 in
/-- 'slices.order2Ordered', at uint32. -/
theorem order2_any (b off cap x y s sb : Nat) (d : Array Int) (w : World) (hH : Holds encU w b off d) (hb : b < sb) (hw : Sw w w sb s) (hx : x < d.size) (hy : y < d.size) (hs : s < 1000) (hsz : d.size < 1152921504606846976) :
    Calls Try.prog 145 #[.slice (some ⟨b, off, none⟩) d.size cap, .int .i64 (x : Int), .int .i64 (y : Int), .pointer (some ⟨sb, 0, none⟩)] w fun e w' =>
      e = .returned (.tuple #[.int .i64 ((order2 ltInt d x y s).1 : Nat), .int .i64 ((order2 ltInt d x y s).2.1 : Nat)]) ∧ Sw w w' sb (order2 ltInt d x y s).2.2 := by
  obtain ⟨G, hG⟩ := row_of (w := w) (b := b) (off := off) (n := 0) (e := d) (d := d) (wr := w) (rowW_self hH).symm rfl
  have c1 := hG.cells hH x hx
  have c2 := hG.cells hH y hy
  have cs := hw.cell
  have fs := hw.free
  have HG := Lib.hid hG
  have HW := Lib.hid hw
  clear hG hw hH
  cases hl : ltInt (G y) (G x) with
  | true =>
    have HO : Hid (order2 ltInt d x y s = (y, x, s + 1)) := by refine Lib.hid ?_; unfold order2; rw [← HG.out.val, ← HG.out.val, hl, if_pos rfl]
    have HL := Lib.hid hl
    clear hl
    go_enter Try.func145, Try.ntmps145
    go_wp2_with fail
    go_quiet ((go_at_call 134; refine (less_any _ _ _).mono ?_; rintro e0 w'' ⟨rfl, rfl⟩; rw [HL.out]; exact ⟨rfl, _, rfl⟩))
    go_wp2
    go_ret2
    refine ⟨by rw [HO.out]; rfl, ?_⟩
    rw [HO.out]
    exact (HW.out.drewN _).set (s + 1)
  | false =>
    have HO : Hid (order2 ltInt d x y s = (x, y, s)) := by refine Lib.hid ?_; unfold order2; rw [← HG.out.val, ← HG.out.val, hl, if_neg Bool.false_ne_true]
    have HL := Lib.hid hl
    clear hl
    go_enter Try.func145, Try.ntmps145
    go_wp2_with fail
    go_quiet ((go_at_call 134; refine (less_any _ _ _).mono ?_; rintro e0 w'' ⟨rfl, rfl⟩; rw [HL.out]; exact ⟨rfl, _, rfl⟩))
    go_wp2
    go_ret2
    exact ⟨by rw [HO.out]; rfl, by rw [HO.out]; exact HW.out.drewN _⟩
end Go.Proofs.Ytjoaenfibkgplaa

namespace Go.Proofs.Ytjoaenfibkgplaa
set_option linter.unusedSimpArgs false
open Go.RowKit Go.Cq Go.Sort
set_option linter.unusedVariables false
theorem o2_lt {d : Array Int} {x y s N : Nat} (hx : x < N) (hy : y < N) : (order2 ltInt d x y s).1 < N ∧ (order2 ltInt d x y s).2.1 < N ∧ (order2 ltInt d x y s).2.2 ≤ s + 1 := by
  unfold order2; split <;> simp <;> omega
theorem median_lt {d : Array Int} {x y z s N : Nat} (hx : x < N) (hy : y < N) (hz : z < N) : (median ltInt d x y z s).1 < N ∧ (median ltInt d x y z s).2 ≤ s + 3 := by
  unfold median
  have a1 := o2_lt (d := d) (s := s) hx hy
  have a2 := o2_lt (d := d) (s := (order2 ltInt d x y s).2.2) a1.2.1 hz
  have a3 := o2_lt (d := d) (s := (order2 ltInt d (order2 ltInt d x y s).2.1 z (order2 ltInt d x y s).2.2).2.2) a1.1 a2.1
  exact ⟨a3.2.1, Nat.le_trans a3.2.2 (by have := a2.2.2; have := a1.2.2; omega)⟩
set_option maxHeartbeats 1000000 in
/-- 'slices.medianOrdered', at uint32. -/
theorem median_any (b off cap x y z s sb : Nat) (d : Array Int) (w : World) (hH : Holds encU w b off d) (hb : b < sb) (hw : Sw w w sb s) (hx : x < d.size) (hy : y < d.size) (hz : z < d.size) (hs : s < 900) (hsz : d.size < 1152921504606846976) :
    Calls Try.prog 143 #[.slice (some ⟨b, off, none⟩) d.size cap, .int .i64 (x : Int), .int .i64 (y : Int), .int .i64 (z : Int), .pointer (some ⟨sb, 0, none⟩)] w fun e w' =>
      e = .returned (.int .i64 ((median ltInt d x y z s).1 : Nat)) ∧ Sw w w' sb (median ltInt d x y z s).2 := by
  have HH := Lib.hid hH
  have HW := Lib.hid hw
  clear hH hw
  obtain ⟨a1, a2, a3⟩ := o2_lt (d := d) (s := s) hx hy
  obtain ⟨r1, e1⟩ : ∃ r, order2 ltInt d x y s = r := ⟨_, rfl⟩
  rw [e1] at a1 a2 a3
  obtain ⟨b1, b2, b3⟩ := o2_lt (d := d) (s := r1.2.2) a2 hz
  obtain ⟨r2, e2⟩ : ∃ r, order2 ltInt d r1.2.1 z r1.2.2 = r := ⟨_, rfl⟩
  rw [e2] at b1 b2 b3
  obtain ⟨c1, c2, c3⟩ := o2_lt (d := d) (s := r2.2.2) a1 b1
  obtain ⟨r3, e3⟩ : ∃ r, order2 ltInt d r1.1 r2.1 r2.2.2 = r := ⟨_, rfl⟩
  rw [e3] at c1 c2 c3
  have HM : Hid (median ltInt d x y z s = (r3.2.1, r3.2.2)) := by refine Lib.hid ?_; unfold median; simp only; rw [e1, e2, e3]
  have E1 := Lib.hid e1
  have E2 := Lib.hid e2
  have E3 := Lib.hid e3
  clear e1 e2 e3
  obtain ⟨p1, q1, s1⟩ := r1
  obtain ⟨p2, q2, s2⟩ := r2
  obtain ⟨p3, q3, s3⟩ := r3
  simp only at a1 a2 a3 b1 b2 b3 c1 c2 c3 E2 E3 HM
  go_enter Try.func143, Try.ntmps143
  go_wp2_with fail
  refine (order2_any b off cap x y s sb d w HH.out hb HW.out hx hy (by omega) hsz).mono ?_; rintro e w1 ⟨rfl, h1⟩; rw [E1.out] at h1 ⊢
  have H1 := Lib.hid h1
  clear h1
  go_wp2_with fail
  refine (order2_any b off cap q1 z s1 sb d w1 (holds_below H1.out.below hb HH.out) hb (Sw.refl H1.out.cell H1.out.free) a2 hz (by omega) hsz).mono ?_; rintro e w2 ⟨rfl, h2⟩; rw [E2.out] at h2 ⊢
  have H2 := Lib.hid (H1.out.then h2)
  clear h2
  go_wp2_with fail
  refine (order2_any b off cap p1 p2 s2 sb d w2 (holds_below H2.out.below hb HH.out) hb (Sw.refl H2.out.cell H2.out.free) a1 b1 (by omega) hsz).mono ?_; rintro e w3 ⟨rfl, h3⟩; rw [E3.out] at h3 ⊢
  have H3 := Lib.hid (H2.out.then h3)
  clear h3
  go_wp2
  go_ret
  exact ⟨by rw [HM.out]; rfl, by rw [HM.out]; exact H3.out⟩
/-- 'slices.medianAdjacentOrdered', at uint32. -/
theorem medadj_any (b off cap x s sb : Nat) (d : Array Int) (w : World) (hH : Holds encU w b off d) (hb : b < sb) (hw : Sw w w sb s) (hx1 : 1 ≤ x) (hx : x + 1 < d.size) (hs : s < 900) (hsz : d.size < 1152921504606846976) :
    Calls Try.prog 142 #[.slice (some ⟨b, off, none⟩) d.size cap, .int .i64 (x : Int), .pointer (some ⟨sb, 0, none⟩)] w fun e w' =>
      e = .returned (.int .i64 ((medianAdjacent ltInt d x s).1 : Nat)) ∧ Sw w w' sb (medianAdjacent ltInt d x s).2 := by
  have HH := Lib.hid hH
  have HW := Lib.hid hw
  clear hH hw
  obtain ⟨xm, km⟩ : ∃ xm, x - 1 = xm := ⟨_, rfl⟩
  obtain ⟨xp, kp⟩ : ∃ xp, x + 1 = xp := ⟨_, rfl⟩
  have q1 : (x : Int) - 1 = (xm : Int) := by omega
  have q2 : (x : Int) + 1 = (xp : Int) := by omega
  have hb1 : xm < d.size ∧ xp < d.size ∧ x < d.size := by omega
  have HM : Hid (medianAdjacent ltInt d x s = median ltInt d xm x xp s) := by refine Lib.hid ?_; unfold medianAdjacent; rw [km, kp]
  clear km kp
  go_enter Try.func142, Try.ntmps142
  go_wp2_with fail
  refine (median_any b off cap xm x xp s sb d w HH.out hb HW.out hb1.1 hb1.2.2 hb1.2.1 hs hsz).mono ?_; rintro e w1 ⟨rfl, h1⟩
  go_wp2_with fail
  go_ret
  exact ⟨by rw [HM.out]; rfl, by rw [HM.out]; exact h1⟩
end Go.Proofs.Ytjoaenfibkgplaa

namespace Go.Proofs.Ytjoaenfibkgplaa
set_option linter.unusedSimpArgs false
open Go.RowKit Go.Cq Go.Sort
set_option linter.unusedVariables false
def hintN : Hint → Nat
  | .unknown => 0
  | .increasing => 1
  | .decreasing => 2
/-- What a choice comes to: the place, the number of exchanges. -/
def pickN (d : Array Int) (lo L : Nat) : Nat × Nat :=
  if L ≥ 50 then
    median ltInt d (medianAdjacent ltInt d (lo + L / 4 * 1) 0).1 (medianAdjacent ltInt d (lo + L / 4 * 2) (medianAdjacent ltInt d (lo + L / 4 * 1) 0).2).1
      (medianAdjacent ltInt d (lo + L / 4 * 3) (medianAdjacent ltInt d (lo + L / 4 * 2) (medianAdjacent ltInt d (lo + L / 4 * 1) 0).2).2).1
      (medianAdjacent ltInt d (lo + L / 4 * 3) (medianAdjacent ltInt d (lo + L / 4 * 2) (medianAdjacent ltInt d (lo + L / 4 * 1) 0).2).2).2
  else median ltInt d (lo + L / 4 * 1) (lo + L / 4 * 2) (lo + L / 4 * 3) 0
def hintOf (s : Nat) : Hint := if s = 0 then .increasing else if s = 12 then .decreasing else .unknown
theorem choose_eq (d : Array Int) {lo hi L : Nat} (hL : hi - lo = L) (h8 : 8 ≤ L) : choosePivot ltInt d lo hi = ((pickN d lo L).1, hintOf (pickN d lo L).2) := by
  subst hL
  unfold choosePivot pickN hintOf
  simp only
  rw [if_pos h8]
theorem madj_lt {d : Array Int} {x s N : Nat} (h : x + 1 < N) (h1 : 1 ≤ x) : (medianAdjacent ltInt d x s).1 < N ∧ (medianAdjacent ltInt d x s).2 ≤ s + 3 := median_lt (by omega) (by omega) h

/-- The last of it: by the number of exchanges. -/
theorem choose_end {d : Array Int} {lo hi L j s : Nat} {w w' : World} {e : Ending} (hL : hi - lo = L) (h8 : 8 ≤ L) (hp : pickN d lo L = (j, s)) (he : e = .returned (.tuple #[.int .i64 (j : Int), .int .i64 (hintN (hintOf s) : Nat)])) (hb : Below w.heap.size w w') :
    e = .returned (.tuple #[.int .i64 ((choosePivot ltInt d lo hi).1 : Nat), .int .i64 (hintN (choosePivot ltInt d lo hi).2 : Nat)]) ∧ Below w.heap.size w w' := by
  rw [choose_eq d hL h8, hp]; exact ⟨he, hb⟩

set_option maxHeartbeats 2000000 in
/-- 'slices.choosePivotOrdered', at uint32. -/
theorem choose_any (b off cap lo hi : Nat) (d : Array Int) (w : World) (hH : Holds encU w b off d) (hbw : b < w.heap.size) (h12 : 12 ≤ hi - lo) (hb : hi ≤ d.size) (hsz : d.size < 1152921504606846976) :
    Calls Try.prog 131 #[.slice (some ⟨b, off, none⟩) d.size cap, .int .i64 (lo : Int), .int .i64 (hi : Int)] w fun e w' =>
      e = .returned (.tuple #[.int .i64 ((choosePivot ltInt d lo hi).1 : Nat), .int .i64 (hintN (choosePivot ltInt d lo hi).2 : Nat)]) ∧ Below w.heap.size w w' := by
  have HH := Lib.hid hH
  clear hH
  obtain ⟨L, hL⟩ : ∃ L, hi - lo = L := ⟨_, rfl⟩
  have HL := Lib.hid hL
  have q0 : (hi : Int) - (lo : Int) = (L : Int) := by omega
  have hLb : lo + L ≤ d.size ∧ 12 ≤ L := by omega
  clear hL
  obtain ⟨Q, hQ⟩ : ∃ Q, L / 4 = Q := ⟨_, rfl⟩
  have hQ2 : 4 * Q ≤ L ∧ L < 4 * Q + 4 := by omega
  have q1 : (L : Int).tdiv 4 = (Q : Int) := by rw [Int.tdiv_eq_ediv_of_nonneg (by omega)]; omega
  have q1' : (L : Int) / 4 = (Q : Int) := by omega
  have HQ := Lib.hid hQ
  clear hQ
  obtain ⟨I, kI⟩ : ∃ I, lo + Q * 1 = I := ⟨_, rfl⟩
  obtain ⟨J, kJ⟩ : ∃ J, lo + Q * 2 = J := ⟨_, rfl⟩
  obtain ⟨K, kK⟩ : ∃ K, lo + Q * 3 = K := ⟨_, rfl⟩
  have q2 : (lo : Int) + (Q : Int) = (I : Int) := by omega
  have q3 : (lo : Int) + (Q : Int) * 2 = (J : Int) := by omega
  have q4 : (lo : Int) + (Q : Int) * 3 = (K : Int) := by omega
  have bI : I < d.size ∧ J < d.size ∧ K < d.size := by omega
  have bI2 : 50 ≤ L → I + 1 < d.size ∧ J + 1 < d.size ∧ K + 1 < d.size ∧ 1 ≤ I ∧ 1 ≤ J ∧ 1 ≤ K := by omega
  have HP : Hid (pickN d lo L = if L ≥ 50 then
    median ltInt d (medianAdjacent ltInt d I 0).1 (medianAdjacent ltInt d J (medianAdjacent ltInt d I 0).2).1
      (medianAdjacent ltInt d K (medianAdjacent ltInt d J (medianAdjacent ltInt d I 0).2).2).1
      (medianAdjacent ltInt d K (medianAdjacent ltInt d J (medianAdjacent ltInt d I 0).2).2).2
    else median ltInt d I J K 0) := by refine Lib.hid ?_; unfold pickN; rw [HQ.out, kI, kJ, kK]
  clear kI kJ kK
  have S0 : Hid (Sw (w.alloc (.cells #[.int .i64 0] 3)) (w.alloc (.cells #[.int .i64 0] 3)) w.heap.size 0) := Lib.hid (Sw.refl ((World.cell?_alloc_new _ _ _ _).trans rfl) (World.frozen?_alloc_new _ _ _ _))
  have H0 : Hid (Holds encU (w.alloc (.cells #[.int .i64 0] 3)) b off d) := Lib.hid (holds_below ((Below.refl _ _).alloc (Nat.le_refl _) _) hbw HH.out)
  have B0 : Hid (Below w.heap.size w (w.alloc (.cells #[.int .i64 0] 3))) := Lib.hid ((Below.refl _ _).alloc (Nat.le_refl _) _)
  have hfin : ∀ (j s : Nat) (w' : World), pickN d lo L = (j, s) → Below w.heap.size w w' → ∀ e : Ending, e = .returned (.tuple #[.int .i64 (j : Int), .int .i64 (hintN (hintOf s) : Nat)]) → e = .returned (.tuple #[.int .i64 ((choosePivot ltInt d lo hi).1 : Nat), .int .i64 (hintN (choosePivot ltInt d lo hi).2 : Nat)]) ∧ Below w.heap.size w w' := fun j s w' hp hb e he => choose_end HL.out (by omega) hp he hb
  have HF := Lib.hid hfin
  clear hfin
  have i8 : (8 : Int) ≤ (L : Int) := by omega
  by_cases h50 : 50 ≤ L
  · have i50 : (50 : Int) ≤ (L : Int) := by omega
    obtain ⟨e1, e2, e3, e4, e5, e6⟩ := bI2 h50
    clear bI2
    have m1 := madj_lt (d := d) (s := 0) e1 e4
    obtain ⟨r1, er1⟩ : ∃ r, medianAdjacent ltInt d I 0 = r := ⟨_, rfl⟩
    rw [er1] at m1
    have m2 := madj_lt (d := d) (s := r1.2) e2 e5
    obtain ⟨r2, er2⟩ : ∃ r, medianAdjacent ltInt d J r1.2 = r := ⟨_, rfl⟩
    rw [er2] at m2
    have m3 := madj_lt (d := d) (s := r2.2) e3 e6
    obtain ⟨r3, er3⟩ : ∃ r, medianAdjacent ltInt d K r2.2 = r := ⟨_, rfl⟩
    rw [er3] at m3
    obtain ⟨r, er⟩ : ∃ r, median ltInt d r1.1 r2.1 r3.1 r3.2 = r := ⟨_, rfl⟩
    have HPR : Hid (pickN d lo L = r) := by refine Lib.hid ?_; rw [HP.out, if_pos h50, er1, er2, er3, er]
    have ER1 := Lib.hid er1
    have ER2 := Lib.hid er2
    have ER3 := Lib.hid er3
    have ER := Lib.hid er
    clear er er1 er2 er3
    obtain ⟨p1, s1⟩ := r1
    obtain ⟨p2, s2⟩ := r2
    obtain ⟨p3, s3⟩ := r3
    obtain ⟨j, s⟩ := r
    simp only at m1 m2 m3 HPR ER ER1 ER2 ER3
    go_enter Try.func131, Try.ntmps131
    go_wp2_with fail
    refine (medadj_any b off cap I 0 w.heap.size d _ H0.out hbw S0.out e4 e1 (by decide) hsz).mono ?_; rintro e w1 ⟨rfl, k1⟩; rw [ER1.out] at k1 ⊢
    have K1 := Lib.hid k1
    clear k1
    go_wp2_with fail
    refine (medadj_any b off cap J s1 w.heap.size d w1 (holds_below K1.out.below hbw H0.out) hbw (Sw.refl K1.out.cell K1.out.free) e5 e2 (by omega) hsz).mono ?_; rintro e w2 ⟨rfl, k2⟩; rw [ER2.out] at k2 ⊢
    have K2 := Lib.hid (K1.out.then k2)
    clear k2
    go_wp2_with fail
    refine (medadj_any b off cap K s2 w.heap.size d w2 (holds_below K2.out.below hbw H0.out) hbw (Sw.refl K2.out.cell K2.out.free) e6 e3 (by omega) hsz).mono ?_; rintro e w3 ⟨rfl, k3⟩; rw [ER3.out] at k3 ⊢
    have K3 := Lib.hid (K2.out.then k3)
    clear k3
    go_wp2_with fail
    refine (median_any b off cap p1 p2 p3 s3 w.heap.size d w3 (holds_below K3.out.below hbw H0.out) hbw (Sw.refl K3.out.cell K3.out.free) m1.1 m2.1 m3.1 (by omega) hsz).mono ?_; rintro e w4 ⟨rfl, k4⟩; rw [ER.out] at k4 ⊢
    have h1 := K3.out.then k4
    clear k4 K1 K2 K3
    have HB1 := Lib.hid (B0.out.trans h1.below)
    have c1 := h1.cell
    have f1 := h1.free
    clear h1 S0 H0
    by_cases hs0 : s = 0
    · subst hs0
      go_wp2
      go_ret2
      exact HF.out j 0 _ HPR.out HB1.out _ rfl
    · have g0 : ¬ (s : Int) = 0 := by omega
      by_cases hs12 : s = 12
      · subst hs12
        go_wp2
        go_ret2
        exact HF.out j 12 _ HPR.out HB1.out _ rfl
      · have g12 : ¬ (s : Int) = 12 := by omega
        have hh : hintOf s = .unknown := by unfold hintOf; rw [if_neg hs0, if_neg hs12]
        go_wp2
        go_ret2
        exact HF.out j s _ HPR.out HB1.out _ (by rw [hh]; rfl)
  · have i50 : ¬ (50 : Int) ≤ (L : Int) := by omega
    have m1 := median_lt (d := d) (s := 0) bI.1 bI.2.1 bI.2.2
    obtain ⟨r, er⟩ : ∃ r, median ltInt d I J K 0 = r := ⟨_, rfl⟩
    rw [er] at m1
    have HPR : Hid (pickN d lo L = r) := by refine Lib.hid ?_; rw [HP.out, if_neg h50, er]
    have ER := Lib.hid er
    clear er
    obtain ⟨j, s⟩ := r
    simp only at m1 HPR ER
    go_enter Try.func131, Try.ntmps131
    go_wp2_with fail
    refine (median_any b off cap I J K 0 w.heap.size d _ H0.out hbw S0.out bI.1 bI.2.1 bI.2.2 (by decide) hsz).mono ?_; rintro e w1 ⟨rfl, h1⟩; rw [ER.out] at h1 ⊢
    have HB1 := Lib.hid (B0.out.trans h1.below)
    have c1 := h1.cell
    have f1 := h1.free
    clear h1 S0 H0
    by_cases hs0 : s = 0
    · subst hs0
      go_wp2
      go_ret2
      exact HF.out j 0 _ HPR.out HB1.out _ rfl
    · have g0 : ¬ (s : Int) = 0 := by omega
      by_cases hs12 : s = 12
      · subst hs12
        go_wp2
        go_ret2
        exact HF.out j 12 _ HPR.out HB1.out _ rfl
      · have g12 : ¬ (s : Int) = 12 := by omega
        have hh : hintOf s = .unknown := by unfold hintOf; rw [if_neg hs0, if_neg hs12]
        go_wp2
        go_ret2
        exact HF.out j s _ HPR.out HB1.out _ (by rw [hh]; rfl)
end Go.Proofs.Ytjoaenfibkgplaa

namespace Go.Proofs.Ytjoaenfibkgplaa
set_option linter.unusedSimpArgs false
open Go.RowKit Go.Cq Go.Sort
set_option linter.unusedVariables false
section
variable {α : Type} [Inhabited α] (lt : α → α → Bool)
theorem ss_go {d : Array α} {b i im : Nat} (h : i < b) (hm : i - 1 = im) (hl : lt d[i]! d[im]! = false) : scanSorted lt d b i = scanSorted lt d b (i + 1) := by subst hm; rw [scanSorted, if_pos (by simp [h, hl])]
theorem ss_stop {d : Array α} {b i im : Nat} (hm : i - 1 = im) (h : ¬ i < b ∨ lt d[i]! d[im]! = true) : scanSorted lt d b i = i := by
  subst hm; rw [scanSorted, if_neg (by rcases h with h | h <;> simp [h])]
theorem sd_go {d : Array α} {j jm : Nat} (hj : j = jm + 1) (hl : lt d[j]! d[jm]! = true) : shiftDown lt j d = shiftDown lt jm (swp d j jm) := by subst hj; rw [shiftDown, if_neg (by simp [hl])]
theorem sd_stop {d : Array α} {j jm : Nat} (h : j = 0 ∨ (j = jm + 1 ∧ lt d[j]! d[jm]! = false)) : shiftDown lt j d = d := by
  rcases h with rfl | ⟨rfl, h⟩
  · rw [shiftDown]
  · rw [shiftDown, if_pos (by simp [h])]
theorem su_go {d : Array α} {b j jm : Nat} (h : j < b) (hm : j - 1 = jm) (hl : lt d[j]! d[jm]! = true) : shiftUp lt b j d = shiftUp lt b (j + 1) (swp d j jm) := by subst hm; rw [shiftUp, if_pos h, if_neg (by simp [hl])]
theorem su_stop {d : Array α} {b j jm : Nat} (hm : j - 1 = jm) (h : ¬ j < b ∨ lt d[j]! d[jm]! = false) : shiftUp lt b j d = d := by
  subst hm
  by_cases hj : j < b
  · rw [shiftUp, if_pos hj, if_pos (by rcases h with h | h; exact absurd hj h; simp [h])]
  · rw [shiftUp, if_neg hj]
theorem pi_true {d : Array α} {a b s i i2 : Nat} (h : scanSorted lt d b i = i2) (hb : i2 = b) : partialIns lt a b (s + 1) i d = (d, true) := by
  rw [partialIns]; simp only [h]; rw [if_pos hb]
theorem pi_false {d : Array α} {a b s i i2 : Nat} (h : scanSorted lt d b i = i2) (hb : ¬ i2 = b) (h50 : b - a < 50) : partialIns lt a b (s + 1) i d = (d, false) := by
  rw [partialIns]; simp only [h]; rw [if_neg hb, if_pos h50]
theorem pi_go {d d2 d3 d4 : Array α} {a b s i i2 im : Nat} (h : scanSorted lt d b i = i2) (hb : ¬ i2 = b) (h50 : ¬ b - a < 50) (hm : i2 - 1 = im) (h2 : swp d i2 im = d2) (h3 : (if i2 - a ≥ 2 then shiftDown lt im d2 else d2) = d3) (h4 : (if b - i2 ≥ 2 then shiftUp lt b (i2 + 1) d3 else d3) = d4) :
    partialIns lt a b (s + 1) i d = partialIns lt a b s i2 d4 := by
  rw [partialIns]; simp only [h]; rw [if_neg hb, if_neg h50, hm, h2, h3, h4]
end
set_option maxHeartbeats 4000000 in
set_option maxRecDepth 100000 in
/-- 'slices.partialInsertionSortOrdered', at uint32. -/
theorem pins_any (b off cap lo hi : Nat) (d : Array Int) (w : World) (hH : Holds encU w b off d) (hab : lo < hi) (hb : hi ≤ d.size) (hsz : d.size < 1152921504606846976) :
    Calls Try.prog 133 #[.slice (some ⟨b, off, none⟩) d.size cap, .int .i64 (lo : Int), .int .i64 (hi : Int)] w fun e w' =>
      e = .returned (.bool (partialInsertionSort ltInt d lo hi).2) ∧ ∃ n, w' = rowW w n b off (partialInsertionSort ltInt d lo hi).1 := by
  have HH := Lib.hid hH
  clear hH
  go_enter Try.func133, Try.ntmps133
  go_wp2_with fail
  go_loopw [7, 8] (fun v7 v8 wr => ∃ (k i n : Nat) (dk : Array Int), v8 = .int .i64 k ∧ v7 = .int .i64 i ∧ k ≤ 5 ∧ lo < i ∧ i ≤ hi ∧ Hid (dk.size = d.size) ∧ Hid (wr = rowW w n b off dk) ∧ Hid (partialIns ltInt lo hi (5 - k) i dk = partialInsertionSort ltInt d lo hi)) (fun v7 v8 _ => 5 - (intOf v8).toNat)
  case atStart => exact ⟨0, lo + 1, 0, d, rfl, by go_num, by omega, by omega, by omega, rfl, (rowW_self HH.out).symm, rfl⟩
  case round =>
    obtain ⟨k, i, n, dk, rfl, rfl, hk, hi1, hi2, HS, HW, HO⟩ := hrel
    by_cases hk5 : k < 5
    · have gk : (k : Int) < 5 := by omega
      go_upto_block 2 with (fail)
      go_cut [7] from 17 to 34 (fun v wr => ∃ i2 n : Nat, v = .int .i64 i2 ∧ i ≤ i2 ∧ i2 ≤ hi ∧ Hid (wr = rowW w n b off dk) ∧ Hid (scanSorted ltInt dk hi i = i2))
      case first =>
        go_wp2
        go_loopw [7] (fun v wr => ∃ i2 n : Nat, v = .int .i64 i2 ∧ i ≤ i2 ∧ i2 ≤ hi ∧ Hid (wr = rowW w n b off dk) ∧ Hid (scanSorted ltInt dk hi i2 = scanSorted ltInt dk hi i)) (fun v _ => hi - (intOf v).toNat)
        case atStart => exact ⟨i, _, rfl, by omega, by omega, HW, rfl⟩
        case round =>
          obtain ⟨i2, n2, rfl, hi3, hi4, HWi, HI⟩ := hrel
          obtain ⟨im, km⟩ : ∃ im, i2 - 1 = im := ⟨_, rfl⟩
          have q2 : (i2 : Int) - 1 = (im : Int) := by omega
          have w2 : IntKind.i64.wrap (im : Int) = (im : Int) := IntWalk.i64_in _ ⟨by omega, by omega⟩
          have him : im < i2 := by omega
          have KM := Lib.hid km
          clear km
          by_cases hlt : i2 < hi
          · have g1 : (i2 : Int) < (hi : Int) := by omega
            obtain ⟨G, hG⟩ := row_of HWi.out HS.out
            have c1 := hG.cells HH.out i2 (by omega)
            have c2 := hG.cells HH.out im (by omega)
            have HG := Lib.hid hG
            clear hG
            go_wp2_with fail
            go_quiet ((go_at_call 134; refine (less_any _ _ _).mono ?_; rintro e0 w'' ⟨rfl, rfl⟩; exact ⟨rfl, _, rfl⟩))
            cases hl : ltInt (G i2) (G im) with
            | false =>
              have HL := Lib.hid hl
              go_wp2
              go_roundw
              case rel => exact ⟨i2 + 1, _, by go_num, by omega, by omega, by refine Lib.hid ?_; rw [HWi.out, rowW_drewN], by refine Lib.hid ?_; rw [← HI.out]; exact (ss_go ltInt hlt KM.out (by rw [← HG.out.val, ← HG.out.val]; exact HL.out)).symm⟩
              case measure => simp [intOf]; omega
            | true =>
              have HL := Lib.hid hl
              go_wp2
              go_meet
              case rel => exact ⟨i2, _, rfl, by omega, by omega, by refine Lib.hid ?_; rw [HWi.out, rowW_drewN], by refine Lib.hid ?_; rw [← HI.out]; exact ss_stop ltInt KM.out (.inr (by rw [← HG.out.val, ← HG.out.val]; exact HL.out))⟩
          · have g1 : ¬ (i2 : Int) < (hi : Int) := by omega
            go_wp2_with fail
            go_quiet ((go_at_call 134; refine (less_any _ _ _).mono ?_; rintro e0 w'' ⟨rfl, rfl⟩; exact ⟨rfl, _, rfl⟩))
            go_wp2
            go_meet
            case rel => exact ⟨i2, _, rfl, by omega, by omega, by refine Lib.hid ?_; rw [HWi.out, rowW_drewN], by refine Lib.hid ?_; rw [← HI.out]; exact ss_stop ltInt KM.out (.inl hlt)⟩
      case rest =>
        obtain ⟨i2, n2, rfl, hi3, hi4, HW2, HI2⟩ := hcut
        by_cases hib : i2 = hi
        · have g1 : (i2 : Int) = (hi : Int) := by omega
          have HP : Hid (partialInsertionSort ltInt d lo hi = (dk, true)) := by refine Lib.hid ?_; rw [← HO.out, show 5 - k = (5 - (k + 1)) + 1 by omega]; exact pi_true ltInt HI2.out hib
          clear hib
          go_wp2
          go_ret
          exact ⟨by rw [HP.out]; first | done | rfl, _, by rw [HP.out]; exact HW2.out⟩
        · have g1 : ¬ (i2 : Int) = (hi : Int) := by omega
          by_cases h50 : hi - lo < 50
          · have g2 : (hi : Int) - (lo : Int) < 50 := by omega
            have HP : Hid (partialInsertionSort ltInt d lo hi = (dk, false)) := by refine Lib.hid ?_; rw [← HO.out, show 5 - k = (5 - (k + 1)) + 1 by omega]; exact pi_false ltInt HI2.out hib h50
            go_wp2
            go_ret
            exact ⟨by rw [HP.out]; first | done | rfl, _, by rw [HP.out]; exact HW2.out⟩
          · have g2 : ¬ (hi : Int) - (lo : Int) < 50 := by omega
            obtain ⟨im, km⟩ : ∃ im, i2 - 1 = im := ⟨_, rfl⟩
            have q2 : (i2 : Int) - 1 = (im : Int) := by omega
            have w2 : IntKind.i64.wrap (im : Int) = (im : Int) := IntWalk.i64_in _ ⟨by omega, by omega⟩
            have him : im < i2 ∧ i2 < hi ∧ lo ≤ im := by omega
            have KM := Lib.hid km
            clear km
            obtain ⟨G, hG⟩ := row_of HW2.out HS.out
            have c1 := hG.cells HH.out i2 (by omega)
            have f1 := hG.free HH.out i2 (by omega)
            have c2 := hG.cells HH.out im (by omega)
            have f2 := hG.free HH.out im (by omega)
            have HG := Lib.hid hG
            clear hG
            go_wp2_with fail
            go_region
            all_goals
              have hw0 := swapped HG.out 1 i2 im (by omega) (by omega)
              have HS2W := Lib.hid hw0
              have HS2E : Hid ((swp dk i2 im).size = d.size) := by refine Lib.hid ?_; rw [size_swp]; exact HS.out
              clear hw0 HG c1 f1 c2 f2
              obtain ⟨d2, kd2⟩ : ∃ d2, swp dk i2 im = d2 := ⟨_, rfl⟩
              rw [kd2] at HS2W HS2E
              have KD2 := Lib.hid kd2
              clear kd2
              go_upto_if 61 with (fail)
              go_cut [9] from 61 to 94 (fun v wr => ∃ (n : Nat) (d3 : Array Int), Hid (d3.size = d.size) ∧ Hid (wr = rowW w n b off d3) ∧ Hid ((if i2 - lo ≥ 2 then shiftDown ltInt im d2 else d2) = d3))
              case first =>
                by_cases hi2a : 2 ≤ i2 - lo
                · have g3 : (2 : Int) ≤ (i2 : Int) - (lo : Int) := by omega
                  go_wp2_with fail
                  go_loopw [9] (fun v wr => ∃ (j n : Nat) (dj : Array Int), v = .int .i64 j ∧ j ≤ im ∧ Hid (dj.size = d.size) ∧ Hid (wr = rowW w n b off dj) ∧ Hid (shiftDown ltInt j dj = shiftDown ltInt im d2)) (fun v _ => (intOf v).toNat)
                  case atStart => exact ⟨im, _, d2, rfl, by omega, HS2E, HS2W, rfl⟩
                  case round =>
                    obtain ⟨j, n5, dj, rfl, hj1, HEj, HWj, HJ⟩ := hrel
                    by_cases hlt : 1 ≤ j
                    · have g5 : (1 : Int) ≤ (j : Int) := by omega
                      obtain ⟨jm, kj⟩ : ∃ jm, j = jm + 1 := ⟨j - 1, by omega⟩
                      have q5 : (j : Int) - 1 = (jm : Int) := by omega
                      have w5 : IntKind.i64.wrap (jm : Int) = (jm : Int) := IntWalk.i64_in _ ⟨by omega, by omega⟩
                      have hjm : jm < j ∧ jm < d.size ∧ j < d.size := by omega
                      have KJ := Lib.hid kj
                      clear kj
                      obtain ⟨G, hG⟩ := row_of HWj.out HEj.out
                      have c1 := hG.cells HH.out j (by omega)
                      have f1 := hG.free HH.out j (by omega)
                      have c2 := hG.cells HH.out jm (by omega)
                      have f2 := hG.free HH.out jm (by omega)
                      have HG := Lib.hid hG
                      clear hG
                      go_wp2_with fail
                      go_quiet ((go_at_call 134; refine (less_any _ _ _).mono ?_; rintro e0 w'' ⟨rfl, rfl⟩; exact ⟨rfl, _, rfl⟩))
                      cases hl : ltInt (G j) (G jm) with
                      | true =>
                        have HL := Lib.hid hl
                        go_wp2_with fail
                        go_region
                        all_goals go_wp2
                        go_roundw
                        case rel => exact ⟨jm, _, swp dj j jm, rfl, by omega, by refine Lib.hid ?_; rw [size_swp]; exact HEj.out, Lib.hid (swapped HG.out _ j jm (by omega) (by omega)), by refine Lib.hid ?_; rw [← HJ.out]; exact (sd_go ltInt KJ.out (by rw [← HG.out.val, ← HG.out.val]; exact HL.out)).symm⟩
                        case measure => simp [intOf]; omega
                      | false =>
                        have HL := Lib.hid hl
                        go_wp2
                        go_meet
                        case rel => exact ⟨_, dj, HEj, by refine Lib.hid ?_; rw [HWj.out, rowW_drewN], by refine Lib.hid ?_; rw [if_pos hi2a, ← HJ.out]; exact sd_stop ltInt (.inr ⟨KJ.out, by rw [← HG.out.val, ← HG.out.val]; exact HL.out⟩)⟩
                    · have g5 : ¬ (1 : Int) ≤ (j : Int) := by omega
                      go_wp2
                      go_meet
                      case rel => exact ⟨_, dj, HEj, HWj, by refine Lib.hid ?_; rw [if_pos hi2a, ← HJ.out]; exact sd_stop (jm := 0) ltInt (.inl (by omega))⟩
                · have g3 : ¬ (2 : Int) ≤ (i2 : Int) - (lo : Int) := by omega
                  go_wp2
                  go_meet
                  case rel => exact ⟨_, d2, HS2E, HS2W, by refine Lib.hid ?_; rw [if_neg hi2a]⟩
              case rest =>
                obtain ⟨n4, d3, HE3, HW3, HD3⟩ := hcut
                by_cases hi2b : 2 ≤ hi - i2
                · have g4 : (2 : Int) ≤ (hi : Int) - (i2 : Int) := by omega
                  go_wp2_with fail
                  go_loopw [10] (fun v wr => ∃ (j n : Nat) (dj : Array Int), v = .int .i64 j ∧ i2 + 1 ≤ j ∧ j ≤ hi ∧ Hid (dj.size = d.size) ∧ Hid (wr = rowW w n b off dj) ∧ Hid (shiftUp ltInt hi j dj = shiftUp ltInt hi (i2 + 1) d3)) (fun v _ => hi - (intOf v).toNat)
                  case atStart => exact ⟨i2 + 1, _, d3, by go_num, by omega, by omega, HE3, HW3, rfl⟩
                  case round =>
                    obtain ⟨j, n5, dj, rfl, hj1, hj2, HEj, HWj, HJ⟩ := hrel
                    obtain ⟨jm, kj⟩ : ∃ jm, j - 1 = jm := ⟨_, rfl⟩
                    have q5 : (j : Int) - 1 = (jm : Int) := by omega
                    have w5 : IntKind.i64.wrap (jm : Int) = (jm : Int) := IntWalk.i64_in _ ⟨by omega, by omega⟩
                    have hjm : jm < j ∧ jm < d.size := by omega
                    have KJ := Lib.hid kj
                    clear kj
                    by_cases hlt : j < hi
                    · have g5 : (j : Int) < (hi : Int) := by omega
                      obtain ⟨G, hG⟩ := row_of HWj.out HEj.out
                      have c1 := hG.cells HH.out j (by omega)
                      have f1 := hG.free HH.out j (by omega)
                      have c2 := hG.cells HH.out jm (by omega)
                      have f2 := hG.free HH.out jm (by omega)
                      have HG := Lib.hid hG
                      clear hG
                      go_wp2_with fail
                      go_quiet ((go_at_call 134; refine (less_any _ _ _).mono ?_; rintro e0 w'' ⟨rfl, rfl⟩; exact ⟨rfl, _, rfl⟩))
                      cases hl : ltInt (G j) (G jm) with
                      | true =>
                        have HL := Lib.hid hl
                        go_wp2_with fail
                        go_region
                        all_goals go_wp2
                        go_roundw
                        case rel => exact ⟨j + 1, _, swp dj j jm, by go_num, by omega, by omega, by refine Lib.hid ?_; rw [size_swp]; exact HEj.out, Lib.hid (swapped HG.out _ j jm (by omega) (by omega)), by refine Lib.hid ?_; rw [← HJ.out]; exact (su_go ltInt hlt KJ.out (by rw [← HG.out.val, ← HG.out.val]; exact HL.out)).symm⟩
                        case measure => simp [intOf]; omega
                      | false =>
                        have HL := Lib.hid hl
                        go_wp2
                        go_roundw
                        case rel => exact ⟨k + 1, i2, _, dj, rfl, by go_num, by omega, by omega, by omega, HEj, by refine Lib.hid ?_; rw [HWj.out, rowW_drewN], by refine Lib.hid ?_; rw [← HO.out, show 5 - k = (5 - (k + 1)) + 1 by omega]; exact (pi_go ltInt HI2.out hib h50 KM.out KD2.out HD3.out (by rw [if_pos hi2b, ← HJ.out]; exact su_stop ltInt KJ.out (.inr (by rw [← HG.out.val, ← HG.out.val]; exact HL.out)))).symm⟩
                        case measure => simp [intOf]; omega
                    · have g5 : ¬ (j : Int) < (hi : Int) := by omega
                      go_wp2
                      go_roundw
                      case rel => exact ⟨k + 1, i2, _, dj, rfl, by go_num, by omega, by omega, by omega, HEj, HWj, by refine Lib.hid ?_; rw [← HO.out, show 5 - k = (5 - (k + 1)) + 1 by omega]; exact (pi_go ltInt HI2.out hib h50 KM.out KD2.out HD3.out (by rw [if_pos hi2b, ← HJ.out]; exact su_stop ltInt KJ.out (.inl hlt))).symm⟩
                      case measure => simp [intOf]; omega
                · have g4 : ¬ (2 : Int) ≤ (hi : Int) - (i2 : Int) := by omega
                  go_wp2
                  go_roundw
                  case rel => exact ⟨k + 1, i2, _, d3, rfl, by go_num, by omega, by omega, by omega, HE3, HW3, by refine Lib.hid ?_; rw [← HO.out, show 5 - k = (5 - (k + 1)) + 1 by omega]; exact (pi_go ltInt HI2.out hib h50 KM.out KD2.out HD3.out (if_neg hi2b)).symm⟩
                  case measure => simp [intOf]; omega
    · obtain rfl : k = 5 := by omega
      have HP : Hid (partialInsertionSort ltInt d lo hi = (dk, false)) := HO.out.symm
      go_wp2
      go_ret
      exact ⟨by rw [HP.out]; first | done | rfl, _, by rw [HP.out]; exact HW.out⟩
end Go.Proofs.Ytjoaenfibkgplaa

namespace Go.Proofs.Ytjoaenfibkgplaa
set_option linter.unusedSimpArgs false
open Go.RowKit Go.Cq Go.Sort Go.Shelf
set_option linter.unusedVariables false
def Try.lays125_ren : Go.Shelf.Ren := ⟨fun | 125 => 124 | 128 => 137 | 129 => 138 | n => n, fun | 46 => 75 | 3 => 3 | 51 => 27 | 53 => 130 | 4 => 4 | 5 => 5 | 9 => 9 | n => n, fun | n => n⟩
theorem Try.lays125 : Go.Proofs.Lays.n125 Try.prog Try.lays125_ren := {
  mixed := by kernel_rfl
  f125 := Try.func124.trans (congrArg some (by kernel_rfl))
  f128 := Try.func137.trans (congrArg some (by kernel_rfl))
  f129 := Try.func138.trans (congrArg some (by kernel_rfl))
  t3 := Try.underlying3
  a3 := Try.isAgg3
  z3 := Try.sizeOf3
  v3 := Try.zeroValue3
  t4 := Try.underlying4
  a4 := Try.isAgg4
  z4 := Try.sizeOf4
  v4 := Try.zeroValue4
  t5 := Try.underlying5
  a5 := Try.isAgg5
  z5 := Try.sizeOf5
  v5 := Try.zeroValue5
  t9 := Try.underlying9
  a9 := Try.isAgg9
  z9 := Try.sizeOf9
  v9 := Try.zeroValue9
  t46 := Try.underlying75
  a46 := Try.isAgg75
  z46 := Try.sizeOf75
  v46 := Try.zeroValue75
  t51 := Try.underlying27
  a51 := Try.isAgg27
  z51 := Try.sizeOf27
  v51 := Try.zeroValue27
  t53 := Try.underlying130
  a53 := Try.isAgg130
  z53 := Try.sizeOf130
  v53 := Try.zeroValue130 }
theorem bitsLen_any (x : Int) (w : World) (h0 : 0 ≤ x) (h1 : x ≤ 18446744073709551615) :
    Calls Try.prog 124 #[.int .u64 x] w fun e w' => e = .returned (.int .i64 (Lib.bitLen x.toNat)) ∧ w' = w := Any.bits_Len Try.lays125 x w h0 h1
end Go.Proofs.Ytjoaenfibkgplaa

namespace Go.Proofs.Ytjoaenfibkgplaa
set_option linter.unusedSimpArgs false
open Go.RowKit Go.Cq Go.Sort
set_option linter.unusedVariables false
/-- Nothing below the generator's block has turned; it reads so. -/
structure Rn (w w' : World) (rb x : Nat) : Prop where
  below : Below rb w w'
  cell : w'.cell? ⟨rb, 0, none⟩ = some (.int .u64 (x : Int))
  free : w'.frozen? ⟨rb, 0, none⟩ = false
theorem Rn.set {w w1 : World} {rb x : Nat} (h : Rn w w1 rb x) (y : Nat) : Rn w (w1.setCell ⟨rb, 0, none⟩ (.int .u64 (y : Int))) rb y :=
  ⟨h.below.setCell (p := ⟨rb, 0, none⟩) (Nat.le_refl _) _, World.cell?_setCell_same _ _ _ h.cell, (World.frozen?_setCell _ _ _ _).trans h.free⟩
theorem Rn.drewN {w w1 : World} {rb x : Nat} (h : Rn w w1 rb x) (n : Nat) : Rn w (w1.drewN n) rb x := ⟨below_drewN h.below n, h.cell, h.free⟩
theorem Rn.drew {w w1 : World} {rb x : Nat} (h : Rn w w1 rb x) : Rn w w1.drew rb x := h.drewN 1
theorem xor_lt {a b : Nat} (ha : a < 18446744073709551616) (hb : b < 18446744073709551616) : a ^^^ b < 18446744073709551616 := by
  have : (18446744073709551616 : Nat) = 2 ^ 64 := by decide
  rw [this] at *
  exact Nat.xor_lt_two_pow ha hb
set_option maxHeartbeats 1000000 in
/-- '(*slices.xorshift).Next'. -/
theorem next_any (rb x : Nat) (w : World) (hx : x < 18446744073709551616) (hr : Rn w w rb x) :
    Calls Try.prog 141 #[.pointer (some ⟨rb, 0, none⟩)] w fun e w' => e = .returned (.int .u64 (xorNextN x : Nat)) ∧ Rn w w' rb (xorNextN x) := by
  obtain ⟨a, ka⟩ : ∃ a, x ^^^ (x * 8192 % 18446744073709551616) = a := ⟨_, rfl⟩
  have ha : a < 18446744073709551616 := by rw [← ka]; exact xor_lt hx (by omega)
  obtain ⟨c, kc⟩ : ∃ c, a ^^^ (a / 128) = c := ⟨_, rfl⟩
  have hc : c < 18446744073709551616 := by rw [← kc]; exact xor_lt ha (by omega)
  obtain ⟨y, ky⟩ : ∃ y, c ^^^ (c * 131072 % 18446744073709551616) = y := ⟨_, rfl⟩
  have hy : y < 18446744073709551616 := by rw [← ky]; exact xor_lt hc (by omega)
  have e1 : bits .xor .u64 (x : Int) ((x : Int) * 8192 % 18446744073709551616) = (a : Int) := by
    rw [show (x : Int) * 8192 % 18446744073709551616 = ((x * 8192 % 18446744073709551616 : Nat) : Int) by omega, u64_xor_nat _ _ hx (by omega), ka]
  have e2 : bits .xor .u64 (a : Int) ((a : Int) / 128) = (c : Int) := by
    rw [show (a : Int) / 128 = ((a / 128 : Nat) : Int) by omega, u64_xor_nat _ _ ha (by omega), kc]
  have e3 : bits .xor .u64 (c : Int) ((c : Int) * 131072 % 18446744073709551616) = (y : Int) := by
    rw [show (c : Int) * 131072 % 18446744073709551616 = ((c * 131072 % 18446744073709551616 : Nat) : Int) by omega, u64_xor_nat _ _ hc (by omega), ky]
  have hN : xorNextN x = y := by unfold xorNextN; simp only; rw [ka, kc, ky]
  rw [hN]
  have e1' : bits .xor .u64 (x : Int) (IntKind.u64.wrap ((x : Int) * 8192)) = (a : Int) := by rw [IntKind.wrap_u64]; exact e1
  have e3' : bits .xor .u64 (c : Int) (IntKind.u64.wrap ((c : Int) * 131072)) = (y : Int) := by rw [IntKind.wrap_u64]; exact e3
  clear ka kc ky hN ha hc hy hx
  have cr := hr.cell
  have fr := hr.free
  have HR := Lib.hid hr
  clear hr
  go_enter Try.func141, Try.ntmps141
  go_wp2_with fail
  go_region
  all_goals
    have h1 := (HR.out.set a).drew
    clear cr fr HR
    generalize (w.setCell ⟨rb, 0, none⟩ (.int .u64 (a : Int))).drew = w1 at h1 ⊢
    have cr := h1.cell
    have fr := h1.free
    have H1 := Lib.hid h1
    clear h1
    go_wp2_with fail
    go_region
    all_goals
      have h2 : Rn w (w1.setCell ⟨rb, 0, none⟩ (.int .u64 (c : Int))).drew rb c := (H1.out.set c).drew
      clear cr fr H1
      generalize (w1.setCell ⟨rb, 0, none⟩ (.int .u64 (c : Int))).drew = w2 at h2 ⊢
      have cr := h2.cell
      have fr := h2.free
      have H2 := Lib.hid h2
      clear h2
      go_wp2_with fail
      go_region
      all_goals
        have h3 : Rn w (w2.setCell ⟨rb, 0, none⟩ (.int .u64 (y : Int))).drew rb y := (H2.out.set y).drew
        clear cr fr H2
        generalize (w2.setCell ⟨rb, 0, none⟩ (.int .u64 (y : Int))).drew = w3 at h3 ⊢
        have cr := h3.cell
        have H3 := Lib.hid h3
        clear h3
        go_wp2
        go_ret
        exact ⟨rfl, H3.out⟩
/-- 'slices.nextPowerOfTwo'. -/
theorem pow2_any (n : Nat) (w : World) (hn : n < 1152921504606846976) : Calls Try.prog 140 #[.int .i64 (n : Int)] w fun e w' => e = .returned (.int .u64 ((1 <<< bitsLen n : Nat) : Int)) ∧ w' = w := by
  have hb : bitsLen n ≤ 60 := (bitsLen_le_iff n 60).2 (by omega)
  have hl : Lib.bitLen n = bitsLen n := bitLen_eq n (by omega)
  have hp : (1 <<< bitsLen n : Nat) = 2 ^ bitsLen n := by rw [Nat.shiftLeft_eq, Nat.one_mul]
  have hlt : 2 ^ bitsLen n ≤ 2 ^ 60 := Nat.pow_le_pow_right (by decide) hb
  rw [hp]
  have HL := Lib.hid hl
  clear hl hp
  go_enter Try.func140, Try.ntmps140
  go_wp2_with fail
  refine (bitsLen_any (n : Int) w (by omega) (by omega)).mono ?_; rintro e w1 ⟨rfl, rfl⟩
  rw [Int.toNat_natCast, HL.out]
  have hw : IntKind.u64.wrap (2 ^ bitsLen n) = ((2 ^ bitsLen n : Nat) : Int) := by
    rw [show (2 : Int) ^ bitsLen n = ((2 ^ bitsLen n : Nat) : Int) by simp, IntKind.wrap_u64]
    generalize 2 ^ bitsLen n = q at hlt ⊢
    omega
  have HW := Lib.hid hw
  clear hw
  go_wp2_with fail
  go_ret
  refine ⟨?_, rfl⟩
  show Ending.returned (.int .u64 (IntKind.u64.wrap (2 ^ bitsLen n))) = _
  rw [HW.out]
end Go.Proofs.Ytjoaenfibkgplaa

namespace Go.Proofs.Ytjoaenfibkgplaa
set_option linter.unusedSimpArgs false
open Go.RowKit Go.Cq Go.Sort
set_option linter.unusedVariables false
theorem putRow_block (w : World) (b off : Nat) (e : Array Int) : (putRow encU w b off e).heap[b]? = (w.heap[b]?).map (onCells (putCells encU off e)) := by
  simp [putRow, mapBlock, Array.getElem?_modify]
theorem putRow_else (w : World) (b off k : Nat) (e : Array Int) (h : k ≠ b) : (putRow encU w b off e).heap[k]? = w.heap[k]? := by
  simp only [putRow, mapBlock, Array.getElem?_modify]
  rw [if_neg (fun c => h c.symm)]
/-- The row is rewritten; no other block that was there has turned. -/
structure SRel (w w' : World) (b off : Nat) (e : Array Int) : Prop where
  grown : w.grownBy w' (some b)
  row : w'.heap[b]? = (putRow encU w b off e).heap[b]?
theorem SRel.of_rowW (w : World) (n b off : Nat) (e : Array Int) : SRel w (rowW w n b off e) b off e :=
  ⟨⟨rfl, rfl, rfl, by show w.heap.size ≤ (w.heap.modify _ _).size; simp, fun k _ hk => putRow_else _ _ _ _ _ (fun c => hk (by rw [c]))⟩, rfl⟩
theorem SRel.refl {w : World} {b off : Nat} {d : Array Int} (h : Holds encU w b off d) : SRel w w b off d := by
  have := SRel.of_rowW w 0 b off d
  rwa [rowW_self h] at this
theorem SRel.trans {w w1 w2 : World} {b off : Nat} {e1 e2 : Array Int} (h1 : SRel w w1 b off e1) (h2 : SRel w1 w2 b off e2) (hs : e2.size = e1.size) : SRel w w2 b off e2 := by
  refine ⟨⟨h2.grown.os.trans h1.grown.os, h2.grown.tape.trans h1.grown.tape, h2.grown.output.trans h1.grown.output, Nat.le_trans h1.grown.size h2.grown.size, fun k hk hne => (h2.grown.block k (Nat.lt_of_lt_of_le hk h1.grown.size) hne).trans (h1.grown.block k hk hne)⟩, ?_⟩
  rw [h2.row, putRow_block, h1.row, ← putRow_block, putRow_putRow _ _ _ _ _ _ hs]
theorem SRel.below {w w1 w2 : World} {b off B : Nat} {e : Array Int} (h1 : SRel w w1 b off e) (hb : Below B w1 w2) (hB : w.heap.size ≤ B) (hbw : b < w.heap.size) : SRel w w2 b off e :=
  ⟨⟨hb.os.trans h1.grown.os, hb.tape.trans h1.grown.tape, hb.output.trans h1.grown.output, Nat.le_trans h1.grown.size hb.size, fun k hk hne => (hb.block k (by omega)).trans (h1.grown.block k hk hne)⟩, (hb.block b (by omega)).trans h1.row⟩
theorem cell_heap {w w' : World} {b : Nat} (h : w'.heap[b]? = w.heap[b]?) (j : Nat) : w'.cell? ⟨b, j, none⟩ = w.cell? ⟨b, j, none⟩ := by unfold World.cell?; rw [h]
theorem frozen_heap {w w' : World} {b : Nat} (h : w'.heap[b]? = w.heap[b]?) (j : Nat) : w'.frozen? ⟨b, j, none⟩ = w.frozen? ⟨b, j, none⟩ := by unfold World.frozen?; rw [h]
theorem SRel.holds {w w' : World} {b off : Nat} {d e : Array Int} (h : SRel w w' b off e) (hH : Holds encU w b off d) (hs : e.size = d.size) : Holds encU w' b off e := fun j hj => by
  obtain ⟨h1, h2⟩ := rowW_holds (n := 0) hH hs j hj
  exact ⟨(cell_heap (w := rowW w 0 b off e) h.row _).trans h1, (frozen_heap (w := rowW w 0 b off e) h.row _).trans h2⟩
theorem SRel.cellB {w w' : World} {b off : Nat} {e : Array Int} (h : SRel w w' b off e) (p : Addr) (hp : p.block < w.heap.size) (hne : p.block ≠ b) : w'.cell? p = w.cell? p := by
  unfold World.cell?
  rw [h.grown.block _ hp (fun c => hne (by have := Option.some.inj c; omega))]
theorem SRel.freeB {w w' : World} {b off : Nat} {e : Array Int} (h : SRel w w' b off e) (p : Addr) (hp : p.block < w.heap.size) (hne : p.block ≠ b) : w'.frozen? p = w.frozen? p := by
  unfold World.frozen?
  rw [h.grown.block _ hp (fun c => hne (by have := Option.some.inj c; omega))]

set_option maxHeartbeats 4000000 in
set_option maxRecDepth 100000 in
/-- 'slices.breakPatternsOrdered', at uint32. -/
theorem break_any (b off cap lo hi : Nat) (d : Array Int) (w : World) (hH : Holds encU w b off d) (hbw : b < w.heap.size) (h12 : 12 ≤ hi - lo) (hb : hi ≤ d.size) (hsz : d.size < 1152921504606846976) :
    Calls Try.prog 130 #[.slice (some ⟨b, off, none⟩) d.size cap, .int .i64 (lo : Int), .int .i64 (hi : Int)] w fun e w' => e = .returned (.tuple #[]) ∧ SRel w w' b off (breakPatterns d lo hi) ∧ (breakPatterns d lo hi).size = d.size := by
  have HH := Lib.hid hH
  clear hH
  obtain ⟨L, hL⟩ : ∃ L, hi = lo + L := ⟨hi - lo, by omega⟩
  have q0 : (hi : Int) - (lo : Int) = (L : Int) := by omega
  have hLb : lo + L ≤ d.size ∧ 12 ≤ L := by omega
  have HD : Hid (breakPatterns d lo hi = bpRest lo L (1 <<< bitsLen L) (lo + L / 4 * 2 - 1) 3 0 (UInt64.ofNat L, d)) := by refine Lib.hid ?_; rw [hL]; exact breakPatterns_eq d lo L (by omega)
  clear hL h12 hb
  obtain ⟨M, hM⟩ : ∃ M, 1 <<< bitsLen L = M := ⟨_, rfl⟩
  have hM2 : 1 ≤ M ∧ M ≤ 2 * L := by
    have h1 : (1 <<< bitsLen L : Nat) = 2 ^ bitsLen L := by rw [Nat.shiftLeft_eq, Nat.one_mul]
    have h2 := two_pow_bitsLen_le (n := L) (by omega)
    have h3 := Nat.two_pow_pos (bitsLen L)
    omega
  rw [hM] at HD
  have HM := Lib.hid hM
  clear hM
  obtain ⟨Q, hQ⟩ : ∃ Q, L / 4 = Q := ⟨_, rfl⟩
  have hQ2 : 4 * Q ≤ L ∧ 3 ≤ Q := by omega
  have q1 : (L : Int).tdiv 4 = (Q : Int) := by rw [Int.tdiv_eq_ediv_of_nonneg (by omega)]; omega
  have q1' : (L : Int) / 4 = (Q : Int) := by omega
  obtain ⟨I, hI⟩ : ∃ I, lo + L / 4 * 2 - 1 = I := ⟨_, rfl⟩
  rw [hI] at HD
  obtain ⟨Y, hY⟩ : ∃ Y, I + 1 = Y := ⟨_, rfl⟩
  obtain ⟨Z, hZ⟩ : ∃ Z, I + 2 = Z := ⟨_, rfl⟩
  have q2 : (Y : Int) - 1 = (I : Int) := by omega
  have q3 : (lo : Int) + (Q : Int) * 2 = (Y : Int) := by omega
  have q4 : (Y : Int) + 1 = (Z : Int) := by omega
  have i8 : decide ((8 : Int) ≤ (L : Int)) = true := by simp; omega
  have hIb : lo ≤ I ∧ I + 3 ≤ lo + L := by omega
  have hL64 : (UInt64.ofNat L).toNat = L := by rw [UInt64.toNat_ofNat']; omega
  have HZ := Lib.hid hZ
  clear hQ hI hY hZ
  go_enter Try.func130, Try.ntmps130
  go_wp2_with fail
  refine (pow2_any L _ (by omega)).mono ?_; rintro e w1 ⟨rfl, rfl⟩; rw [HM.out]
  have R0 : Hid (Rn w (w.alloc (.cells #[.int .u64 (L : Int)] 185)) w.heap.size L) := Lib.hid ⟨(Below.refl _ _).alloc (Nat.le_refl _) _, (World.cell?_alloc_new _ _ _ _).trans rfl, World.frozen?_alloc_new _ _ _ _⟩
  go_wp2_with fail
  go_loopw [9, 10] (fun v9 v10 wr => ∃ (it t : Nat) (R : UInt64) (e : Array Int), v9 = .int .i64 (it : Int) ∧ I + t = it ∧ t ≤ 3 ∧ Hid (e.size = d.size) ∧ Hid (SRel w wr b off e) ∧ Hid (wr.cell? ⟨w.heap.size, 0, none⟩ = some (.int .u64 (R.toNat : Int))) ∧ Hid (wr.frozen? ⟨w.heap.size, 0, none⟩ = false) ∧ Hid (bpRest lo L M I (3 - t) t (R, e) = breakPatterns d lo hi)) (fun v9 _ _ => I + 3 - (intOf v9).toNat)
  case atStart => exact ⟨I, 0, UInt64.ofNat L, d, rfl, rfl, by omega, rfl, Lib.hid ((SRel.refl HH.out).below ((Below.refl _ _).alloc (Nat.le_refl _) _) (Nat.le_refl _) hbw), by refine Lib.hid ?_; rw [hL64]; exact R0.out.cell, Lib.hid R0.out.free, Lib.hid HD.out.symm⟩
  case round =>
    obtain ⟨it, t, R, e, rfl, hit, ht, HE, HS, HC, HF, HO⟩ := hrel
    have HIT := Lib.hid hit
    have hz2 := HZ.out
    by_cases hlt : t < 3
    · have i1 : (it : Int) ≤ (Z : Int) := by omega
      have hitb : it < d.size ∧ lo ≤ it := by omega
      have hitm : it < I + 3 := by omega
      clear hit hz2
      obtain ⟨X, hX⟩ : ∃ X, xorNextN R.toNat = X := ⟨_, rfl⟩
      have hX2 : (xorNext R).toNat = X := by rw [xorNext_toNat]; exact hX
      have hXl : X < 18446744073709551616 := by rw [← hX2]; exact (xorNext R).toNat_lt
      obtain ⟨o1, ho1⟩ : ∃ o, X &&& (M - 1) = o := ⟨_, rfl⟩
      have ho1l : o1 < 2 * L := by have : o1 ≤ M - 1 := by rw [← ho1]; exact Nat.and_le_right
                                   omega
      have e5 : bits .and .u64 (X : Int) ((M : Int) - 1) = (o1 : Int) := by
        rw [show (M : Int) - 1 = ((M - 1 : Nat) : Int) by omega, u64_and_nat _ _ hXl (by omega), ho1]
      have HX := Lib.hid hX
      have HX2 := Lib.hid hX2
      have HO1 := Lib.hid ho1
      clear hX hX2 ho1
      have hRl : R.toNat < 18446744073709551616 := R.toNat_lt
      go_wp2_with fail
      refine (next_any w.heap.size R.toNat _ hRl ⟨Below.refl _ _, HC.out, HF.out⟩).mono ?_; rintro e0 w2 ⟨rfl, hR2⟩; rw [HX.out] at hR2 ⊢
      have hHr := HS.out.holds HH.out HE.out
      have hS2 := HS.out.below hR2.below (Nat.le_refl _) hbw
      have HS2 := Lib.hid hS2
      have hc2 := hR2.cell
      rw [← HX2.out] at hc2
      have HC2 := Lib.hid hc2
      have HF2 := Lib.hid hR2.free
      have hrb := World.block_lt_of_cell? w2 _ hR2.cell
      have hrb : w.heap.size < w2.heap.size := hrb
      have hH2' := hS2.holds HH.out HE.out
      obtain ⟨G, hG'⟩ := row_of (w := w2) (b := b) (off := off) (n := 0) (e := e) (d := e) (wr := w2) (rowW_self hH2').symm rfl
      have hes := HE.out
      have hG : Row w2 w2 0 b off e e G := hG'
      have hH2 := hH2'
      clear hR2 hS2 hc2 hG' hH2' hHr hRl hXl
      by_cases hol : L ≤ o1
      · have i5 : (L : Int) ≤ (o1 : Int) := by omega
        obtain ⟨o, ko⟩ : ∃ o, o1 - L = o := ⟨_, rfl⟩
        have q6 : (o1 : Int) - (L : Int) = (o : Int) := by omega
        have hob : o < L := by omega
        have HOO := Lib.hid ko
        clear ko
        obtain ⟨p, kp⟩ : ∃ p, lo + o = p := ⟨_, rfl⟩
        have q7 : (lo : Int) + (o : Int) = (p : Int) := by omega
        have w7 : IntKind.i64.wrap (p : Int) = (p : Int) := IntWalk.i64_in _ ⟨by omega, by omega⟩
        have hpb : p < d.size := by omega
        have KP := Lib.hid kp
        clear kp
        by_cases hitp : it = p
        · obtain rfl := hitp
          have c1 := hG.cells hH2 it (by omega)
          have f1 := hG.free hH2 it (by omega)
          have HG := Lib.hid hG
          clear hG hH2
          go_wp2_with fail
          go_region
          all_goals
            have hw0 := swapped HG.out 1 it it (by omega) (by omega)
            have hS3 := (SRel.of_rowW w2 (0 + 1) b off (swp e it it))
            rw [← hw0] at hS3
            have c9 := (hS3.cellB ⟨w.heap.size, 0, none⟩ hrb (fun c => by simp at c; omega)).trans HC2.out
            have f9 := (hS3.freeB ⟨w.heap.size, 0, none⟩ hrb (fun c => by simp at c; omega)).trans HF2.out
            have hS4 := HS2.out.trans hS3 (size_swp _ _ _)
            have C9 := Lib.hid c9
            have F9 := Lib.hid f9
            have S9 := Lib.hid hS4
            clear hw0 hS3 c9 f9 hS4
            go_wp2
            go_roundw
            case rel => exact ⟨it + 1, t + 1, xorNext R, swp e it it, by go_num, by have := HIT.out; omega, by omega, by refine Lib.hid ?_; rw [size_swp]; exact HE.out, S9, C9, F9, by refine Lib.hid ?_; rw [← HO.out, bp_step lo L M I t R e o hlt (by rw [HX2.out, HO1.out, if_pos hol]; exact HOO.out), HIT.out, KP.out]⟩
            case measure => simp [intOf]; omega
        · have hne : it < p ∨ p < it := by omega
          have c1 := hG.cells hH2 it (by omega)
          have f1 := hG.free hH2 it (by omega)
          have c2 := hG.cells hH2 p (by omega)
          have f2 := hG.free hH2 p (by omega)
          have HG := Lib.hid hG
          clear hG hH2
          go_wp2_with fail
          go_region
          all_goals
            have hw0 := swapped HG.out 1 it p (by omega) (by omega)
            have hS3 := (SRel.of_rowW w2 (0 + 1) b off (swp e it p))
            rw [← hw0] at hS3
            have c9 := (hS3.cellB ⟨w.heap.size, 0, none⟩ hrb (fun c => by simp at c; omega)).trans HC2.out
            have f9 := (hS3.freeB ⟨w.heap.size, 0, none⟩ hrb (fun c => by simp at c; omega)).trans HF2.out
            have hS4 := HS2.out.trans hS3 (size_swp _ _ _)
            have C9 := Lib.hid c9
            have F9 := Lib.hid f9
            have S9 := Lib.hid hS4
            clear hw0 hS3 c9 f9 hS4
            go_wp2
            go_roundw
            case rel => exact ⟨it + 1, t + 1, xorNext R, swp e it p, by go_num, by have := HIT.out; omega, by omega, by refine Lib.hid ?_; rw [size_swp]; exact HE.out, S9, C9, F9, by refine Lib.hid ?_; rw [← HO.out, bp_step lo L M I t R e o hlt (by rw [HX2.out, HO1.out, if_pos hol]; exact HOO.out), HIT.out, KP.out]⟩
            case measure => simp [intOf]; omega
      · have i5 : ¬ (L : Int) ≤ (o1 : Int) := by omega
        obtain ⟨p, kp⟩ : ∃ p, lo + o1 = p := ⟨_, rfl⟩
        have q7 : (lo : Int) + (o1 : Int) = (p : Int) := by omega
        have w7 : IntKind.i64.wrap (p : Int) = (p : Int) := IntWalk.i64_in _ ⟨by omega, by omega⟩
        have hpb : p < d.size := by omega
        have KP := Lib.hid kp
        clear kp
        by_cases hitp : it = p
        · obtain rfl := hitp
          have c1 := hG.cells hH2 it (by omega)
          have f1 := hG.free hH2 it (by omega)
          have HG := Lib.hid hG
          clear hG hH2
          go_wp2_with fail
          go_region
          all_goals
            have hw0 := swapped HG.out 1 it it (by omega) (by omega)
            have hS3 := (SRel.of_rowW w2 (0 + 1) b off (swp e it it))
            rw [← hw0] at hS3
            have c9 := (hS3.cellB ⟨w.heap.size, 0, none⟩ hrb (fun c => by simp at c; omega)).trans HC2.out
            have f9 := (hS3.freeB ⟨w.heap.size, 0, none⟩ hrb (fun c => by simp at c; omega)).trans HF2.out
            have hS4 := HS2.out.trans hS3 (size_swp _ _ _)
            have C9 := Lib.hid c9
            have F9 := Lib.hid f9
            have S9 := Lib.hid hS4
            clear hw0 hS3 c9 f9 hS4
            go_wp2
            go_roundw
            case rel => exact ⟨it + 1, t + 1, xorNext R, swp e it it, by go_num, by have := HIT.out; omega, by omega, by refine Lib.hid ?_; rw [size_swp]; exact HE.out, S9, C9, F9, by refine Lib.hid ?_; rw [← HO.out, bp_step lo L M I t R e o1 hlt (by rw [HX2.out, HO1.out, if_neg (by omega)]), HIT.out, KP.out]⟩
            case measure => simp [intOf]; omega
        · have hne : it < p ∨ p < it := by omega
          have c1 := hG.cells hH2 it (by omega)
          have f1 := hG.free hH2 it (by omega)
          have c2 := hG.cells hH2 p (by omega)
          have f2 := hG.free hH2 p (by omega)
          have HG := Lib.hid hG
          clear hG hH2
          go_wp2_with fail
          go_region
          all_goals
            have hw0 := swapped HG.out 1 it p (by omega) (by omega)
            have hS3 := (SRel.of_rowW w2 (0 + 1) b off (swp e it p))
            rw [← hw0] at hS3
            have c9 := (hS3.cellB ⟨w.heap.size, 0, none⟩ hrb (fun c => by simp at c; omega)).trans HC2.out
            have f9 := (hS3.freeB ⟨w.heap.size, 0, none⟩ hrb (fun c => by simp at c; omega)).trans HF2.out
            have hS4 := HS2.out.trans hS3 (size_swp _ _ _)
            have C9 := Lib.hid c9
            have F9 := Lib.hid f9
            have S9 := Lib.hid hS4
            clear hw0 hS3 c9 f9 hS4
            go_wp2
            go_roundw
            case rel => exact ⟨it + 1, t + 1, xorNext R, swp e it p, by go_num, by have := HIT.out; omega, by omega, by refine Lib.hid ?_; rw [size_swp]; exact HE.out, S9, C9, F9, by refine Lib.hid ?_; rw [← HO.out, bp_step lo L M I t R e o1 hlt (by rw [HX2.out, HO1.out, if_neg (by omega)]), HIT.out, KP.out]⟩
            case measure => simp [intOf]; omega
    · obtain rfl : t = 3 := by omega
      have i1 : ¬ (it : Int) ≤ (Z : Int) := by omega
      have HO2 : Hid (e = breakPatterns d lo hi) := HO
      clear hit hz2 HO
      go_wp2
      go_end0
      exact ⟨rfl, by rw [← HO2.out]; exact HS.out, by rw [← HO2.out]; exact HE.out⟩
end Go.Proofs.Ytjoaenfibkgplaa

namespace Go.Proofs.Ytjoaenfibkgplaa
set_option linter.unusedSimpArgs false
open Go.RowKit Go.Cq Go.Sort
set_option linter.unusedVariables false
/-- A callee's contract, behind what has been made of the row already. -/
theorem srel_step {w wr w' : World} {b off n : Nat} {d e e2 : Array Int} (hS : SRel w wr b off e) (hw : w' = rowW wr n b off e2) (hs : e2.size = e.size) : SRel w w' b off e2 := by
  subst hw
  exact hS.trans (SRel.of_rowW wr n b off e2) hs
section
variable {w wr : World} {b off cap lo hi : Nat} {d e : Array Int}
theorem ins_at (hH : Holds encU w b off d) (hS : SRel w wr b off e) (hs : e.size = d.size) (hab : lo ≤ hi) (hb : hi ≤ d.size) (hsz : d.size < 1152921504606846976) (hz : (insertionSort ltInt e lo hi).size = e.size) :
    Calls Try.prog 128 #[.slice (some ⟨b, off, none⟩) d.size cap, .int .i64 (lo : Int), .int .i64 (hi : Int)] wr fun r w' => r = .returned (.tuple #[]) ∧ SRel w w' b off (insertionSort ltInt e lo hi) := by
  have h := ins_any b off cap lo hi e wr (hS.holds hH hs) hab (by rw [hs]; exact hb) (by rw [hs]; omega)
  rw [hs] at h
  exact h.mono fun r w' ⟨h1, n, h2⟩ => ⟨h1, srel_step (d := d) hS h2 hz⟩
theorem heap_at (hH : Holds encU w b off d) (hS : SRel w wr b off e) (hs : e.size = d.size) (hab : lo ≤ hi) (hb : hi ≤ d.size) (hsz : d.size < 1152921504606846976) (hz : (heapSort ltInt e lo hi).size = e.size) :
    Calls Try.prog 129 #[.slice (some ⟨b, off, none⟩) d.size cap, .int .i64 (lo : Int), .int .i64 (hi : Int)] wr fun r w' => r = .returned (.tuple #[]) ∧ SRel w w' b off (heapSort ltInt e lo hi) := by
  have h := heap_any b off cap lo hi e wr (hS.holds hH hs) hab (by rw [hs]; exact hb) (by rw [hs]; exact hsz)
  rw [hs] at h
  exact h.mono fun r w' ⟨h1, n, h2⟩ => ⟨h1, srel_step (d := d) hS h2 hz⟩
theorem rev_at (hH : Holds encU w b off d) (hS : SRel w wr b off e) (hs : e.size = d.size) (hab : lo < hi) (hb : hi ≤ d.size) (hsz : d.size < 1152921504606846976) (hz : (reverseRange e lo hi).size = e.size) :
    Calls Try.prog 132 #[.slice (some ⟨b, off, none⟩) d.size cap, .int .i64 (lo : Int), .int .i64 (hi : Int)] wr fun r w' => r = .returned (.tuple #[]) ∧ SRel w w' b off (reverseRange e lo hi) := by
  have h := rev_any b off cap lo hi e wr (hS.holds hH hs) hab (by rw [hs]; exact hb) (by rw [hs]; exact hsz)
  rw [hs] at h
  exact h.mono fun r w' ⟨h1, n, h2⟩ => ⟨h1, srel_step (d := d) hS h2 hz⟩
theorem pins_at (hH : Holds encU w b off d) (hS : SRel w wr b off e) (hs : e.size = d.size) (hab : lo < hi) (hb : hi ≤ d.size) (hsz : d.size < 1152921504606846976) (hz : (partialInsertionSort ltInt e lo hi).1.size = e.size) :
    Calls Try.prog 133 #[.slice (some ⟨b, off, none⟩) d.size cap, .int .i64 (lo : Int), .int .i64 (hi : Int)] wr fun r w' => r = .returned (.bool (partialInsertionSort ltInt e lo hi).2) ∧ SRel w w' b off (partialInsertionSort ltInt e lo hi).1 := by
  have h := pins_any b off cap lo hi e wr (hS.holds hH hs) hab (by rw [hs]; exact hb) (by rw [hs]; exact hsz)
  rw [hs] at h
  exact h.mono fun r w' ⟨h1, n, h2⟩ => ⟨h1, srel_step (d := d) hS h2 hz⟩
theorem part_at {piv : Nat} (hH : Holds encU w b off d) (hS : SRel w wr b off e) (hs : e.size = d.size) (hp1 : lo ≤ piv) (hp2 : piv < hi) (hb : hi ≤ d.size) (hsz : d.size < 1152921504606846976) (hz : (Sort.partition ltInt e lo hi piv).2.2.size = e.size) :
    Calls Try.prog 136 #[.slice (some ⟨b, off, none⟩) d.size cap, .int .i64 (lo : Int), .int .i64 (hi : Int), .int .i64 (piv : Int)] wr fun r w' =>
      r = .returned (.tuple #[.int .i64 ((Sort.partition ltInt e lo hi piv).1 : Nat), .bool (Sort.partition ltInt e lo hi piv).2.1]) ∧ SRel w w' b off (Sort.partition ltInt e lo hi piv).2.2 := by
  have h := part_any b off cap lo hi piv e wr (hS.holds hH hs) (by omega) (by rw [hs]; exact hb) hp1 hp2 (by rw [hs]; exact hsz)
  rw [hs] at h
  exact h.mono fun r w' ⟨h1, n, h2⟩ => ⟨h1, srel_step (d := d) hS h2 hz⟩
theorem parteq_at {piv : Nat} (hH : Holds encU w b off d) (hS : SRel w wr b off e) (hs : e.size = d.size) (hp1 : lo ≤ piv) (hp2 : piv < hi) (hb : hi ≤ d.size) (hsz : d.size < 1152921504606846976) (hz : (partitionEqual ltInt e lo hi piv).2.size = e.size) :
    Calls Try.prog 135 #[.slice (some ⟨b, off, none⟩) d.size cap, .int .i64 (lo : Int), .int .i64 (hi : Int), .int .i64 (piv : Int)] wr fun r w' =>
      r = .returned (.int .i64 ((partitionEqual ltInt e lo hi piv).1 : Nat)) ∧ SRel w w' b off (partitionEqual ltInt e lo hi piv).2 := by
  have h := parteq_any b off cap lo hi piv e wr (hS.holds hH hs) (by omega) (by rw [hs]; exact hb) hp1 hp2 (by rw [hs]; exact hsz)
  rw [hs] at h
  exact h.mono fun r w' ⟨h1, n, h2⟩ => ⟨h1, srel_step (d := d) hS h2 hz⟩
theorem break_at (hH : Holds encU w b off d) (hS : SRel w wr b off e) (hs : e.size = d.size) (hbw : b < w.heap.size) (h12 : 12 ≤ hi - lo) (hb : hi ≤ d.size) (hsz : d.size < 1152921504606846976) :
    Calls Try.prog 130 #[.slice (some ⟨b, off, none⟩) d.size cap, .int .i64 (lo : Int), .int .i64 (hi : Int)] wr fun r w' => r = .returned (.tuple #[]) ∧ SRel w w' b off (breakPatterns e lo hi) := by
  have h := break_any b off cap lo hi e wr (hS.holds hH hs) (Nat.lt_of_lt_of_le hbw hS.grown.size) h12 (by rw [hs]; exact hb) (by rw [hs]; exact hsz)
  rw [hs] at h
  exact h.mono fun r w' ⟨h1, h2, h3⟩ => ⟨h1, hS.trans h2 (by rw [h3, hs])⟩
theorem choose_at (hH : Holds encU w b off d) (hS : SRel w wr b off e) (hs : e.size = d.size) (hbw : b < w.heap.size) (h12 : 12 ≤ hi - lo) (hb : hi ≤ d.size) (hsz : d.size < 1152921504606846976) :
    Calls Try.prog 131 #[.slice (some ⟨b, off, none⟩) d.size cap, .int .i64 (lo : Int), .int .i64 (hi : Int)] wr fun r w' =>
      r = .returned (.tuple #[.int .i64 ((choosePivot ltInt e lo hi).1 : Nat), .int .i64 (hintN (choosePivot ltInt e lo hi).2 : Nat)]) ∧ SRel w w' b off e := by
  have h := choose_any b off cap lo hi e wr (hS.holds hH hs) (Nat.lt_of_lt_of_le hbw hS.grown.size) h12 (by rw [hs]; exact hb) (by rw [hs]; exact hsz)
  rw [hs] at h
  exact h.mono fun r w' ⟨h1, h2⟩ => ⟨h1, hS.below h2 hS.grown.size hbw⟩
end
end Go.Proofs.Ytjoaenfibkgplaa

namespace Go.Proofs.Ytjoaenfibkgplaa
set_option linter.unusedSimpArgs false
open Go.RowKit Go.Cq Go.Sort
set_option linter.unusedVariables false
theorem swoI : SWO ltInt where
  irrefl := by intro x; simp [ltInt]
  trans := by intro x y z; simp [ltInt]; omega
  ntrans := by intro x y z; simp [ltInt]; omega
theorem pdq_size {e : Array Int} {a c lim : Nat} {wb wp : Bool} (h1 : a ≤ c) (h2 : c ≤ e.size) (hB : Go.Sort.Below ltInt a c e) : (pdq ltInt e a c lim wb wp).size = e.size := (pdq_sorts ltInt swoI e a c lim wb wp h1 h2 hB).1.1
theorem hintN_two {h : Hint} (e : ((hintN h : Nat) : Int) = 2) : h = .decreasing := by cases h <;> simp [hintN] at e ⊢
theorem SRel.drawn {w w' : World} {b off n : Nat} {e : Array Int} (h : SRel w w' b off e) : SRel w (w'.drewN n) b off e := ⟨⟨h.grown.os, h.grown.tape, h.grown.output, h.grown.size, h.grown.block⟩, h.row⟩
theorem eighthI {x y p q : Nat} (h1 : q ≤ p) (h2 : y ≤ x) : decide (((x : Int) - (y : Int)) / 8 ≤ (p : Int) - (q : Int)) = decide (p - q ≥ (x - y) / 8) :=
  decide_eq_decide.2 ⟨fun h => by omega, fun h => by omega⟩
/-- What 'slices.pdqsortOrdered' is to do, at so many elements. -/
def PdqDoes (b off cap N : Nat) : Prop := ∀ (lo hi limit : Nat) (d : Array Int) (w : World), hi - lo = N → Holds encU w b off d → b < w.heap.size → lo ≤ hi → hi ≤ d.size → d.size < 1152921504606846976 → limit < 1000000 → Go.Sort.Below ltInt lo hi d →
  Calls Try.prog 123 #[.slice (some ⟨b, off, none⟩) d.size cap, .int .i64 (lo : Int), .int .i64 (hi : Int), .int .i64 (limit : Int)] w fun r w' => r = .returned (.tuple #[]) ∧ SRel w w' b off (pdq ltInt d lo hi limit true true)
theorem pdq_at {b off cap M lo hi limit : Nat} {d e : Array Int} {w wr : World} (ih : PdqDoes b off cap M) (hM : hi - lo = M) (hH : Holds encU w b off d) (hS : SRel w wr b off e) (hs : e.size = d.size) (hbw : b < w.heap.size) (hab : lo ≤ hi) (hb : hi ≤ d.size) (hsz : d.size < 1152921504606846976) (hl : limit < 1000000) (hB : Go.Sort.Below ltInt lo hi e) :
    Calls Try.prog 123 #[.slice (some ⟨b, off, none⟩) d.size cap, .int .i64 (lo : Int), .int .i64 (hi : Int), .int .i64 (limit : Int)] wr fun r w' => r = .returned (.tuple #[]) ∧ SRel w w' b off (pdq ltInt e lo hi limit true true) := by
  have h := ih lo hi limit e wr hM (hS.holds hH hs) (Nat.lt_of_lt_of_le hbw hS.grown.size) hab (by rw [hs]; exact hb) (by rw [hs]; exact hsz) hl hB
  rw [hs] at h
  exact h.mono fun r w' ⟨h1, h2⟩ => ⟨h1, hS.trans h2 (pdq_size hab (by rw [hs]; exact hb) hB)⟩

set_option maxHeartbeats 8000000 in
set_option maxRecDepth 100000 in
theorem pdq_walk (b off cap N : Nat) (ih : ∀ M, M < N → PdqDoes b off cap M) : PdqDoes b off cap N := by
  intro lo hi limit d w hN hH hbw hab hb hsz hlim hB
  have HH := Lib.hid hH
  have IH := Lib.hid ih
  have HBL := Lib.hid hB
  clear hH ih hB
  go_enter Try.func123, Try.ntmps123
  go_wp2_with fail
  go_loopw [1, 2, 3, 8, 9] (fun v1 v2 v3 v8 v9 wr => ∃ (a c lim : Nat) (wb wp : Bool) (e : Array Int), v1 = .int .i64 (a : Int) ∧ v2 = .int .i64 (c : Int) ∧ v3 = .int .i64 (lim : Int) ∧ v8 = .bool wb ∧ v9 = .bool wp ∧ a ≤ c ∧ c ≤ d.size ∧ c - a ≤ N ∧ lim < 1000000 ∧ Hid (e.size = d.size) ∧ Hid (SRel w wr b off e) ∧ Hid (Go.Sort.Below ltInt a c e) ∧ Hid (pdq ltInt e a c lim wb wp = pdq ltInt d lo hi limit true true)) (fun v1 v2 _ _ _ _ => (intOf v2 - intOf v1).toNat)
  case atStart => exact ⟨lo, hi, limit, true, true, d, rfl, rfl, rfl, rfl, rfl, hab, hb, by omega, hlim, rfl, Lib.hid (SRel.refl HH.out), HBL, rfl⟩
  case round =>
    obtain ⟨a, c, lim, wb, wp, e, rfl, rfl, rfl, rfl, rfl, hac, hcd, hcN, hll, HE, HS, HB, HP⟩ := hrel
    clear hN hab hb hlim HBL
    obtain ⟨L, hL⟩ : ∃ L, c - a = L := ⟨_, rfl⟩
    have q1 : (c : Int) - (a : Int) = (L : Int) := by omega
    by_cases h12 : L ≤ 12
    · have g1 : (L : Int) ≤ 12 := by omega
      have HI : Hid (pdq ltInt e a c lim wb wp = insertionSort ltInt e a c) := Lib.hid (pdq_small (by omega))
      have HZ : Hid ((insertionSort ltInt e a c).size = e.size) := Lib.hid (insertionSort_holds swoI e a c hac (by rw [HE.out]; exact hcd)).1.1
      clear hL
      go_wp2_with fail
      refine (ins_at HH.out HS.out HE.out hac hcd hsz HZ.out).mono ?_; rintro r w1 ⟨rfl, h1⟩
      have H1 := Lib.hid h1
      clear h1
      go_wp2
      first | go_end0 | refine bodyPost_ret (results_none rfl _ _ _) rfl ?_
      exact ⟨rfl, by rw [← HP.out, HI.out]; exact H1.out⟩
    · have g1 : ¬ (L : Int) ≤ 12 := by omega
      have h12' : ¬ c - a ≤ 12 := by omega
      by_cases hl0 : lim = 0
      · have g2 : (lim : Int) = 0 := by omega
        have HI : Hid (pdq ltInt e a c lim wb wp = heapSort ltInt e a c) := Lib.hid (pdq_heap h12' hl0)
        have HZ : Hid ((heapSort ltInt e a c).size = e.size) := Lib.hid (heapSort_holds swoI e a c hac (by rw [HE.out]; exact hcd)).1.1
        clear hL
        go_wp2_with fail
        refine (heap_at HH.out HS.out HE.out hac hcd hsz HZ.out).mono ?_; rintro r w1 ⟨rfl, h1⟩
        have H1 := Lib.hid h1
        clear h1
        go_wp2
        first | go_end0 | refine bodyPost_ret (results_none rfl _ _ _) rfl ?_
        exact ⟨rfl, by rw [← HP.out, HI.out]; exact H1.out⟩
      · have g2 : ¬ (lim : Int) = 0 := by omega
        have g3 : ((lim : Int) == 0) = false := by rw [beq_eq_false_iff_ne]; exact g2
        have F := rd_facts (limit := lim) (wb := wb) (wp := wp) swoI partialInsertionSort_holds reverseRange_holds (show a < c by omega) (show c ≤ e.size by rw [HE.out]; exact hcd) HB.out
        have hlime := rd_lim_le (lt := ltInt) (d := e) (a := a) (b := c) (limit := lim) (wb := wb) (wp := wp)
        have hC0 := rd_c (lt := ltInt) (d := e) (a := a) (b := c) (limit := lim) (wb := wb) (wp := wp)
        have hD := rd_dec (lt := ltInt) (d := e) (a := a) (b := c) (limit := lim) (wb := wb) (wp := wp)
        have hN := rd_not (lt := ltInt) (d := e) (a := a) (b := c) (limit := lim) (wb := wb) (wp := wp)
        have hY := rd_pi_yes (lt := ltInt) (d := e) (a := a) (b := c) (limit := lim) (wb := wb) (wp := wp)
        have hNo := rd_pi_no (lt := ltInt) (d := e) (a := a) (b := c) (limit := lim) (wb := wb) (wp := wp)
        have hdone := pdq_done (lt := ltInt) (d := e) (a := a) (b := c) (limit := lim) (wb := wb) (wp := wp) h12' hl0
        have hpeq := pdq_eq (lt := ltInt) (d := e) (a := a) (b := c) (limit := lim) (wb := wb) (wp := wp) h12' hl0
        have hpl := pdq_left (lt := ltInt) (d := e) (a := a) (b := c) (limit := lim) (wb := wb) (wp := wp) h12' hl0
        have hpr := pdq_right (lt := ltInt) (d := e) (a := a) (b := c) (limit := lim) (wb := wb) (wp := wp) h12' hl0
        have hd1 : wb = false → (rd ltInt e a c lim wb wp).d1 = breakPatterns e a c ∧ (rd ltInt e a c lim wb wp).lim = lim - 1 := by rintro rfl; exact rd_false
        have hd2 : wb = true → (rd ltInt e a c lim wb wp).d1 = e ∧ (rd ltInt e a c lim wb wp).lim = lim := by rintro rfl; exact rd_true
        generalize rd ltInt e a c lim wb wp = R at F hlime hC0 hD hN hY hNo hdone hpeq hpl hpr hd1 hd2
        obtain ⟨r1, r2, r3, r4, r5, r6, r7, r8⟩ := F
        have E1 : Hid (R.d1.size = d.size) := Lib.hid (r1.trans HE.out)
        have E2 : Hid (R.d2.size = d.size) := Lib.hid (r4.trans HE.out)
        have E3 : Hid (R.pi.1.size = d.size) := Lib.hid (r7.trans HE.out)
        have B2 := Lib.hid r5
        have B3 := Lib.hid r8
        have HC0 := Lib.hid hC0
        have HD := Lib.hid hD
        have HN := Lib.hid hN
        have HY := Lib.hid hY
        have HNo := Lib.hid hNo
        have HDN := Lib.hid hdone
        have HEQ := Lib.hid hpeq
        have HLF := Lib.hid hpl
        have HRT := Lib.hid hpr
        have HD1 := Lib.hid hd1
        have HD2 := Lib.hid hd2
        have h12a : 12 ≤ c - a := by omega
        have hacl : a < c := by omega
        have hlr : R.lim < 1000000 := by omega
        have hl1 : 1 ≤ lim := by omega
        have HLL := Lib.hid hL
        clear r1 r2 r4 r5 r7 r8 hC0 hD hN hY hNo hdone hpeq hpl hpr hd1 hd2 hL h12' hlime
        go_upto_if 35 with (fail)
        go_cut [3] from 35 to 41 (fun v3 wr => v3 = .int .i64 (R.lim : Int) ∧ Hid (SRel w wr b off R.d1))
        case first =>
          cases wb with
          | true =>
            obtain ⟨k1, k2⟩ := HD2.out rfl
            have K1 := Lib.hid k1
            have K2 := Lib.hid k2
            clear k1 k2
            go_wp2_with fail
            go_meet
            case rel => exact ⟨by rw [K2.out], by refine Lib.hid ?_; rw [K1.out]; exact HS.out⟩
          | false =>
            obtain ⟨k1, k2⟩ := HD1.out rfl
            have K1 := Lib.hid k1
            have q2 : (lim : Int) - 1 = (R.lim : Int) := by omega
            clear k1 k2
            go_wp2_with fail
            refine (break_at HH.out HS.out HE.out hbw h12a hcd hsz).mono ?_; rintro r w1 ⟨rfl, h1⟩
            rw [← K1.out] at h1
            have H1 := Lib.hid h1
            clear h1
            go_wp2_with fail
            go_meet
            case rel => exact ⟨rfl, H1⟩
        case rest =>
          obtain ⟨rfl, HS1⟩ := hcut
          go_wp2_with fail
          refine (choose_at HH.out HS1.out E1.out hbw h12a hcd hsz).mono ?_; rintro r w1 ⟨rfl, h1⟩
          rw [← HC0.out]
          have HS2 := Lib.hid h1
          clear h1
          go_upto_if 50 with (fail)
          go_cut [11, 12] from 42 to 60 (fun v11 v12 wr => v11 = .int .i64 (R.pivot : Int) ∧ v12 = .int .i64 (hintN R.hint : Nat) ∧ Hid (SRel w wr b off R.d2))
          case first =>
            by_cases hh : R.c.2 = .decreasing
            · have q3 : ((hintN R.c.2 : Nat) : Int) = 2 := by rw [hh]; rfl
              obtain ⟨k1, k2, k3⟩ := HD.out hh
              have HZ : Hid ((reverseRange R.d1 a c).size = R.d1.size) := Lib.hid (by rw [← k1, E2.out, E1.out])
              have K1 := Lib.hid k1
              have K3 := Lib.hid k3
              have q4 : (c : Int) - 1 - ((R.c.1 : Int) - (a : Int)) = (R.pivot : Int) := by omega
              clear k1 k2 k3 hh
              go_wp2_with fail
              refine (rev_at HH.out HS2.out E1.out hacl hcd hsz HZ.out).mono ?_; rintro r w3 ⟨rfl, h1⟩
              rw [← K1.out] at h1
              have HS3 := Lib.hid h1
              clear h1
              go_wp2_with fail
              go_meet
              case rel => exact ⟨rfl, by rw [K3.out]; rfl, HS3⟩
            · have q3 : ¬ ((hintN R.c.2 : Nat) : Int) = 2 := fun h => hh (hintN_two h)
              obtain ⟨k1, k2, k3⟩ := HN.out hh
              have K1 := Lib.hid k1
              have K2 := Lib.hid k2
              have K3 := Lib.hid k3
              clear k1 k2 k3 hh
              go_wp2_with fail
              go_meet
              case rel => exact ⟨by rw [K2.out], by rw [K3.out], by rw [K1.out]; exact HS2⟩
          case rest =>
            obtain ⟨rfl, rfl, HS3⟩ := hcut
            clear HS2 HS1 HD HN HC0 r3
            go_upto_region 15 with (fail)
            go_cut [12, 68] from 19 (fun v12 v68 wx => v12 = .int .i64 (hintN R.hint : Nat) ∧ v68 = .bool (wb && wp && decide (R.hint = .increasing)) ∧ Hid (SRel w wx b off R.d2))
            case first =>
              obtain ⟨H, hH⟩ : ∃ H, R.hint = H := ⟨_, rfl⟩
              have q3 : ((hintN R.hint : Nat) : Int) = (hintN H : Nat) := by rw [hH]
              have HHH := Lib.hid hH
              clear hH
              cases wb <;> cases wp <;> cases H <;>
                (simp only [hintN] at q3
                 go_wp2_with fail
                 go_meet
                 exact ⟨by rw [HHH.out], by rw [HHH.out]; rfl, HS3⟩)
            case rest =>
              obtain ⟨rfl, rfl, HS4⟩ := hcut
              clear HS3
              go_upto_if 68 with (fail)
              go_cut [] from 19 (fun wx => R.pi.2 = false ∧ Hid (SRel w wx b off R.pi.1))
              case first =>
                cases h68 : (wb && wp && decide (R.hint = .increasing)) with
                | false =>
                  have K := Lib.hid (HNo.out h68)
                  clear h68
                  go_wp2_with fail
                  go_meet
                  case rel => exact ⟨by rw [K.out], by rw [K.out]; exact HS4⟩
                | true =>
                  have K := Lib.hid (HY.out h68)
                  have HZ : Hid ((partialInsertionSort ltInt R.d2 a c).1.size = R.d2.size) := Lib.hid (by rw [← K.out, E3.out, E2.out])
                  clear h68
                  go_wp2_with fail
                  refine (pins_at HH.out HS4.out E2.out hacl hcd hsz HZ.out).mono ?_; rintro r w4 ⟨rfl, h1⟩
                  rw [← K.out] at h1 ⊢
                  have H1 := Lib.hid h1
                  clear h1
                  cases hp2 : R.pi.2 with
                  | false =>
                    go_wp2
                    go_meet
                    exact ⟨hp2, H1⟩
                  | true =>
                    have HDD := Lib.hid (HDN.out hp2)
                    clear hp2
                    go_wp2
                    first | go_end0 | refine bodyPost_ret (results_none rfl _ _ _) rfl ?_
                    exact ⟨rfl, by rw [← HP.out, HDD.out]; exact H1.out⟩
              case rest =>
                obtain ⟨hp2, HS5⟩ := hcut
                have HP2 := Lib.hid hp2
                clear hp2 HS4 HY HNo HDN
                have hH5 := HS5.out.holds HH.out E3.out
                have c2 : wc.cell? ⟨b, off + R.pivot, none⟩ = some (.int .u32 (R.pi.1[R.pivot]!)) := (hH5 R.pivot (by rw [E3.out]; omega)).1
                have c1 : wc.cell? ⟨b, off + (a - 1), none⟩ = some (.int .u32 (R.pi.1[a - 1]!)) := (hH5 (a - 1) (by rw [E3.out]; omega)).1
                clear hH5
                go_upto_region 17 with (fail)
                go_cut [87] from 19 (fun v87 wx => v87 = .bool (decide (a > 0) && !ltInt R.pi.1[a - 1]! R.pi.1[R.pivot]!) ∧ Hid (SRel w wx b off R.pi.1))
                case first =>
                  obtain ⟨y2, hy2⟩ : ∃ y, R.pi.1[R.pivot]! = y := ⟨_, rfl⟩
                  obtain ⟨y1, hy1⟩ : ∃ y, R.pi.1[a - 1]! = y := ⟨_, rfl⟩
                  rw [hy1] at c1
                  rw [hy2] at c2
                  have Y1 := Lib.hid hy1
                  have Y2 := Lib.hid hy2
                  clear hy1 hy2
                  by_cases ha0 : a = 0
                  · have ga : decide ((a : Int) > 0) = false := decide_eq_false (by omega)
                    have gb : decide (0 < a) = false := decide_eq_false (by omega)
                    have gd : decide (a > 0) = false := decide_eq_false (by omega)
                    have GD := Lib.hid gd
                    clear gd ha0
                    go_quiet ((go_at_call 134; refine (less_any _ _ _).mono ?_; rintro e0 w'' ⟨rfl, rfl⟩; exact ⟨rfl, _, rfl⟩))
                    go_wp2_with fail
                    go_meet
                    case rel => exact ⟨by rw [GD.out]; rfl, Lib.hid (HS5.out.drawn)⟩
                  · obtain ⟨am, hma⟩ : ∃ am, a - 1 = am := ⟨_, rfl⟩
                    have q5 : (a : Int) - 1 = (am : Int) := by omega
                    have w5 : IntKind.i64.wrap (am : Int) = (am : Int) := IntWalk.i64_in _ ⟨by omega, by omega⟩
                    have ga : decide ((a : Int) > 0) = true := decide_eq_true (by omega)
                    have gb : decide (0 < a) = true := decide_eq_true (by omega)
                    have ha1 : 0 < a := by omega
                    have hma1 : am < d.size := by omega
                    rw [hma] at c1
                    have gd : decide (a > 0) = true := decide_eq_true (by omega)
                    have GD := Lib.hid gd
                    clear gd hma
                    go_quiet ((go_at_call 134; refine (less_any _ _ _).mono ?_; rintro e0 w'' ⟨rfl, rfl⟩; exact ⟨rfl, _, rfl⟩))
                    go_wp2_with fail
                    go_meet
                    case rel => exact ⟨by rw [GD.out, Y1.out, Y2.out]; rfl, Lib.hid (HS5.out.drawn)⟩
                case rest =>
                  obtain ⟨rfl, HS6⟩ := hcut
                  clear HS5 c1 c2
                  cases h87 : (decide (a > 0) && !ltInt R.pi.1[a - 1]! R.pi.1[R.pivot]!) with
                  | false =>
                    obtain ⟨mid, ap, d4, hx⟩ : ∃ mid ap d4, Sort.partition ltInt R.pi.1 a c R.pivot = (mid, ap, d4) := ⟨(Sort.partition ltInt R.pi.1 a c R.pivot).1, (Sort.partition ltInt R.pi.1 a c R.pivot).2.1, (Sort.partition ltInt R.pi.1 a c R.pivot).2.2, rfl⟩
                    obtain ⟨r1, r2, r3, r4, r5, r6', r7⟩ := round_part swoI (partition_holds ltInt) r6.1 r6.2 (show c ≤ R.pi.1.size by rw [E3.out]; exact hcd) B3.out hx
                    have HZ : Hid ((Sort.partition ltInt R.pi.1 a c R.pivot).2.2.size = R.pi.1.size) := Lib.hid (hx ▸ r3)
                    have HLF' := HLF.out HP2.out h87
                    have HRT' := HRT.out HP2.out h87
                    rw [hx] at HLF' HRT'
                    have HLFH := Lib.hid (HLF' ⟨r1, r2⟩)
                    have HRTH := Lib.hid (HRT' ⟨r1, r2⟩)
                    have E4 : Hid (d4.size = d.size) := Lib.hid (r3.trans E3.out)
                    have HX := Lib.hid hx
                    have H6 := Lib.hid r6
                    have HP6 := Lib.hid r6'
                    have HP7 := Lib.hid r7
                    have H4 := Lib.hid r4
                    have H5 := Lib.hid r5
                    clear hx r3 r4 r5 r6 r6' r7 HLF' HRT' HLF HRT HEQ h87
                    go_upto_if 113 with (fail)
                    refine (part_at HH.out HS6.out E3.out H6.out.1 H6.out.2 hcd hsz HZ.out).mono ?_; rintro r w7 ⟨rfl, h1⟩
                    rw [HX.out] at h1 ⊢
                    have HS7 := Lib.hid h1
                    clear h1 HS6
                    obtain ⟨m1, hm1⟩ : ∃ m1, mid + 1 = m1 := ⟨_, rfl⟩
                    have q6 : (mid : Int) + 1 = (m1 : Int) := by omega
                    rw [hm1] at HLFH HRTH HP6 HP7 H5
                    have hm2 : mid < m1 ∧ m1 ≤ mid + 1 := by omega
                    clear hm1
                    by_cases h4 : mid - a < c - mid
                    · have h4z : (mid : Int) - (a : Int) < (c : Int) - (mid : Int) := by omega
                      obtain ⟨D, hD⟩ : ∃ D, pdq ltInt d4 a mid R.lim true true = D := ⟨_, rfl⟩
                      have hh1 := HLFH.out h4
                      have pS := pdq_sorts ltInt swoI d4 a mid R.lim true true r1 (by rw [E4.out]; omega) H4.out
                      have E5 : Hid (D.size = d.size) := Lib.hid (by rw [← hD, pS.1.1]; exact E4.out)
                      have B5 := Lib.hid ((HP6.out _ pS.1 pS.2).1)
                      rw [hD] at hh1 B5
                      have HQ := Lib.hid (hh1.symm.trans HP.out)
                      have hk := pdq_at (IH.out (mid - a) (by omega)) rfl HH.out HS7.out E4.out hbw r1 (show mid ≤ d.size by omega) hsz hlr H4.out (cap := cap)
                      rw [hD] at hk
                      have HK := Lib.hid hk
                      have HM : Hid (decide ((L : Int) / 8 ≤ (mid : Int) - (a : Int)) = decide (mid - a ≥ (c - a) / 8)) := Lib.hid (by rw [← q1]; exact eighthI (by omega) (by omega))
                      clear hh1 pS hD hk h4 HLFH HRTH HP6 HP7
                      go_wp2_with fail
                      refine HK.out.mono ?_; rintro r w8 ⟨rfl, h1⟩
                      have H1 := Lib.hid h1
                      clear h1
                      go_wp2
                      go_roundw
                      case rel => exact ⟨m1, c, R.lim, decide (mid - a ≥ (c - a) / 8), ap, D, rfl, rfl, rfl, by rw [← HM.out]; first | done | rfl, rfl, by omega, hcd, by omega, hlr, E5, H1, B5, HQ⟩
                      case measure => simp [intOf]; omega
                    · have h4z : ¬ (mid : Int) - (a : Int) < (c : Int) - (mid : Int) := by omega
                      obtain ⟨D, hD⟩ : ∃ D, pdq ltInt d4 m1 c R.lim true true = D := ⟨_, rfl⟩
                      have hh1 := HRTH.out h4
                      have pS := pdq_sorts ltInt swoI d4 m1 c R.lim true true (by omega) (by rw [E4.out]; omega) H5.out
                      have E5 : Hid (D.size = d.size) := Lib.hid (by rw [← hD, pS.1.1]; exact E4.out)
                      have B5 := Lib.hid ((HP7.out _ pS.1 pS.2).1)
                      rw [hD] at hh1 B5
                      have HQ := Lib.hid (hh1.symm.trans HP.out)
                      have hk := pdq_at (IH.out (c - m1) (by omega)) rfl HH.out HS7.out E4.out hbw (show m1 ≤ c by omega) hcd hsz hlr H5.out (cap := cap)
                      rw [hD] at hk
                      have HK := Lib.hid hk
                      have HM : Hid (decide ((L : Int) / 8 ≤ (c : Int) - (mid : Int)) = decide (c - mid ≥ (c - a) / 8)) := Lib.hid (by rw [← q1]; exact eighthI (by omega) (by omega))
                      clear hh1 pS hD hk h4 HLFH HRTH HP6 HP7
                      go_wp2_with fail
                      refine HK.out.mono ?_; rintro r w8 ⟨rfl, h1⟩
                      have H1 := Lib.hid h1
                      clear h1
                      go_wp2
                      go_roundw
                      case rel => exact ⟨a, mid, R.lim, decide (c - mid ≥ (c - a) / 8), ap, D, rfl, rfl, rfl, by rw [← HM.out]; first | done | rfl, rfl, r1, by omega, by omega, hlr, E5, H1, B5, HQ⟩
                      case measure => simp [intOf]; omega
                  | true =>
                    have h87' := h87
                    simp only [Bool.and_eq_true, decide_eq_true_eq, Bool.not_eq_true'] at h87'
                    obtain ⟨mid, d4, hx⟩ : ∃ mid d4, partitionEqual ltInt R.pi.1 a c R.pivot = (mid, d4) := ⟨(partitionEqual ltInt R.pi.1 a c R.pivot).1, (partitionEqual ltInt R.pi.1 a c R.pivot).2, rfl⟩
                    obtain ⟨r1, r2, r3, r4, _⟩ := round_eq swoI (partitionEqual_holds ltInt) h87'.1 r6.1 r6.2 (show c ≤ R.pi.1.size by rw [E3.out]; exact hcd) B3.out h87'.2 hx
                    have HZ : Hid ((partitionEqual ltInt R.pi.1 a c R.pivot).2.size = R.pi.1.size) := Lib.hid (by rw [hx]; exact r3)
                    have HEQ' := HEQ.out HP2.out h87
                    rw [hx] at HEQ'
                    have HEQH := Lib.hid (HEQ' ⟨r1, r2⟩)
                    have E4 : Hid (d4.size = d.size) := Lib.hid (r3.trans E3.out)
                    have HX := Lib.hid hx
                    have H4 := Lib.hid r4
                    clear hx r3 r4 HEQ' HLF HRT HEQ h87 h87'
                    go_wp2_with fail
                    refine (parteq_at HH.out HS6.out E3.out r6.1 r6.2 hcd hsz HZ.out).mono ?_; rintro r w7 ⟨rfl, h1⟩
                    rw [HX.out] at h1 ⊢
                    have H1 := Lib.hid h1
                    clear h1
                    go_wp2
                    go_roundw
                    case rel => exact ⟨mid, c, R.lim, wb, wp, d4, rfl, rfl, rfl, rfl, rfl, r2, hcd, by omega, hlr, E4, H1, H4, Lib.hid (HEQH.out.symm.trans HP.out)⟩
                    case measure => simp [intOf]; omega
theorem pdq_any (b off cap N : Nat) : PdqDoes b off cap N := Nat.strongRecOn N fun N ih => pdq_walk b off cap N ih
end Go.Proofs.Ytjoaenfibkgplaa

namespace Go.Proofs.Ytjoaenfibkgplaa
set_option linter.unusedSimpArgs false
open Go.RowKit Go.Cq Go.Sort
set_option linter.unusedVariables false
/-- A list of numbers, rising. -/
def sortN (xs : List Nat) : List Nat := xs.mergeSort (fun x y => decide (x ≤ y))
theorem sortN_length (xs : List Nat) : (sortN xs).length = xs.length := (List.mergeSort_perm _ _).length_eq
theorem sortN_perm (xs : List Nat) : (sortN xs).Perm xs := List.mergeSort_perm _ _
def enI (xs : List Nat) : List Int := xs.map fun (x : Nat) => (x : Int)
theorem nums_enc (xs : List Nat) : nums .u32 xs = (enI xs).map encU := by simp [nums, enI, encU]
theorem sort_nums (xs : List Nat) : Sort.sort ltInt (enI xs).toArray = (enI (sortN xs)).toArray := by
  have h : (enI xs).mergeSort (fun x y => decide (x ≤ y)) = enI (sortN xs) := by
    unfold enI sortN
    symm
    apply List.map_mergeSort
    intro a _ b _
    simp
  rw [← h, ← sortInt (enI xs)]
theorem ins_none (p : Option Addr) (cap : Nat) (w : World) : Calls Try.prog 128 #[.slice p 0 cap, .int .i64 0, .int .i64 0] w fun e w' => e = .returned (.tuple #[]) ∧ w' = w := by
  go_enter Try.func128, Try.ntmps128
  go_wp2
  go_loopw [6] (fun vi wr => vi = .int .i64 1 ∧ wr = w) (fun _ _ => 0)
  case atStart => exact ⟨rfl, rfl⟩
  case round =>
    obtain ⟨rfl, rfl⟩ := hrel
    go_wp2
    go_end0
    exact ⟨rfl, rfl⟩
theorem pdq_none (p : Option Addr) (cap : Nat) (l : Nat) (w : World) : Calls Try.prog 123 #[.slice p 0 cap, .int .i64 0, .int .i64 0, .int .i64 (l : Int)] w fun e w' => e = .returned (.tuple #[]) ∧ w' = w := by
  go_enter Try.func123, Try.ntmps123
  go_wp2
  go_loopw [1, 2] (fun v1 v2 wr => v1 = .int .i64 0 ∧ v2 = .int .i64 0 ∧ wr = w) (fun _ _ _ => 0)
  case atStart => exact ⟨rfl, rfl, rfl⟩
  case round =>
    obtain ⟨rfl, rfl, rfl⟩ := hrel
    go_wp2_with fail
    refine (ins_none p cap wr).mono ?_; rintro r w1 ⟨rfl, rfl⟩
    go_wp2
    first | go_end0 | refine bodyPost_ret (results_none rfl _ _ _) rfl ?_
    exact ⟨rfl, rfl⟩
theorem sort_none (p : Option Addr) (cap : Nat) (w : World) : Calls Try.prog 110 #[.slice p 0 cap] w fun e w' => e = .returned (.tuple #[]) ∧ w' = w := by
  go_enter Try.func110, Try.ntmps110
  go_wp2_with fail
  refine (bitsLen_any 0 w (by omega) (by omega)).mono ?_; rintro r w1 ⟨rfl, rfl⟩
  go_wp2_with fail
  refine (pdq_none p cap _ w1).mono ?_; rintro r w2 ⟨rfl, rfl⟩
  go_wp2
  go_end0
  exact ⟨rfl, rfl⟩
theorem bitsLen_lt {n : Nat} (h : n < 1152921504606846976) : Sort.bitsLen n < 1000000 := by
  by_cases h0 : n = 0
  · subst h0; decide
  · have h3 := two_pow_bitsLen_le (n := n) (by omega)
    rcases Nat.lt_or_ge (Sort.bitsLen n) 63 with h | h
    · omega
    · have h4 : (2:Nat) ^ 63 ≤ 2 ^ Sort.bitsLen n := Nat.pow_le_pow_right (by omega) h
      omega
/-- 'slices.Sort', at uint32. -/
theorem sort_any (b off cap : Nat) (d : Array Int) (w : World) (hH : Holds encU w b off d) (hbw : b < w.heap.size) (hsz : d.size < 1152921504606846976) :
    Calls Try.prog 110 #[.slice (some ⟨b, off, none⟩) d.size cap] w fun r w' => r = .returned (.tuple #[]) ∧ SRel w w' b off (Sort.sort ltInt d) := by
  have hk := pdq_any b off cap d.size 0 d.size (Sort.bitsLen d.size) d w rfl hH hbw (Nat.zero_le _) (Nat.le_refl _) hsz (bitsLen_lt hsz) (Or.inl rfl)
  have HK := Lib.hid hk
  have hc := bitsLen_any (d.size : Int) w (by omega) (by omega)
  have hw : IntKind.u64.wrap (d.size : Int) = (d.size : Int) := IntWalk.u64_in _ ⟨by omega, by omega⟩
  have HC := Lib.hid hc
  have hbl : Lib.bitLen ((d.size : Int)).toNat = Sort.bitsLen d.size := by rw [Int.toNat_natCast]; exact bitLen_eq _ (by omega)
  have HBL := Lib.hid hbl
  clear hk hc hH hbl
  go_enter Try.func110, Try.ntmps110
  go_wp2_with fail
  refine HC.out.mono ?_; rintro r w1 ⟨rfl, rfl⟩
  rw [HBL.out]
  go_wp2_with fail
  refine HK.out.mono ?_; rintro r w2 ⟨rfl, h2⟩
  have H2 := Lib.hid h2
  clear h2
  go_wp2
  go_end0
  exact ⟨rfl, H2.out⟩
/-- A row that a call owns, sorted. -/
theorem sort_own {w : World} {base : Nat} {v : Value} {xs : List Nat} (h : w.ownsRow base 27 1 v xs.length (nums .u32 xs)) (hsz : xs.length < 1152921504606846976) :
    Calls Try.prog 110 #[v] w fun e w' => e = .returned (.tuple #[]) ∧ w'.ownsRow base 27 1 v xs.length (nums .u32 (sortN xs)) ∧ w.grownBy w' v.ownBlock := by
  rcases h.2 with ⟨rfl, h0⟩ | ⟨g, cap, cur, rfl, hb, hg, hnc, hcm, hcs, ht⟩
  · refine (sort_none none 0 w).mono ?_
    rintro e w' ⟨rfl, rfl⟩
    obtain rfl := List.eq_nil_of_length_eq_zero h0
    exact ⟨rfl, by simpa [sortN] using h, World.grownBy.refl _ _⟩
  · have hH : Holds encU w g 0 (enI xs).toArray := by
      intro j hj
      have hj' : j < xs.length := by simpa [enI] using hj
      refine ⟨?_, by simp [World.frozen?, hg]⟩
      rw [Nat.zero_add, cell_of_row w g j cur 27 (0, 0) hg]
      have h2 : (cur.toList.take (xs.length * 1))[j]? = some (.int .u32 (xs.getD j 0 : Nat)) := by rw [ht]; exact nums_get .u32 xs j hj'
      rw [List.getElem?_take, if_pos (by omega), Array.getElem?_toList] at h2
      rw [h2]
      simp [enI, encU, hj', List.getD]
    have hs : (enI xs).toArray.size = xs.length := by simp [enI]
    have hc := sort_any g 0 cap (enI xs).toArray w hH (Array.getElem?_eq_some_iff.1 hg).1 (by rw [hs]; exact hsz)
    rw [hs, sort_nums] at hc
    refine hc.mono ?_
    rintro e w' ⟨rfl, hS⟩
    refine ⟨rfl, ⟨by rw [nums_length, sortN_length, Nat.mul_one], .inr ⟨g, cap, putCells encU 0 (enI (sortN xs)).toArray cur, rfl, hb, ?_, hnc, hcm, ?_, ?_⟩⟩, hS.grown⟩
    · rw [hS.row, putRow_block, hg]; rfl
    · simp [putCells, hcs]
    · rw [nums_enc, Nat.mul_one]
      have hl : (enI (sortN xs)).length = xs.length := by simp [enI, sortN_length]
      apply List.ext_getElem?
      intro j
      by_cases hj : j < xs.length
      · rw [List.getElem?_take_of_lt hj, Array.getElem?_toList]
        simp [putCells, hj, hl, show j < cur.size by omega]
      · rw [List.getElem?_take_eq_none (by omega), List.getElem?_eq_none (by simp; omega)]
end Go.Proofs.Ytjoaenfibkgplaa
