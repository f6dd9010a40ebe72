import Derived.Test.YtjoaenfibkgplaaZS
import Derived.Deep.Cut
import Derived.Deep.CutRange
namespace Go.Proofs.Ytjoaenfibkgplaa
set_option linter.unusedSimpArgs false
open Go.RowKit Go.Cq Go.Sort
set_option linter.unusedVariables false
section
variable {α : Type} [Inhabited α]
theorem up_go {p : α → Bool} {d : Array α} {j i : Nat} (h : i ≤ j) (hp : p d[i]! = true) : scanUp p d j i = scanUp p d j (i + 1) := by rw [scanUp, if_pos (by simp [h, hp])]
theorem up_stop {p : α → Bool} {d : Array α} {j i : Nat} (h : ¬ i ≤ j ∨ p d[i]! = false) : scanUp p d j i = i := by
  rw [scanUp, if_neg (by rcases h with h | h <;> simp [h])]
theorem down_go {p : α → Bool} {d : Array α} {j i : Nat} (h : i ≤ j + 1) (hp : p d[j + 1]! = true) : scanDown p d i (j + 1) = scanDown p d i j := by rw [scanDown, if_pos (by simp [h, hp])]
theorem down_go' {p : α → Bool} {d : Array α} {j jm i : Nat} (hj : j = jm + 1) (h : i ≤ j) (hp : p d[j]! = true) : scanDown p d i j = scanDown p d i jm := by subst hj; exact down_go h hp
theorem down_stop {p : α → Bool} {d : Array α} {j i : Nat} (hi : 1 ≤ i) (h : ¬ i ≤ j ∨ p d[j]! = false) : scanDown p d i j = j := by
  cases j with
  | zero => rw [scanDown]
  | succ j => rw [scanDown, if_neg (by rcases h with h | h <;> simp [h])]
end
theorem pl_stop {α : Type} [Inhabited α] (lt : α → α → Bool) {a i j i2 j2 : Nat} {d : Array α} (h1 : scanUp (fun x => lt x d[a]!) d j i = i2) (h2 : scanDown (fun x => !lt x d[a]!) d i2 j = j2) (h : j2 < i2) : partLoop lt a i j d = (j2, d) := by
  rw [partLoop]
  simp only [h1, h2]
  rw [if_pos h]
theorem pl_go {α : Type} [Inhabited α] (lt : α → α → Bool) {a i j i2 j2 : Nat} {d : Array α} (h1 : scanUp (fun x => lt x d[a]!) d j i = i2) (h2 : scanDown (fun x => !lt x d[a]!) d i2 j = j2) (h3 : i ≤ i2) (h : i2 < j2) (h4 : j2 ≤ j) : partLoop lt a i j d = partLoop lt a (i2 + 1) (j2 - 1) (swp d i2 j2) := by
  rw [partLoop]
  simp only [h1, h2]
  rw [if_neg (by omega), dif_pos (by omega)]
theorem part_true {α : Type} [Inhabited α] (lt : α → α → Bool) {lo hi h1 piv i j : Nat} {d e : Array α} (hh : hi = h1 + 1) (he : swp d lo piv = e) (hi1 : scanUp (fun x => lt x e[lo]!) e h1 (lo + 1) = i) (hj : scanDown (fun x => !lt x e[lo]!) e i h1 = j) (h : j < i) :
    Sort.partition lt d lo hi piv = (j, true, swp e j lo) := by
  subst hh he
  unfold Sort.partition
  simp only [Nat.add_sub_cancel, hi1, hj]
  rw [if_pos h]
theorem part_false {α : Type} [Inhabited α] (lt : α → α → Bool) {lo hi h1 piv i j : Nat} {d e : Array α} (hh : hi = h1 + 1) (he : swp d lo piv = e) (hi1 : scanUp (fun x => lt x e[lo]!) e h1 (lo + 1) = i) (hj : scanDown (fun x => !lt x e[lo]!) e i h1 = j) (h : ¬ j < i) :
    Sort.partition lt d lo hi piv = ((partLoop lt lo (i + 1) (j - 1) (swp e i j)).1, false, swp (partLoop lt lo (i + 1) (j - 1) (swp e i j)).2 (partLoop lt lo (i + 1) (j - 1) (swp e i j)).1 lo) := by
  subst hh he
  unfold Sort.partition
  simp only [Nat.add_sub_cancel, hi1, hj]
  rw [if_neg h]
set_option maxHeartbeats 4000000 in
set_option maxRecDepth 100000 in
/-- 'slices.partitionOrdered', at uint32. -/
theorem part_any (b off cap lo hi piv : Nat) (d : Array Int) (w : World) (hH : Holds encU w b off d) (hab : lo < hi) (hb : hi ≤ d.size) (hp1 : lo ≤ piv) (hp2 : piv < hi) (hsz : d.size < 1152921504606846976) :
    Calls Try.prog 136 #[.slice (some ⟨b, off, none⟩) d.size cap, .int .i64 (lo : Int), .int .i64 (hi : Int), .int .i64 (piv : Int)] w fun e w' =>
      e = .returned (.tuple #[.int .i64 ((Sort.partition ltInt d lo hi piv).1 : Nat), .bool (Sort.partition ltInt d lo hi piv).2.1]) ∧ ∃ n, w' = rowW w n b off (Sort.partition ltInt d lo hi piv).2.2 := by
  have HH := Lib.hid hH
  clear hH
  obtain ⟨h1, kh⟩ : ∃ h1, hi = h1 + 1 := ⟨hi - 1, by omega⟩
  have q1 : (hi : Int) - 1 = (h1 : Int) := by omega
  have hh1 : h1 < d.size ∧ lo ≤ h1 ∧ piv ≤ h1 := by omega
  have KH := Lib.hid kh
  clear kh
  go_enter Try.func136, Try.ntmps136
  go_wp2_with fail
  obtain ⟨G, hG⟩ := row_of (w := w) (b := b) (off := off) (n := 0) (e := d) (d := d) (wr := w) (rowW_self HH.out).symm rfl
  have c1 := hG.cells HH.out lo (by omega)
  have f1 := hG.free HH.out lo (by omega)
  by_cases hlp : piv = lo
  · subst hlp
    obtain ⟨e, he⟩ : ∃ e, swp d piv piv = e := ⟨_, rfl⟩
    have HE : Hid (e.size = d.size) := by refine Lib.hid ?_; rw [← he, size_swp]
    have HEE := Lib.hid he
    have HG := Lib.hid hG
    clear he hG
    go_region
    all_goals
      have hw0 := swapped HG.out 1 piv piv (by omega) (by omega)
      rw [HEE.out] at hw0
      have HW := Lib.hid hw0
      clear hw0 HG c1 f1
      go_upto_block 0 with (fail)
      go_cut [10] from 30 to 45 (fun v wr => ∃ i n : Nat, v = .int .i64 i ∧ (piv + 1) ≤ i ∧ i ≤ h1 + 1 ∧ Hid (wr = rowW w n b off e) ∧ Hid (scanUp (fun x => ltInt x e[piv]!) e h1 (piv + 1) = i) ∧ Hid (i ≤ h1 → ltInt e[i]! e[piv]! = false))
      case first =>
        go_wp2
        go_loopw [10] (fun v wr => ∃ i n : Nat, v = .int .i64 i ∧ (piv + 1) ≤ i ∧ i ≤ h1 + 1 ∧ Hid (wr = rowW w n b off e) ∧ Hid (scanUp (fun x => ltInt x e[piv]!) e h1 i = scanUp (fun x => ltInt x e[piv]!) e h1 (piv + 1))) (fun v _ => h1 + 1 - (intOf v).toNat)
        case atStart => exact ⟨(piv + 1), _, by go_num, by omega, by omega, HW, rfl⟩
        case round =>
          obtain ⟨i, n, rfl, hi1, hi2, HWi, HI⟩ := hrel
          by_cases hlt : i ≤ h1
          · have i1 : (i : Int) ≤ (h1 : Int) := by omega
            obtain ⟨G, hG⟩ := row_of HWi.out HE.out
            have c1 := hG.cells HH.out i (by omega)
            have c2 := hG.cells HH.out piv (by omega)
            have HG := Lib.hid hG
            clear hG
            go_wp2_with fail
            go_quiet ((go_at_call 134; refine (less_any _ _ _).mono ?_; rintro e0 w'' ⟨rfl, rfl⟩; exact ⟨rfl, _, rfl⟩))
            cases hl : ltInt (G i) (G piv) with
            | true =>
              have HL := Lib.hid hl
              go_wp2
              go_roundw
              case rel => exact ⟨i + 1, _, by go_num, by omega, by omega, by refine Lib.hid ?_; rw [HWi.out, rowW_drewN], by refine Lib.hid ?_; rw [← HI.out]; exact (up_go hlt (by rw [← HG.out.val, ← HG.out.val, HL.out]; first | done | rfl)).symm⟩
              case measure => simp [intOf]; omega
            | false =>
              have HL := Lib.hid hl
              go_wp2
              go_meet
              case rel => exact ⟨i, _, rfl, by omega, by omega, by refine Lib.hid ?_; rw [HWi.out, rowW_drewN], by refine Lib.hid ?_; rw [← HI.out]; exact up_stop (.inr (by rw [← HG.out.val, ← HG.out.val, HL.out]; first | done | rfl)), Lib.hid (fun _ => by rw [← HG.out.val, ← HG.out.val]; exact HL.out)⟩
          · have i1 : ¬ (i : Int) ≤ (h1 : Int) := by omega
            go_wp2_with fail
            go_quiet ((go_at_call 134; refine (less_any _ _ _).mono ?_; rintro e0 w'' ⟨rfl, rfl⟩; exact ⟨rfl, _, rfl⟩))
            go_wp2
            go_meet
            case rel => exact ⟨i, _, rfl, by omega, by omega, by refine Lib.hid ?_; rw [HWi.out, rowW_drewN], by refine Lib.hid ?_; rw [← HI.out]; exact up_stop (.inl hlt), Lib.hid (fun h => absurd h hlt)⟩
      case rest =>
        obtain ⟨i, n1, rfl, hi1, hi2, HW1, HI1, HQ1⟩ := hcut
        go_upto_block 2 with (fail)
        go_cut [11] from 46 to 62 (fun v wr => ∃ j n : Nat, v = .int .i64 j ∧ j ≤ h1 ∧ i ≤ j + 1 ∧ Hid (wr = rowW w n b off e) ∧ Hid (scanDown (fun x => !ltInt x e[piv]!) e i h1 = j) ∧ Hid (i ≤ j → ltInt e[j]! e[piv]! = true))
        case first =>
          go_wp2
          go_loopw [11] (fun v wr => ∃ j n : Nat, v = .int .i64 j ∧ j ≤ h1 ∧ i ≤ j + 1 ∧ Hid (wr = rowW w n b off e) ∧ Hid (scanDown (fun x => !ltInt x e[piv]!) e i j = scanDown (fun x => !ltInt x e[piv]!) e i h1)) (fun v _ => (intOf v).toNat)
          case atStart => exact ⟨h1, _, rfl, by omega, by omega, HW1, rfl⟩
          case round =>
            obtain ⟨j, n, rfl, hj1, hj2, HWi, HI⟩ := hrel
            by_cases hlt : i ≤ j
            · obtain ⟨jm, kj⟩ : ∃ jm, j = jm + 1 := ⟨j - 1, by omega⟩
              have i1 : (i : Int) ≤ (j : Int) := by omega
              have q1 : (j : Int) - 1 = (jm : Int) := by omega
              have hjm : jm < j ∧ i ≤ jm + 1 := by omega
              have KJ := Lib.hid kj
              clear kj
              obtain ⟨G, hG⟩ := row_of HWi.out HE.out
              have c1 := hG.cells HH.out j (by omega)
              have c2 := hG.cells HH.out piv (by omega)
              have HG := Lib.hid hG
              clear hG
              go_wp2_with fail
              go_quiet ((go_at_call 134; refine (less_any _ _ _).mono ?_; rintro e0 w'' ⟨rfl, rfl⟩; exact ⟨rfl, _, rfl⟩))
              cases hl : ltInt (G j) (G piv) with
              | false =>
                have HL := Lib.hid hl
                go_wp2
                go_roundw
                case rel => exact ⟨jm, _, by go_num, by omega, by omega, by refine Lib.hid ?_; rw [HWi.out, rowW_drewN], by refine Lib.hid ?_; rw [← HI.out]; exact (down_go' KJ.out hlt (by rw [← HG.out.val, ← HG.out.val, HL.out]; first | done | rfl)).symm⟩
                case measure => simp [intOf]; omega
              | true =>
                have HL := Lib.hid hl
                go_wp2
                go_meet
                case rel => exact ⟨j, _, rfl, by omega, by omega, by refine Lib.hid ?_; rw [HWi.out, rowW_drewN], by refine Lib.hid ?_; rw [← HI.out]; exact down_stop (by omega) (.inr (by rw [← HG.out.val, ← HG.out.val, HL.out]; first | done | rfl)), Lib.hid (fun _ => by rw [← HG.out.val, ← HG.out.val]; exact HL.out)⟩
            · have i1 : ¬ (i : Int) ≤ (j : Int) := by omega
              go_wp2_with fail
              go_quiet ((go_at_call 134; refine (less_any _ _ _).mono ?_; rintro e0 w'' ⟨rfl, rfl⟩; exact ⟨rfl, _, rfl⟩))
              go_wp2
              go_meet
              case rel => exact ⟨j, _, rfl, by omega, by omega, by refine Lib.hid ?_; rw [HWi.out, rowW_drewN], by refine Lib.hid ?_; rw [← HI.out]; exact down_stop (by omega) (.inl hlt), Lib.hid (fun h => absurd h hlt)⟩
        case rest =>
          obtain ⟨j, n2, rfl, hj1, hj2, HW2, HJ2, HQ2⟩ := hcut
          by_cases hij : j < i
          · have g1 : (j : Int) < (i : Int) := by omega
            have HP : Hid (Sort.partition ltInt d piv hi piv = (j, true, swp e j piv)) := Lib.hid (part_true ltInt KH.out HEE.out HI1.out HJ2.out hij)
            by_cases hjl : j = piv
            · subst hjl
              obtain ⟨G, hG⟩ := row_of HW2.out HE.out
              have c1 := hG.cells HH.out j (by omega)
              have f1 := hG.free HH.out j (by omega)
              have HG := Lib.hid hG
              clear hG
              go_wp2_with fail
              go_region
              all_goals
                have hw0 := swapped HG.out 1 j j (by omega) (by omega)
                have HFW := Lib.hid hw0
                have HFE : Hid ((swp e j j).size = d.size) := by refine Lib.hid ?_; rw [size_swp]; exact HE.out
                clear hw0 HG c1 f1
                go_wp2
                go_ret2
                exact ⟨by rw [HP.out]; first | done | rfl, _, by rw [HP.out]; exact HFW.out⟩
            · have hjl2 : piv < j := by omega
              obtain ⟨G, hG⟩ := row_of HW2.out HE.out
              have c1 := hG.cells HH.out j (by omega)
              have f1 := hG.free HH.out j (by omega)
              have c2 := hG.cells HH.out piv (by omega)
              have f2 := hG.free HH.out piv (by omega)
              have HG := Lib.hid hG
              clear hG
              go_wp2_with fail
              go_region
              all_goals
                have hw0 := swapped HG.out 1 j piv (by omega) (by omega)
                have HFW := Lib.hid hw0
                have HFE : Hid ((swp e j piv).size = d.size) := by refine Lib.hid ?_; rw [size_swp]; exact HE.out
                clear hw0 HG c1 f1 c2 f2
                go_wp2
                go_ret2
                exact ⟨by rw [HP.out]; first | done | rfl, _, by rw [HP.out]; exact HFW.out⟩
          · have hne : i ≠ j := fun h => by
              have a1 := HQ1.out (by omega)
              have a2 := HQ2.out (by omega)
              rw [h] at a1; rw [a1] at a2; cases a2
            have hlt1 : i < j := by omega
            have g1 : ¬ (j : Int) < (i : Int) := by omega
            have HPF : Hid (Sort.partition ltInt d piv hi piv = ((partLoop ltInt piv (i + 1) (j - 1) (swp e i j)).1, false, swp (partLoop ltInt piv (i + 1) (j - 1) (swp e i j)).2 (partLoop ltInt piv (i + 1) (j - 1) (swp e i j)).1 piv)) := Lib.hid (part_false ltInt KH.out HEE.out HI1.out HJ2.out hij)
            clear hne
            obtain ⟨i0, ki0⟩ : ∃ i0, i + 1 = i0 := ⟨_, rfl⟩
            obtain ⟨j0, kj0⟩ : ∃ j0, j - 1 = j0 := ⟨_, rfl⟩
            rw [ki0, kj0] at HPF
            have q3 : (i : Int) + 1 = (i0 : Int) := by omega
            have q4 : (j : Int) - 1 = (j0 : Int) := by omega
            have hb0 : i0 ≤ j0 + 1 ∧ j0 ≤ h1 ∧ piv < i0 := by omega
            clear ki0 kj0
            obtain ⟨G, hG⟩ := row_of HW2.out HE.out
            have c1 := hG.cells HH.out i (by omega)
            have f1 := hG.free HH.out i (by omega)
            have c2 := hG.cells HH.out j (by omega)
            have f2 := hG.free HH.out j (by omega)
            have HG := Lib.hid hG
            clear hG
            go_wp2_with fail
            go_region
            all_goals
              have hw0 := swapped HG.out 1 i j (by omega) (by omega)
              have HAW := Lib.hid hw0
              have HAE : Hid ((swp e i j).size = d.size) := by refine Lib.hid ?_; rw [size_swp]; exact HE.out
              clear hw0 HG c1 f1 c2 f2
              obtain ⟨e0, ke0⟩ : ∃ e0, swp e i j = e0 := ⟨_, rfl⟩
              rw [ke0] at HAW HAE HPF
              clear ke0
              go_wp2
              go_loopw [10, 11] (fun v10 v11 wr => ∃ (i j n : Nat) (e3 : Array Int), v10 = .int .i64 i ∧ v11 = .int .i64 j ∧ piv < i ∧ i ≤ j + 1 ∧ j ≤ h1 ∧ Hid (e3.size = d.size) ∧ Hid (wr = rowW w n b off e3) ∧ Hid (partLoop ltInt piv i j e3 = partLoop ltInt piv i0 j0 e0)) (fun v10 v11 _ => (intOf v11 + 1 - intOf v10).toNat)
              case atStart => exact ⟨i0, j0, _, _, rfl, rfl, by omega, by omega, by omega, HAE, HAW, rfl⟩
              case round =>
                obtain ⟨i3, j3, n3, e3, rfl, rfl, hi3, hij3, hj3, HE3, HW3, HPL⟩ := hrel
                go_upto_block 6 with (fail)
                go_cut [10] from 99 to 114 (fun v wr => ∃ i n : Nat, v = .int .i64 i ∧ i3 ≤ i ∧ i ≤ j3 + 1 ∧ Hid (wr = rowW w n b off e3) ∧ Hid (scanUp (fun x => ltInt x e3[piv]!) e3 j3 i3 = i) ∧ Hid (i ≤ j3 → ltInt e3[i]! e3[piv]! = false))
                case first =>
                  go_wp2
                  go_loopw [10] (fun v wr => ∃ i n : Nat, v = .int .i64 i ∧ i3 ≤ i ∧ i ≤ j3 + 1 ∧ Hid (wr = rowW w n b off e3) ∧ Hid (scanUp (fun x => ltInt x e3[piv]!) e3 j3 i = scanUp (fun x => ltInt x e3[piv]!) e3 j3 i3)) (fun v _ => j3 + 1 - (intOf v).toNat)
                  case atStart => exact ⟨i3, _, rfl, by omega, by omega, HW3, rfl⟩
                  case round =>
                    obtain ⟨i, n, rfl, hi1, hi2, HWi, HI⟩ := hrel
                    by_cases hlt : i ≤ j3
                    · have i1 : (i : Int) ≤ (j3 : Int) := by omega
                      obtain ⟨G, hG⟩ := row_of HWi.out HE3.out
                      have c1 := hG.cells HH.out i (by omega)
                      have c2 := hG.cells HH.out piv (by omega)
                      have HG := Lib.hid hG
                      clear hG
                      go_wp2_with fail
                      go_quiet ((go_at_call 134; refine (less_any _ _ _).mono ?_; rintro e0 w'' ⟨rfl, rfl⟩; exact ⟨rfl, _, rfl⟩))
                      cases hl : ltInt (G i) (G piv) with
                      | true =>
                        have HL := Lib.hid hl
                        go_wp2
                        go_roundw
                        case rel => exact ⟨i + 1, _, by go_num, by omega, by omega, by refine Lib.hid ?_; rw [HWi.out, rowW_drewN], by refine Lib.hid ?_; rw [← HI.out]; exact (up_go hlt (by rw [← HG.out.val, ← HG.out.val, HL.out]; first | done | rfl)).symm⟩
                        case measure => simp [intOf]; omega
                      | false =>
                        have HL := Lib.hid hl
                        go_wp2
                        go_meet
                        case rel => exact ⟨i, _, rfl, by omega, by omega, by refine Lib.hid ?_; rw [HWi.out, rowW_drewN], by refine Lib.hid ?_; rw [← HI.out]; exact up_stop (.inr (by rw [← HG.out.val, ← HG.out.val, HL.out]; first | done | rfl)), Lib.hid (fun _ => by rw [← HG.out.val, ← HG.out.val]; exact HL.out)⟩
                    · have i1 : ¬ (i : Int) ≤ (j3 : Int) := by omega
                      go_wp2_with fail
                      go_quiet ((go_at_call 134; refine (less_any _ _ _).mono ?_; rintro e0 w'' ⟨rfl, rfl⟩; exact ⟨rfl, _, rfl⟩))
                      go_wp2
                      go_meet
                      case rel => exact ⟨i, _, rfl, by omega, by omega, by refine Lib.hid ?_; rw [HWi.out, rowW_drewN], by refine Lib.hid ?_; rw [← HI.out]; exact up_stop (.inl hlt), Lib.hid (fun h => absurd h hlt)⟩
                case rest =>
                  obtain ⟨i4, n4, rfl, hi4, hi5, HW4, HI4, HQ4⟩ := hcut
                  go_upto_block 8 with (fail)
                  go_cut [11] from 115 to 131 (fun v wr => ∃ j n : Nat, v = .int .i64 j ∧ j ≤ j3 ∧ i4 ≤ j + 1 ∧ Hid (wr = rowW w n b off e3) ∧ Hid (scanDown (fun x => !ltInt x e3[piv]!) e3 i4 j3 = j) ∧ Hid (i4 ≤ j → ltInt e3[j]! e3[piv]! = true))
                  case first =>
                    go_wp2
                    go_loopw [11] (fun v wr => ∃ j n : Nat, v = .int .i64 j ∧ j ≤ j3 ∧ i4 ≤ j + 1 ∧ Hid (wr = rowW w n b off e3) ∧ Hid (scanDown (fun x => !ltInt x e3[piv]!) e3 i4 j = scanDown (fun x => !ltInt x e3[piv]!) e3 i4 j3)) (fun v _ => (intOf v).toNat)
                    case atStart => exact ⟨j3, _, rfl, by omega, by omega, HW4, rfl⟩
                    case round =>
                      obtain ⟨j, n, rfl, hj1, hj2, HWi, HI⟩ := hrel
                      by_cases hlt : i4 ≤ j
                      · obtain ⟨jm, kj⟩ : ∃ jm, j = jm + 1 := ⟨j - 1, by omega⟩
                        have i1 : (i4 : Int) ≤ (j : Int) := by omega
                        have q1 : (j : Int) - 1 = (jm : Int) := by omega
                        have hjm : jm < j ∧ i4 ≤ jm + 1 := by omega
                        have KJ := Lib.hid kj
                        clear kj
                        obtain ⟨G, hG⟩ := row_of HWi.out HE3.out
                        have c1 := hG.cells HH.out j (by omega)
                        have c2 := hG.cells HH.out piv (by omega)
                        have HG := Lib.hid hG
                        clear hG
                        go_wp2_with fail
                        go_quiet ((go_at_call 134; refine (less_any _ _ _).mono ?_; rintro e0 w'' ⟨rfl, rfl⟩; exact ⟨rfl, _, rfl⟩))
                        cases hl : ltInt (G j) (G piv) with
                        | false =>
                          have HL := Lib.hid hl
                          go_wp2
                          go_roundw
                          case rel => exact ⟨jm, _, by go_num, by omega, by omega, by refine Lib.hid ?_; rw [HWi.out, rowW_drewN], by refine Lib.hid ?_; rw [← HI.out]; exact (down_go' KJ.out hlt (by rw [← HG.out.val, ← HG.out.val, HL.out]; first | done | rfl)).symm⟩
                          case measure => simp [intOf]; omega
                        | true =>
                          have HL := Lib.hid hl
                          go_wp2
                          go_meet
                          case rel => exact ⟨j, _, rfl, by omega, by omega, by refine Lib.hid ?_; rw [HWi.out, rowW_drewN], by refine Lib.hid ?_; rw [← HI.out]; exact down_stop (by omega) (.inr (by rw [← HG.out.val, ← HG.out.val, HL.out]; first | done | rfl)), Lib.hid (fun _ => by rw [← HG.out.val, ← HG.out.val]; exact HL.out)⟩
                      · have i1 : ¬ (i4 : Int) ≤ (j : Int) := by omega
                        go_wp2_with fail
                        go_quiet ((go_at_call 134; refine (less_any _ _ _).mono ?_; rintro e0 w'' ⟨rfl, rfl⟩; exact ⟨rfl, _, rfl⟩))
                        go_wp2
                        go_meet
                        case rel => exact ⟨j, _, rfl, by omega, by omega, by refine Lib.hid ?_; rw [HWi.out, rowW_drewN], by refine Lib.hid ?_; rw [← HI.out]; exact down_stop (by omega) (.inl hlt), Lib.hid (fun h => absurd h hlt)⟩
                  case rest =>
                    obtain ⟨j4, n5, rfl, hj4, hj5, HW5, HJ5, HQ5⟩ := hcut
                    by_cases hij : j4 < i4
                    · have g1 : (j4 : Int) < (i4 : Int) := by omega
                      have HP : Hid (Sort.partition ltInt d piv hi piv = (j4, false, swp e3 j4 piv)) := by refine Lib.hid ?_; rw [HPF.out, ← HPL.out, pl_stop ltInt HI4.out HJ5.out hij]
                      by_cases hjl : j4 = piv
                      · subst hjl
                        obtain ⟨G, hG⟩ := row_of HW5.out HE3.out
                        have c1 := hG.cells HH.out j4 (by omega)
                        have f1 := hG.free HH.out j4 (by omega)
                        have HG := Lib.hid hG
                        clear hG
                        go_wp2_with fail
                        go_region
                        all_goals
                          have hw0 := swapped HG.out 1 j4 j4 (by omega) (by omega)
                          have HFW := Lib.hid hw0
                          have HFE : Hid ((swp e3 j4 j4).size = d.size) := by refine Lib.hid ?_; rw [size_swp]; exact HE3.out
                          clear hw0 HG c1 f1
                          go_wp2
                          go_ret2
                          exact ⟨by rw [HP.out]; first | done | rfl, _, by rw [HP.out]; exact HFW.out⟩
                      · have hjl2 : piv < j4 := by omega
                        obtain ⟨G, hG⟩ := row_of HW5.out HE3.out
                        have c1 := hG.cells HH.out j4 (by omega)
                        have f1 := hG.free HH.out j4 (by omega)
                        have c2 := hG.cells HH.out piv (by omega)
                        have f2 := hG.free HH.out piv (by omega)
                        have HG := Lib.hid hG
                        clear hG
                        go_wp2_with fail
                        go_region
                        all_goals
                          have hw0 := swapped HG.out 1 j4 piv (by omega) (by omega)
                          have HFW := Lib.hid hw0
                          have HFE : Hid ((swp e3 j4 piv).size = d.size) := by refine Lib.hid ?_; rw [size_swp]; exact HE3.out
                          clear hw0 HG c1 f1 c2 f2
                          go_wp2
                          go_ret2
                          exact ⟨by rw [HP.out]; first | done | rfl, _, by rw [HP.out]; exact HFW.out⟩
                    · have hne : i4 ≠ j4 := fun h => by
                        have a1 := HQ4.out (by omega)
                        have a2 := HQ5.out (by omega)
                        rw [h] at a1; rw [a1] at a2; cases a2
                      have hlt4 : i4 < j4 := by omega
                      have g1 : ¬ (j4 : Int) < (i4 : Int) := by omega
                      clear hne
                      obtain ⟨G, hG⟩ := row_of HW5.out HE3.out
                      have c1 := hG.cells HH.out i4 (by omega)
                      have f1 := hG.free HH.out i4 (by omega)
                      have c2 := hG.cells HH.out j4 (by omega)
                      have f2 := hG.free HH.out j4 (by omega)
                      have HG := Lib.hid hG
                      clear hG
                      go_wp2_with fail
                      go_region
                      all_goals
                        have hw0 := swapped HG.out 1 i4 j4 (by omega) (by omega)
                        have HSW := Lib.hid hw0
                        have HSE : Hid ((swp e3 i4 j4).size = d.size) := by refine Lib.hid ?_; rw [size_swp]; exact HE3.out
                        clear hw0 HG c1 f1 c2 f2
                        go_wp2
                        go_roundw
                        case rel => exact ⟨i4 + 1, j4 - 1, _, swp e3 i4 j4, by go_num, by congr 1; omega, by omega, by omega, by omega, HSE, HSW, by refine Lib.hid ?_; rw [← HPL.out]; exact (pl_go ltInt HI4.out HJ5.out (by omega) hlt4 (by omega)).symm⟩
                        case measure => simp [intOf]; omega
  · have hlp2 : lo < piv := by omega
    have c2 := hG.cells HH.out piv (by omega)
    have f2 := hG.free HH.out piv (by omega)
    obtain ⟨e, he⟩ : ∃ e, swp d lo piv = e := ⟨_, rfl⟩
    have HE : Hid (e.size = d.size) := by refine Lib.hid ?_; rw [← he, size_swp]
    have HEE := Lib.hid he
    have HG := Lib.hid hG
    clear he hG
    go_region
    all_goals
      have hw0 := swapped HG.out 1 lo piv (by omega) (by omega)
      rw [HEE.out] at hw0
      have HW := Lib.hid hw0
      clear hw0 HG c1 f1 c2 f2
      go_upto_block 0 with (fail)
      go_cut [10] from 30 to 45 (fun v wr => ∃ i n : Nat, v = .int .i64 i ∧ (lo + 1) ≤ i ∧ i ≤ h1 + 1 ∧ Hid (wr = rowW w n b off e) ∧ Hid (scanUp (fun x => ltInt x e[lo]!) e h1 (lo + 1) = i) ∧ Hid (i ≤ h1 → ltInt e[i]! e[lo]! = false))
      case first =>
        go_wp2
        go_loopw [10] (fun v wr => ∃ i n : Nat, v = .int .i64 i ∧ (lo + 1) ≤ i ∧ i ≤ h1 + 1 ∧ Hid (wr = rowW w n b off e) ∧ Hid (scanUp (fun x => ltInt x e[lo]!) e h1 i = scanUp (fun x => ltInt x e[lo]!) e h1 (lo + 1))) (fun v _ => h1 + 1 - (intOf v).toNat)
        case atStart => exact ⟨(lo + 1), _, by go_num, by omega, by omega, HW, rfl⟩
        case round =>
          obtain ⟨i, n, rfl, hi1, hi2, HWi, HI⟩ := hrel
          by_cases hlt : i ≤ h1
          · have i1 : (i : Int) ≤ (h1 : Int) := by omega
            obtain ⟨G, hG⟩ := row_of HWi.out HE.out
            have c1 := hG.cells HH.out i (by omega)
            have c2 := hG.cells HH.out lo (by omega)
            have HG := Lib.hid hG
            clear hG
            go_wp2_with fail
            go_quiet ((go_at_call 134; refine (less_any _ _ _).mono ?_; rintro e0 w'' ⟨rfl, rfl⟩; exact ⟨rfl, _, rfl⟩))
            cases hl : ltInt (G i) (G lo) with
            | true =>
              have HL := Lib.hid hl
              go_wp2
              go_roundw
              case rel => exact ⟨i + 1, _, by go_num, by omega, by omega, by refine Lib.hid ?_; rw [HWi.out, rowW_drewN], by refine Lib.hid ?_; rw [← HI.out]; exact (up_go hlt (by rw [← HG.out.val, ← HG.out.val, HL.out]; first | done | rfl)).symm⟩
              case measure => simp [intOf]; omega
            | false =>
              have HL := Lib.hid hl
              go_wp2
              go_meet
              case rel => exact ⟨i, _, rfl, by omega, by omega, by refine Lib.hid ?_; rw [HWi.out, rowW_drewN], by refine Lib.hid ?_; rw [← HI.out]; exact up_stop (.inr (by rw [← HG.out.val, ← HG.out.val, HL.out]; first | done | rfl)), Lib.hid (fun _ => by rw [← HG.out.val, ← HG.out.val]; exact HL.out)⟩
          · have i1 : ¬ (i : Int) ≤ (h1 : Int) := by omega
            go_wp2_with fail
            go_quiet ((go_at_call 134; refine (less_any _ _ _).mono ?_; rintro e0 w'' ⟨rfl, rfl⟩; exact ⟨rfl, _, rfl⟩))
            go_wp2
            go_meet
            case rel => exact ⟨i, _, rfl, by omega, by omega, by refine Lib.hid ?_; rw [HWi.out, rowW_drewN], by refine Lib.hid ?_; rw [← HI.out]; exact up_stop (.inl hlt), Lib.hid (fun h => absurd h hlt)⟩
      case rest =>
        obtain ⟨i, n1, rfl, hi1, hi2, HW1, HI1, HQ1⟩ := hcut
        go_upto_block 2 with (fail)
        go_cut [11] from 46 to 62 (fun v wr => ∃ j n : Nat, v = .int .i64 j ∧ j ≤ h1 ∧ i ≤ j + 1 ∧ Hid (wr = rowW w n b off e) ∧ Hid (scanDown (fun x => !ltInt x e[lo]!) e i h1 = j) ∧ Hid (i ≤ j → ltInt e[j]! e[lo]! = true))
        case first =>
          go_wp2
          go_loopw [11] (fun v wr => ∃ j n : Nat, v = .int .i64 j ∧ j ≤ h1 ∧ i ≤ j + 1 ∧ Hid (wr = rowW w n b off e) ∧ Hid (scanDown (fun x => !ltInt x e[lo]!) e i j = scanDown (fun x => !ltInt x e[lo]!) e i h1)) (fun v _ => (intOf v).toNat)
          case atStart => exact ⟨h1, _, rfl, by omega, by omega, HW1, rfl⟩
          case round =>
            obtain ⟨j, n, rfl, hj1, hj2, HWi, HI⟩ := hrel
            by_cases hlt : i ≤ j
            · obtain ⟨jm, kj⟩ : ∃ jm, j = jm + 1 := ⟨j - 1, by omega⟩
              have i1 : (i : Int) ≤ (j : Int) := by omega
              have q1 : (j : Int) - 1 = (jm : Int) := by omega
              have hjm : jm < j ∧ i ≤ jm + 1 := by omega
              have KJ := Lib.hid kj
              clear kj
              obtain ⟨G, hG⟩ := row_of HWi.out HE.out
              have c1 := hG.cells HH.out j (by omega)
              have c2 := hG.cells HH.out lo (by omega)
              have HG := Lib.hid hG
              clear hG
              go_wp2_with fail
              go_quiet ((go_at_call 134; refine (less_any _ _ _).mono ?_; rintro e0 w'' ⟨rfl, rfl⟩; exact ⟨rfl, _, rfl⟩))
              cases hl : ltInt (G j) (G lo) with
              | false =>
                have HL := Lib.hid hl
                go_wp2
                go_roundw
                case rel => exact ⟨jm, _, by go_num, by omega, by omega, by refine Lib.hid ?_; rw [HWi.out, rowW_drewN], by refine Lib.hid ?_; rw [← HI.out]; exact (down_go' KJ.out hlt (by rw [← HG.out.val, ← HG.out.val, HL.out]; first | done | rfl)).symm⟩
                case measure => simp [intOf]; omega
              | true =>
                have HL := Lib.hid hl
                go_wp2
                go_meet
                case rel => exact ⟨j, _, rfl, by omega, by omega, by refine Lib.hid ?_; rw [HWi.out, rowW_drewN], by refine Lib.hid ?_; rw [← HI.out]; exact down_stop (by omega) (.inr (by rw [← HG.out.val, ← HG.out.val, HL.out]; first | done | rfl)), Lib.hid (fun _ => by rw [← HG.out.val, ← HG.out.val]; exact HL.out)⟩
            · have i1 : ¬ (i : Int) ≤ (j : Int) := by omega
              go_wp2_with fail
              go_quiet ((go_at_call 134; refine (less_any _ _ _).mono ?_; rintro e0 w'' ⟨rfl, rfl⟩; exact ⟨rfl, _, rfl⟩))
              go_wp2
              go_meet
              case rel => exact ⟨j, _, rfl, by omega, by omega, by refine Lib.hid ?_; rw [HWi.out, rowW_drewN], by refine Lib.hid ?_; rw [← HI.out]; exact down_stop (by omega) (.inl hlt), Lib.hid (fun h => absurd h hlt)⟩
        case rest =>
          obtain ⟨j, n2, rfl, hj1, hj2, HW2, HJ2, HQ2⟩ := hcut
          by_cases hij : j < i
          · have g1 : (j : Int) < (i : Int) := by omega
            have HP : Hid (Sort.partition ltInt d lo hi piv = (j, true, swp e j lo)) := Lib.hid (part_true ltInt KH.out HEE.out HI1.out HJ2.out hij)
            by_cases hjl : j = lo
            · subst hjl
              obtain ⟨G, hG⟩ := row_of HW2.out HE.out
              have c1 := hG.cells HH.out j (by omega)
              have f1 := hG.free HH.out j (by omega)
              have HG := Lib.hid hG
              clear hG
              go_wp2_with fail
              go_region
              all_goals
                have hw0 := swapped HG.out 1 j j (by omega) (by omega)
                have HFW := Lib.hid hw0
                have HFE : Hid ((swp e j j).size = d.size) := by refine Lib.hid ?_; rw [size_swp]; exact HE.out
                clear hw0 HG c1 f1
                go_wp2
                go_ret2
                exact ⟨by rw [HP.out]; first | done | rfl, _, by rw [HP.out]; exact HFW.out⟩
            · have hjl2 : lo < j := by omega
              obtain ⟨G, hG⟩ := row_of HW2.out HE.out
              have c1 := hG.cells HH.out j (by omega)
              have f1 := hG.free HH.out j (by omega)
              have c2 := hG.cells HH.out lo (by omega)
              have f2 := hG.free HH.out lo (by omega)
              have HG := Lib.hid hG
              clear hG
              go_wp2_with fail
              go_region
              all_goals
                have hw0 := swapped HG.out 1 j lo (by omega) (by omega)
                have HFW := Lib.hid hw0
                have HFE : Hid ((swp e j lo).size = d.size) := by refine Lib.hid ?_; rw [size_swp]; exact HE.out
                clear hw0 HG c1 f1 c2 f2
                go_wp2
                go_ret2
                exact ⟨by rw [HP.out]; first | done | rfl, _, by rw [HP.out]; exact HFW.out⟩
          · have hne : i ≠ j := fun h => by
              have a1 := HQ1.out (by omega)
              have a2 := HQ2.out (by omega)
              rw [h] at a1; rw [a1] at a2; cases a2
            have hlt1 : i < j := by omega
            have g1 : ¬ (j : Int) < (i : Int) := by omega
            have HPF : Hid (Sort.partition ltInt d lo hi piv = ((partLoop ltInt lo (i + 1) (j - 1) (swp e i j)).1, false, swp (partLoop ltInt lo (i + 1) (j - 1) (swp e i j)).2 (partLoop ltInt lo (i + 1) (j - 1) (swp e i j)).1 lo)) := Lib.hid (part_false ltInt KH.out HEE.out HI1.out HJ2.out hij)
            clear hne
            obtain ⟨i0, ki0⟩ : ∃ i0, i + 1 = i0 := ⟨_, rfl⟩
            obtain ⟨j0, kj0⟩ : ∃ j0, j - 1 = j0 := ⟨_, rfl⟩
            rw [ki0, kj0] at HPF
            have q3 : (i : Int) + 1 = (i0 : Int) := by omega
            have q4 : (j : Int) - 1 = (j0 : Int) := by omega
            have hb0 : i0 ≤ j0 + 1 ∧ j0 ≤ h1 ∧ lo < i0 := by omega
            clear ki0 kj0
            obtain ⟨G, hG⟩ := row_of HW2.out HE.out
            have c1 := hG.cells HH.out i (by omega)
            have f1 := hG.free HH.out i (by omega)
            have c2 := hG.cells HH.out j (by omega)
            have f2 := hG.free HH.out j (by omega)
            have HG := Lib.hid hG
            clear hG
            go_wp2_with fail
            go_region
            all_goals
              have hw0 := swapped HG.out 1 i j (by omega) (by omega)
              have HAW := Lib.hid hw0
              have HAE : Hid ((swp e i j).size = d.size) := by refine Lib.hid ?_; rw [size_swp]; exact HE.out
              clear hw0 HG c1 f1 c2 f2
              obtain ⟨e0, ke0⟩ : ∃ e0, swp e i j = e0 := ⟨_, rfl⟩
              rw [ke0] at HAW HAE HPF
              clear ke0
              go_wp2
              go_loopw [10, 11] (fun v10 v11 wr => ∃ (i j n : Nat) (e3 : Array Int), v10 = .int .i64 i ∧ v11 = .int .i64 j ∧ lo < i ∧ i ≤ j + 1 ∧ j ≤ h1 ∧ Hid (e3.size = d.size) ∧ Hid (wr = rowW w n b off e3) ∧ Hid (partLoop ltInt lo i j e3 = partLoop ltInt lo i0 j0 e0)) (fun v10 v11 _ => (intOf v11 + 1 - intOf v10).toNat)
              case atStart => exact ⟨i0, j0, _, _, rfl, rfl, by omega, by omega, by omega, HAE, HAW, rfl⟩
              case round =>
                obtain ⟨i3, j3, n3, e3, rfl, rfl, hi3, hij3, hj3, HE3, HW3, HPL⟩ := hrel
                go_upto_block 6 with (fail)
                go_cut [10] from 99 to 114 (fun v wr => ∃ i n : Nat, v = .int .i64 i ∧ i3 ≤ i ∧ i ≤ j3 + 1 ∧ Hid (wr = rowW w n b off e3) ∧ Hid (scanUp (fun x => ltInt x e3[lo]!) e3 j3 i3 = i) ∧ Hid (i ≤ j3 → ltInt e3[i]! e3[lo]! = false))
                case first =>
                  go_wp2
                  go_loopw [10] (fun v wr => ∃ i n : Nat, v = .int .i64 i ∧ i3 ≤ i ∧ i ≤ j3 + 1 ∧ Hid (wr = rowW w n b off e3) ∧ Hid (scanUp (fun x => ltInt x e3[lo]!) e3 j3 i = scanUp (fun x => ltInt x e3[lo]!) e3 j3 i3)) (fun v _ => j3 + 1 - (intOf v).toNat)
                  case atStart => exact ⟨i3, _, rfl, by omega, by omega, HW3, rfl⟩
                  case round =>
                    obtain ⟨i, n, rfl, hi1, hi2, HWi, HI⟩ := hrel
                    by_cases hlt : i ≤ j3
                    · have i1 : (i : Int) ≤ (j3 : Int) := by omega
                      obtain ⟨G, hG⟩ := row_of HWi.out HE3.out
                      have c1 := hG.cells HH.out i (by omega)
                      have c2 := hG.cells HH.out lo (by omega)
                      have HG := Lib.hid hG
                      clear hG
                      go_wp2_with fail
                      go_quiet ((go_at_call 134; refine (less_any _ _ _).mono ?_; rintro e0 w'' ⟨rfl, rfl⟩; exact ⟨rfl, _, rfl⟩))
                      cases hl : ltInt (G i) (G lo) with
                      | true =>
                        have HL := Lib.hid hl
                        go_wp2
                        go_roundw
                        case rel => exact ⟨i + 1, _, by go_num, by omega, by omega, by refine Lib.hid ?_; rw [HWi.out, rowW_drewN], by refine Lib.hid ?_; rw [← HI.out]; exact (up_go hlt (by rw [← HG.out.val, ← HG.out.val, HL.out]; first | done | rfl)).symm⟩
                        case measure => simp [intOf]; omega
                      | false =>
                        have HL := Lib.hid hl
                        go_wp2
                        go_meet
                        case rel => exact ⟨i, _, rfl, by omega, by omega, by refine Lib.hid ?_; rw [HWi.out, rowW_drewN], by refine Lib.hid ?_; rw [← HI.out]; exact up_stop (.inr (by rw [← HG.out.val, ← HG.out.val, HL.out]; first | done | rfl)), Lib.hid (fun _ => by rw [← HG.out.val, ← HG.out.val]; exact HL.out)⟩
                    · have i1 : ¬ (i : Int) ≤ (j3 : Int) := by omega
                      go_wp2_with fail
                      go_quiet ((go_at_call 134; refine (less_any _ _ _).mono ?_; rintro e0 w'' ⟨rfl, rfl⟩; exact ⟨rfl, _, rfl⟩))
                      go_wp2
                      go_meet
                      case rel => exact ⟨i, _, rfl, by omega, by omega, by refine Lib.hid ?_; rw [HWi.out, rowW_drewN], by refine Lib.hid ?_; rw [← HI.out]; exact up_stop (.inl hlt), Lib.hid (fun h => absurd h hlt)⟩
                case rest =>
                  obtain ⟨i4, n4, rfl, hi4, hi5, HW4, HI4, HQ4⟩ := hcut
                  go_upto_block 8 with (fail)
                  go_cut [11] from 115 to 131 (fun v wr => ∃ j n : Nat, v = .int .i64 j ∧ j ≤ j3 ∧ i4 ≤ j + 1 ∧ Hid (wr = rowW w n b off e3) ∧ Hid (scanDown (fun x => !ltInt x e3[lo]!) e3 i4 j3 = j) ∧ Hid (i4 ≤ j → ltInt e3[j]! e3[lo]! = true))
                  case first =>
                    go_wp2
                    go_loopw [11] (fun v wr => ∃ j n : Nat, v = .int .i64 j ∧ j ≤ j3 ∧ i4 ≤ j + 1 ∧ Hid (wr = rowW w n b off e3) ∧ Hid (scanDown (fun x => !ltInt x e3[lo]!) e3 i4 j = scanDown (fun x => !ltInt x e3[lo]!) e3 i4 j3)) (fun v _ => (intOf v).toNat)
                    case atStart => exact ⟨j3, _, rfl, by omega, by omega, HW4, rfl⟩
                    case round =>
                      obtain ⟨j, n, rfl, hj1, hj2, HWi, HI⟩ := hrel
                      by_cases hlt : i4 ≤ j
                      · obtain ⟨jm, kj⟩ : ∃ jm, j = jm + 1 := ⟨j - 1, by omega⟩
                        have i1 : (i4 : Int) ≤ (j : Int) := by omega
                        have q1 : (j : Int) - 1 = (jm : Int) := by omega
                        have hjm : jm < j ∧ i4 ≤ jm + 1 := by omega
                        have KJ := Lib.hid kj
                        clear kj
                        obtain ⟨G, hG⟩ := row_of HWi.out HE3.out
                        have c1 := hG.cells HH.out j (by omega)
                        have c2 := hG.cells HH.out lo (by omega)
                        have HG := Lib.hid hG
                        clear hG
                        go_wp2_with fail
                        go_quiet ((go_at_call 134; refine (less_any _ _ _).mono ?_; rintro e0 w'' ⟨rfl, rfl⟩; exact ⟨rfl, _, rfl⟩))
                        cases hl : ltInt (G j) (G lo) with
                        | false =>
                          have HL := Lib.hid hl
                          go_wp2
                          go_roundw
                          case rel => exact ⟨jm, _, by go_num, by omega, by omega, by refine Lib.hid ?_; rw [HWi.out, rowW_drewN], by refine Lib.hid ?_; rw [← HI.out]; exact (down_go' KJ.out hlt (by rw [← HG.out.val, ← HG.out.val, HL.out]; first | done | rfl)).symm⟩
                          case measure => simp [intOf]; omega
                        | true =>
                          have HL := Lib.hid hl
                          go_wp2
                          go_meet
                          case rel => exact ⟨j, _, rfl, by omega, by omega, by refine Lib.hid ?_; rw [HWi.out, rowW_drewN], by refine Lib.hid ?_; rw [← HI.out]; exact down_stop (by omega) (.inr (by rw [← HG.out.val, ← HG.out.val, HL.out]; first | done | rfl)), Lib.hid (fun _ => by rw [← HG.out.val, ← HG.out.val]; exact HL.out)⟩
                      · have i1 : ¬ (i4 : Int) ≤ (j : Int) := by omega
                        go_wp2_with fail
                        go_quiet ((go_at_call 134; refine (less_any _ _ _).mono ?_; rintro e0 w'' ⟨rfl, rfl⟩; exact ⟨rfl, _, rfl⟩))
                        go_wp2
                        go_meet
                        case rel => exact ⟨j, _, rfl, by omega, by omega, by refine Lib.hid ?_; rw [HWi.out, rowW_drewN], by refine Lib.hid ?_; rw [← HI.out]; exact down_stop (by omega) (.inl hlt), Lib.hid (fun h => absurd h hlt)⟩
                  case rest =>
                    obtain ⟨j4, n5, rfl, hj4, hj5, HW5, HJ5, HQ5⟩ := hcut
                    by_cases hij : j4 < i4
                    · have g1 : (j4 : Int) < (i4 : Int) := by omega
                      have HP : Hid (Sort.partition ltInt d lo hi piv = (j4, false, swp e3 j4 lo)) := by refine Lib.hid ?_; rw [HPF.out, ← HPL.out, pl_stop ltInt HI4.out HJ5.out hij]
                      by_cases hjl : j4 = lo
                      · subst hjl
                        obtain ⟨G, hG⟩ := row_of HW5.out HE3.out
                        have c1 := hG.cells HH.out j4 (by omega)
                        have f1 := hG.free HH.out j4 (by omega)
                        have HG := Lib.hid hG
                        clear hG
                        go_wp2_with fail
                        go_region
                        all_goals
                          have hw0 := swapped HG.out 1 j4 j4 (by omega) (by omega)
                          have HFW := Lib.hid hw0
                          have HFE : Hid ((swp e3 j4 j4).size = d.size) := by refine Lib.hid ?_; rw [size_swp]; exact HE3.out
                          clear hw0 HG c1 f1
                          go_wp2
                          go_ret2
                          exact ⟨by rw [HP.out]; first | done | rfl, _, by rw [HP.out]; exact HFW.out⟩
                      · have hjl2 : lo < j4 := by omega
                        obtain ⟨G, hG⟩ := row_of HW5.out HE3.out
                        have c1 := hG.cells HH.out j4 (by omega)
                        have f1 := hG.free HH.out j4 (by omega)
                        have c2 := hG.cells HH.out lo (by omega)
                        have f2 := hG.free HH.out lo (by omega)
                        have HG := Lib.hid hG
                        clear hG
                        go_wp2_with fail
                        go_region
                        all_goals
                          have hw0 := swapped HG.out 1 j4 lo (by omega) (by omega)
                          have HFW := Lib.hid hw0
                          have HFE : Hid ((swp e3 j4 lo).size = d.size) := by refine Lib.hid ?_; rw [size_swp]; exact HE3.out
                          clear hw0 HG c1 f1 c2 f2
                          go_wp2
                          go_ret2
                          exact ⟨by rw [HP.out]; first | done | rfl, _, by rw [HP.out]; exact HFW.out⟩
                    · have hne : i4 ≠ j4 := fun h => by
                        have a1 := HQ4.out (by omega)
                        have a2 := HQ5.out (by omega)
                        rw [h] at a1; rw [a1] at a2; cases a2
                      have hlt4 : i4 < j4 := by omega
                      have g1 : ¬ (j4 : Int) < (i4 : Int) := by omega
                      clear hne
                      obtain ⟨G, hG⟩ := row_of HW5.out HE3.out
                      have c1 := hG.cells HH.out i4 (by omega)
                      have f1 := hG.free HH.out i4 (by omega)
                      have c2 := hG.cells HH.out j4 (by omega)
                      have f2 := hG.free HH.out j4 (by omega)
                      have HG := Lib.hid hG
                      clear hG
                      go_wp2_with fail
                      go_region
                      all_goals
                        have hw0 := swapped HG.out 1 i4 j4 (by omega) (by omega)
                        have HSW := Lib.hid hw0
                        have HSE : Hid ((swp e3 i4 j4).size = d.size) := by refine Lib.hid ?_; rw [size_swp]; exact HE3.out
                        clear hw0 HG c1 f1 c2 f2
                        go_wp2
                        go_roundw
                        case rel => exact ⟨i4 + 1, j4 - 1, _, swp e3 i4 j4, by go_num, by congr 1; omega, by omega, by omega, by omega, HSE, HSW, by refine Lib.hid ?_; rw [← HPL.out]; exact (pl_go ltInt HI4.out HJ5.out (by omega) hlt4 (by omega)).symm⟩
                        case measure => simp [intOf]; omega
end Go.Proofs.Ytjoaenfibkgplaa
