import Derived.Test.YtjoaenfibkgplaaM6
namespace Go.Proofs.Ytjoaenfibkgplaa
set_option linter.unusedSimpArgs false
open Go.RowKit Go.Cq
set_option linter.unusedVariables false

/-- A part of a memory, where it lies. -/
structure PartV where
  at_ : Nat
  data : List Nat
  perm : Int
  watch : Bool
  hdr : Option Addr
  cap : Nat
structure PartAt (w : World) (k o : Nat) (p : PartV) : Prop where
  c0 : w.cell? ⟨k, o, none⟩ = some (.int .u32 (p.at_ : Int))
  c1 : w.cell? ⟨k, o + 1, none⟩ = some (.slice p.hdr p.data.length p.cap)
  c2 : w.cell? ⟨k, o + 2, none⟩ = some (.int .i64 p.perm)
  c3 : w.cell? ⟨k, o + 3, none⟩ = some (.bool p.watch)
  at_lt : p.at_ < 4294967296
  len_lt : p.data.length < 4294967296
  nums : Nums w .u8 p.hdr p.data.length p.cap p.data
  byte : ∀ x ∈ p.data, x < 256
def PartsAt (w : World) (a : Option Addr) (ps : List PartV) : Prop := ∀ i (h : i < ps.length), ∃ k o, a = some ⟨k, o, none⟩ ∧ PartAt w k (o + i * 4) ps[i]

def AM.mapTo (A : AM) (x : Nat) (q : Int) : Nat → AM
  | 0 => A
  | k + 1 => (A.mapTo x q k).mapP ((x + k) % 4294967296) q
def AM.pokeTo (A : AM) (x : Nat) (d : List Nat) : Nat → AM
  | 0 => A
  | k + 1 => (A.pokeTo x d k).poke ((x + k) % 4294967296) (d.getD k 0)
def AM.addPart (A : AM) (p : PartV) : AM := ((A.mapTo p.at_ p.perm (max 1 p.data.length)).pokeTo p.at_ p.data p.data.length)
def AM.addTo (A : AM) (ps : List PartV) : Nat → AM
  | 0 => A
  | i + 1 => match ps[i]? with
    | some p => (A.addTo ps i).addPart p
    | none => A.addTo ps i
theorem AM.addTo_succ (A : AM) {ps : List PartV} {k : Nat} {p : PartV} (h : ps[k]? = some p) : A.addTo ps (k + 1) = ((A.addTo ps k).mapTo p.at_ p.perm (max 1 p.data.length)).pokeTo p.at_ p.data p.data.length := by
  rw [AM.addTo, h]
  rfl
theorem AM.mapP_watch (A : AM) (x : Nat) (q : Int) : (A.mapP x q).watch = A.watch := by
  unfold AM.mapP
  split
  · rfl
  · split <;> rfl
theorem AM.poke_watch (A : AM) (x v : Nat) : (A.poke x v).watch = A.watch := by
  unfold AM.poke
  split <;> rfl
theorem AM.mapTo_watch (A : AM) (x : Nat) (q : Int) (k : Nat) : (A.mapTo x q k).watch = A.watch := by
  induction k with
  | zero => rfl
  | succ k ih => rw [AM.mapTo, AM.mapP_watch, ih]
theorem AM.pokeTo_watch (A : AM) (x : Nat) (d : List Nat) (k : Nat) : (A.pokeTo x d k).watch = A.watch := by
  induction k with
  | zero => rfl
  | succ k ih => rw [AM.pokeTo, AM.poke_watch, ih]
theorem AM.addTo_watch (A : AM) (ps : List PartV) (k : Nat) : (A.addTo ps k).watch = A.watch := by
  induction k with
  | zero => rfl
  | succ k ih =>
    rw [AM.addTo]
    split
    · rw [AM.addPart, AM.pokeTo_watch, AM.mapTo_watch, ih]
    · exact ih

theorem cell_block {w : World} {a : Addr} {v : Value} (h : w.cell? a = some v) : a.block < w.heap.size := by
  unfold World.cell? at h
  split at h
  · rename_i hb; exact (Array.getElem?_eq_some_iff.1 hb).1
  · cases h
theorem cell_kept {w w' : World} {a : Addr} {v : Value} (h : w.cell? a = some v) (hb : Below w.heap.size w w') : w'.cell? a = some v := (hb.cell (cell_block h)).trans h
theorem PartAt.kept {w w' : World} {k o : Nat} {p : PartV} (h : PartAt w k o p) (hb : Below w.heap.size w w') : PartAt w' k o p where
  c0 := cell_kept h.c0 hb
  c1 := cell_kept h.c1 hb
  c2 := cell_kept h.c2 hb
  c3 := cell_kept h.c3 hb
  at_lt := h.at_lt
  len_lt := h.len_lt
  nums := h.nums.kept hb
  byte := h.byte

/-- A memory, behind what came ahead of it. -/
def MemIn (w0 : World) (mb mm wm : Nat) (A : AM) (w : World) : Prop := (∃ S, MemAt w w0.heap.size mb mm wm S ∧ S.v = A) ∧ Below w0.heap.size w0 w

theorem MemIn.map {w0 : World} {mb mm wm : Nat} {A : AM} {w : World} (h : MemIn w0 mb mm wm A w) (x : Nat) (q : Int) (hx : x < 4294967296) :
    Calls Try.prog 37 #[.pointer (some ⟨mb, 0, none⟩), .int .u32 (x : Int), .int .i64 q] w fun e w' => (∃ r, e = .returned (.int .i64 r)) ∧ MemIn w0 mb mm wm (A.mapP x q) w' := by
  obtain ⟨⟨S, h1, rfl⟩, h2⟩ := h
  exact (map_any x q w hx h1).mono fun e w' he => ⟨he.1, he.2.1, h2.trans he.2.2⟩
theorem MemIn.poke {w0 : World} {mb mm wm : Nat} {A : AM} {w : World} (h : MemIn w0 mb mm wm A w) (x v : Nat) (hx : x < 4294967296) (hv : v < 256) (hw : A.watch = []) :
    Calls Try.prog 38 #[.pointer (some ⟨mb, 0, none⟩), .int .u32 (x : Int), .int .u8 (v : Int)] w fun e w' => (∃ r, e = .returned (.bool r)) ∧ MemIn w0 mb mm wm (A.poke x v) w' := by
  obtain ⟨⟨S, h1, rfl⟩, h2⟩ := h
  exact (poke_any x v w hx hv h1 hw).mono fun e w' he => ⟨he.1, he.2.1, h2.trans he.2.2⟩
theorem MemIn.drewN {w0 : World} {mb mm wm : Nat} {A : AM} {w : World} (h : MemIn w0 mb mm wm A w) (n : Nat) : MemIn w0 mb mm wm A (w.drewN n) := by
  obtain ⟨⟨S, h1, rfl⟩, h2⟩ := h
  exact ⟨⟨S, h1.drewN n, rfl⟩, below_drewN h2 n⟩
theorem MemIn.below {w0 : World} {mb mm wm : Nat} {A : AM} {w : World} (h : MemIn w0 mb mm wm A w) : Below w0.heap.size w0 w := h.2

theorem AM.mapP_most (A : AM) (x : Nat) (q : Int) : (A.mapP x q).most = A.most := by
  unfold AM.mapP
  split
  · rfl
  · split <;> rfl
theorem AM.poke_most (A : AM) (x v : Nat) : (A.poke x v).most = A.most := by
  unfold AM.poke
  split <;> rfl
theorem AM.mapTo_most (A : AM) (x : Nat) (q : Int) (k : Nat) : (A.mapTo x q k).most = A.most := by
  induction k with
  | zero => rfl
  | succ k ih => rw [AM.mapTo, AM.mapP_most, ih]
theorem AM.pokeTo_most (A : AM) (x : Nat) (d : List Nat) (k : Nat) : (A.pokeTo x d k).most = A.most := by
  induction k with
  | zero => rfl
  | succ k ih => rw [AM.pokeTo, AM.poke_most, ih]
theorem AM.addTo_most (A : AM) (ps : List PartV) (k : Nat) : (A.addTo ps k).most = A.most := by
  induction k with
  | zero => rfl
  | succ k ih =>
    rw [AM.addTo]
    split
    · rw [AM.addPart, AM.pokeTo_most, AM.mapTo_most, ih]
    · exact ih
/-- A memory, whatever is watched. -/
def WatchIn (w0 : World) (mb mm wm : Nat) (A : AM) (w : World) : Prop := (∃ S, MemAt w w0.heap.size mb mm wm S ∧ S.v.pages = A.pages ∧ S.v.most = A.most) ∧ Below w0.heap.size w0 w
theorem WatchIn.drewN {w0 : World} {mb mm wm : Nat} {A : AM} {w : World} (h : WatchIn w0 mb mm wm A w) (n : Nat) : WatchIn w0 mb mm wm A (w.drewN n) := by
  obtain ⟨⟨S, h1, h3⟩, h2⟩ := h
  exact ⟨⟨S, h1.drewN n, h3⟩, below_drewN h2 n⟩
theorem WatchIn.watch {w0 : World} {mb mm wm : Nat} {A : AM} {w : World} (h : WatchIn w0 mb mm wm A w) (x : Nat) (on : Bool) (hx : x < 4294967296) :
    Calls Try.prog 39 #[.pointer (some ⟨mb, 0, none⟩), .int .u32 (x : Int), .bool on] w fun e w' => e = .returned (.tuple #[]) ∧ WatchIn w0 mb mm wm A w' := by
  obtain ⟨⟨S, h1, h3, h4⟩, h2⟩ := h
  refine (watch_any x on w hx h1).mono fun e w' he => ⟨he.1, ?_⟩
  obtain ⟨⟨S', k1, k2, k3⟩, k4⟩ := he.2
  exact ⟨⟨S', k1, by simp only [MS.v, k2] at h3 ⊢; exact h3, by simp only [MS.v, k3] at h4 ⊢; exact h4⟩, h2.trans k4⟩

set_option maxHeartbeats 1500000 in
/-- 'calquelaw00.Memory'. -/
theorem memory_any {ps : List PartV} {a : Option Addr} {cap : Nat} (w : World) (hP : PartsAt w a ps) (hn : ps.length < 4294967296) :
    Calls Try.prog 10 #[.slice a ps.length cap] w fun e w' => ∃ mb mm wm S, e = .returned (.pointer (some ⟨mb, 0, none⟩)) ∧ MemAt w' w.heap.size mb mm wm S ∧
      S.v.pages = ((⟨64, [], []⟩ : AM).addTo ps ps.length).pages ∧ S.v.most = 64 ∧ Below w.heap.size w w' := by
  have HP := Lib.hid hP
  clear hP
  go_enter Try.func10, Try.ntmps10
  go_wp2_with (go_at_call 36; refine (new_any _).mono ?_; rintro e w1 ⟨mb, mm, wm, rfl, hm, hb⟩; have HM : Hid (MemIn w mb mm wm ⟨64, [], []⟩ w1) := ⟨⟨_, hm, rfl⟩, hb⟩; clear hm hb)
  go_loopw [4, 5, 6] (fun i _ _ wr => ∃ k : Nat, k ≤ ps.length ∧ i = .int .i64 (k : Int) ∧ MemIn w mb mm wm ((⟨64, [], []⟩ : AM).addTo ps k) wr) (fun i _ _ _ => ps.length - (intOf i).toNat)
  case atStart => exact ⟨0, by omega, rfl, HM⟩
  case round =>
    obtain ⟨k, hk, rfl, hm⟩ := hrel
    have HM2 := Lib.hid hm
    clear hm
    by_cases hlt : k < ps.length
    · obtain ⟨kb, o, rfl, hp⟩ := HP.out k hlt
      have HP1 := Lib.hid hp
      clear hp
      generalize hpk : ps[k] = p at HP1
      have hps : Hid (ps[k]? = some p) := by
        refine Lib.hid ?_
        rw [List.getElem?_eq_getElem hlt, hpk]
      clear hpk
      go_wp2_with fail
      go_loopw [5] (fun j wr' => ∃ m : Nat, m ≤ max 1 p.data.length ∧ j = .int .i64 (m : Int) ∧ MemIn w mb mm wm (((⟨64, [], []⟩ : AM).addTo ps k).mapTo p.at_ p.perm m) wr') (fun j _ => max 1 p.data.length - (intOf j).toNat)
      case atStart => exact ⟨0, by omega, rfl, HM2.out⟩
      case round =>
        obtain ⟨m, hm, rfl, hmi⟩ := hrel
        have hq := HP1.out.kept (hmi.below)
        have c0 := hq.c0
        have c1 := hq.c1
        have c2 := hq.c2
        have HMI := Lib.hid hmi
        have HQ := Lib.hid hq
        clear hmi hq
        have hml : m < 4294967296 := by have := HQ.out.len_lt; omega
        have E1 : Hid (IntKind.u32.wrap ((p.at_ : Int) + IntKind.u32.wrap (m : Int)) = (((p.at_ + m) % 4294967296 : Nat) : Int)) := by
          refine Lib.hid ?_
          rw [IntKind.wrap_u32, IntKind.wrap_u32]; omega
        by_cases hml1 : m < p.data.length
        · go_wp2_with fail
          set_option maxRecDepth 4000 in
          go_region_with (go_at_call 37; rw [E1.out]; refine ((HMI.out.drewN _).map ((p.at_ + m) % 4294967296) p.perm (Nat.mod_lt _ (by decide))).mono ?_; rintro e w' ⟨⟨r, rfl⟩, hmi⟩; have HN := Lib.hid hmi; clear hmi)
          all_goals (
            go_wp2_with fail
            go_roundw
            case rel => exact ⟨m + 1, by omega, by go_num, HN.out⟩
            case measure => simp [intOf]; omega)
        · by_cases hml2 : m < 1
          · go_wp2_with fail
            set_option maxRecDepth 4000 in
            go_region_with (go_at_call 37; rw [E1.out]; refine ((HMI.out.drewN _).map ((p.at_ + m) % 4294967296) p.perm (Nat.mod_lt _ (by decide))).mono ?_; rintro e w' ⟨⟨r, rfl⟩, hmi⟩; have HN := Lib.hid hmi; clear hmi)
            all_goals (
              go_wp2_with fail
              go_roundw
              case rel => exact ⟨m + 1, by omega, by go_num, HN.out⟩
              case measure => simp [intOf]; omega)
          · obtain rfl : m = max 1 p.data.length := by omega
            have hml3 : ¬ ((max 1 p.data.length : Nat) : Int) < (p.data.length : Int) := by omega
            go_wp2_with fail
            go_loopw [6] (fun j wr' => ∃ m : Nat, m ≤ p.data.length ∧ j = .int .i64 (m : Int) ∧ MemIn w mb mm wm ((((⟨64, [], []⟩ : AM).addTo ps k).mapTo p.at_ p.perm (max 1 p.data.length)).pokeTo p.at_ p.data m) wr') (fun j _ => p.data.length - (intOf j).toNat)
            case atStart => exact ⟨0, by omega, rfl, HMI.out⟩
            case round =>
              clear c0 c1 c2 HQ hml hm hml1 hml2 E1
              obtain ⟨m, hm, rfl, hmi⟩ := hrel
              have hq := HP1.out.kept (hmi.below)
              have c0 := hq.c0
              have c1 := hq.c1
              have HMI2 := Lib.hid hmi
              have HQ := Lib.hid hq
              clear hmi
              have hml : m < 4294967296 := by have := HQ.out.len_lt; omega
              have E1 : Hid (IntKind.u32.wrap ((p.at_ : Int) + IntKind.u32.wrap (m : Int)) = (((p.at_ + m) % 4294967296 : Nat) : Int)) := by
                refine Lib.hid ?_
                rw [IntKind.wrap_u32, IntKind.wrap_u32]; omega
              by_cases hml1 : m < p.data.length
              · obtain ⟨b, off, hh, -, hc⟩ := hq.nums.2.2.2 m hml1
                rw [hh] at c1
                have HBY : Hid (p.data.getD m 0 < 256) := HQ.out.byte _ (getD_mem _ _ hml1)
                have HWT : Hid (((((⟨64, [], []⟩ : AM).addTo ps k).mapTo p.at_ p.perm (max 1 p.data.length)).pokeTo p.at_ p.data m).watch = []) := by
                  refine Lib.hid ?_
                  rw [AM.pokeTo_watch, AM.mapTo_watch, AM.addTo_watch]
                clear hq hh
                generalize hv : p.data.getD m 0 = v at hc HBY
                have HV := Lib.hid hv
                clear hv
                go_wp2_with fail
                set_option maxRecDepth 4000 in
                go_region_with (go_at_call 38; rw [E1.out]; refine ((HMI2.out.drewN _).poke ((p.at_ + m) % 4294967296) v (Nat.mod_lt _ (by decide)) HBY.out HWT.out).mono ?_; rintro e w' ⟨⟨r, rfl⟩, hmi⟩; have HN := Lib.hid hmi; clear hmi)
                all_goals (
                  go_wp2_with fail
                  go_roundw
                  case rel => exact ⟨m + 1, by omega, by go_num, by rw [AM.pokeTo, HV.out]; exact HN.out⟩
                  case measure => simp [intOf]; omega)
              · obtain rfl : m = p.data.length := by omega
                clear hq
                go_wp2_with fail
                go_roundw
                case rel => exact ⟨k + 1, by omega, by go_num, by rw [AM.addTo_succ _ hps.out]; exact HMI2.out⟩
                case measure => simp [intOf]; omega
    · obtain rfl : k = ps.length := by omega
      go_wp2_with fail
      have HS : Hid (WatchIn w mb mm wm ((⟨64, [], []⟩ : AM).addTo ps ps.length) wr) := by
        obtain ⟨⟨S, h1, h2⟩, h3⟩ := HM2.out
        exact ⟨⟨S, h1, by rw [h2], by rw [h2]⟩, h3⟩
      go_loopw [7] (fun i wr' => ∃ k : Nat, k ≤ ps.length ∧ i = .int .i64 (k : Int) ∧ WatchIn w mb mm wm ((⟨64, [], []⟩ : AM).addTo ps ps.length) wr') (fun i _ => ps.length - (intOf i).toNat)
      case atStart => exact ⟨0, by omega, rfl, HS.out⟩
      case round =>
        clear HM2 HM HS
        obtain ⟨k, hk, rfl, hmi⟩ := hrel
        have HMI := Lib.hid hmi
        clear hmi
        by_cases hlt : k < ps.length
        · obtain ⟨kb, o, rfl, hp⟩ := HP.out k hlt
          have hq := hp.kept (HMI.out.2)
          clear hp
          generalize ps[k] = p at hq
          have c0 := hq.c0
          have c3 := hq.c3
          have hat : Hid (p.at_ < 4294967296) := hq.at_lt
          clear hq
          go_wp2_with fail
          set_option maxRecDepth 4000 in
          go_region_with (go_at_call 39; refine ((HMI.out.drewN _).watch p.at_ p.watch hat.out).mono ?_; rintro e w' ⟨rfl, hmi⟩; have HN := Lib.hid hmi; clear hmi)
          all_goals (
            go_wp2_with fail
            go_roundw
            case rel => exact ⟨k + 1, by omega, by go_num, HN.out⟩
            case measure => simp [intOf]; omega)
        · obtain rfl : k = ps.length := by omega
          go_wp2_with fail
          go_ret
          obtain ⟨⟨S, h1, h2, h3⟩, h4⟩ := HMI.out
          exact ⟨mb, mm, wm, S, rfl, h1, h2, by rw [h3, AM.addTo_most], h4⟩
end Go.Proofs.Ytjoaenfibkgplaa
