import Derived.Test.YtjoaenfibkgplaaD1
import Derived.Test.YtjoaenfibkgplaaD2
import Derived.Test.YtjoaenfibkgplaaD3
import Derived.Test.YtjoaenfibkgplaaD4
namespace Go.Proofs.Ytjoaenfibkgplaa
set_option linter.unusedSimpArgs false
open Go.RowKit Go.Cq
set_option linter.unusedVariables false

theorem rows_form : ∀ r ∈ insRows, r.2.1 ≤ 17 := by decide +kernel
theorem rowAt_form (k : Nat) : (rowAt k).2.1 ≤ 17 := by
  unfold rowAt
  by_cases h : k + 1 < insRows.length
  · rw [List.getD, List.getElem?_eq_getElem h]; exact rows_form _ (List.getElem_mem h)
  · rw [List.getD, List.getElem?_eq_none (by omega)]; decide
theorem findFrom_form {key : Nat × Nat} {n k : Nat} {r : IRow} (h : findFrom key n k = some r) : r.2.1 ≤ 17 := by
  induction n generalizing k with
  | zero => simp [findFrom] at h
  | succ n ih =>
    rw [findFrom] at h
    split at h
    · simp only [Option.some.injEq] at h; subst h; exact rowAt_form k
    · exact ih h

/-- 'ins.Decode': the instruction of a word. -/
theorem decode_any (x : Nat) (w : World) (hx : x < 4294967296) :
    Calls Try.prog 90 #[.int .u32 (x : Int)] w fun e w' => e = .returned (.agg (insVals (decN x))) ∧ Below w.heap.size w w' := by
  cases hr : rowOf (keyN x) with
  | none => exact decode_none x w hx hr
  | some r =>
    obtain ⟨op, f, nm, cd⟩ := r
    have hf : f ≤ 17 := findFrom_form hr
    have h18 : f = 0 ∨ f = 1 ∨ f = 2 ∨ f = 3 ∨ f = 4 ∨ f = 5 ∨ f = 6 ∨ f = 7 ∨ f = 8 ∨ f = 9 ∨ f = 10 ∨ f = 11 ∨ f = 12 ∨ f = 13 ∨ f = 14 ∨ f = 15 ∨ f = 16 ∨ f = 17 := by omega
    rcases h18 with rfl | rfl | rfl | rfl | rfl | rfl | rfl | rfl | rfl | rfl | rfl | rfl | rfl | rfl | rfl | rfl | rfl | rfl
    · exact decode0 x op nm cd w hx hr
    · exact decode1 x op nm cd w hx hr
    · exact decode2 x op nm cd w hx hr
    · exact decode3 x op nm cd w hx hr
    · exact decode4 x op nm cd w hx hr
    · exact decode5 x op nm cd w hx hr
    · exact decode6 x op nm cd w hx hr
    · exact decode7 x op nm cd w hx hr
    · exact decode8 x op nm cd w hx hr
    · exact decode9 x op nm cd w hx hr
    · exact decode10 x op nm cd w hx hr
    · exact decode11 x op nm cd w hx hr
    · exact decode12 x op nm cd w hx hr
    · exact decode13 x op nm cd w hx hr
    · exact decode14 x op nm cd w hx hr
    · exact decode15 x op nm cd w hx hr
    · exact decode16 x op nm cd w hx hr
    · exact decode17 x op nm cd w hx hr

/-! The sorts of instructions. -/
def kindN (op : Nat) : Nat :=
  if op < 1 ∨ op > 69 then 0 else if op = 27 ∨ op = 28 ∨ op ≥ 60 then 2 else if op = 35 ∨ op = 36 then 3 else if 48 ≤ op ∧ op ≤ 54 then 4 else if 55 ≤ op ∧ op ≤ 59 then 5
  else if op = 9 ∨ op = 10 ∨ op = 41 ∨ (29 ≤ op ∧ op ≤ 34) then 6 else 1
def kindI (op : Int) : Nat := if op < 1 ∨ op > 69 then 0 else kindN op.toNat
end Go.Proofs.Ytjoaenfibkgplaa
