import Derived.Test.YtjoaenfibkgplaaZC
namespace Go.Proofs.Ytjoaenfibkgplaa
set_option linter.unusedSimpArgs false
open Go.RowKit Go.Cq
set_option linter.unusedVariables false
theorem Try.info27 : (Try.prog.info? 27).map (fun i => (i.zero, i.size, i.bytes)) = some (some (.int .u32 0), 1, 4) := by kernel_rfl
theorem Try.agg27 (w : World) : (isAgg 27).run Try.prog w = .ok false w := by kernel_rfl
theorem Try.size27 (w : World) : (sizeOf 27).run Try.prog w = .ok 1 w := by kernel_rfl
theorem part27 (cs : Array Value) (j : Nat) (v : Value) (h : cs[j]? = some v) (w : World) : (part 27 cs j).run Try.prog w = .ok v w := by
  unfold part
  rw [Sem.run_bind, Try.agg27]
  simp [Result.andThen, h]
theorem eq172 (w : World) (a b c d : Int) : (Op.equalIn 10000 172 (.agg #[.int .u32 a, .int .u32 b]) (.agg #[.int .u32 c, .int .u32 d])).run Try.prog w = .ok (a == c && b == d) w := by
  show (Op.equalIn (9999 + 1) 172 _ _).run Try.prog w = _
  have h1 := run_underlying (P := Try.prog) Try.underlying172
  have hd : ∀ (w : World) (x y : Int), (Op.equalIn 9999 27 (.int .u32 x) (.int .u32 y)).run Try.prog w = .ok (x == y) w := fun w x y => run_equalIn_int w 9998 27 .u32 .u32 x y Try.underlying27
  unfold Op.equalIn
  rw [Sem.run_bind, h1]
  simp only [Result.andThen_ok, Sem.run_bind, Try.size27]
  have pa0 := part27 #[.int .u32 a, .int .u32 b] 0 _ rfl
  have pa1 := part27 #[.int .u32 a, .int .u32 b] 1 _ rfl
  have pc0 := part27 #[.int .u32 c, .int .u32 d] 0 _ rfl
  have pc1 := part27 #[.int .u32 c, .int .u32 d] 1 _ rfl
  have hl : List.range' 0 2 = [0, 1] := rfl
  simp [hl, pa0, pa1, pc0, pc1, hd]
  by_cases e1 : a = c
  · subst e1
    by_cases e2 : b = d
    · subst e2; simp
    · simp [e2]
  · simp [e1]
end Go.Proofs.Ytjoaenfibkgplaa
