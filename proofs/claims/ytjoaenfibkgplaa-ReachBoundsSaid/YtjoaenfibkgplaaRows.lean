/-
  No cell of these rows narrows 'for every input' (looked for: loops, veiled, ifaces, maps, wideKeys, modest, calm, conditions, laid).
  DERIVED. THE GIVEN ROWS OF THIS SEAT. 6 by the template 'for every input the law returns true; each argument reads behind the call as it read before'; 0 by the template 'total and deterministic' (their statements: YtjoaenfibkgplaaTotals.lean).
  GIVEN WITH THE SEED: the statements are not yours to turn. If you find one false, say at which input.
  Laid BY PROGRAM, IN A SANDBOX (cutbox-rows.mjs): the forced cells as the released guide's own fill.sh prints them over the translation 74b86ca6d78ad3c3… (all of the seat's roots in one cut). By AI agents, Wed Nov 11 2026. No macro, syntax, notation, axiom, sorry.
-/
import Derived.Test.YtjoaenfibkgplaaChecked
import GoSem.Claim
import GoSem.ClaimJoined
import GoSem.ClaimMapViews
import Derived.JoinedTies
import Derived.KernelRfl
namespace Go.Proofs.Ytjoaenfibkgplaa
/- THE CELL 'sum', in the pinned program and in every row, IS THE sha256 OF THE DUMP (.gsa) THAT YtjoaenfibkgplaaProg.lean LOADS. Nothing in Lean hashes anything: it is a label: what it is worth is what the hold of that sum in a sandbox is worth. -/
noncomputable def Try.pinned : Pinned := { name := "ytjoaenfibkgplaa", sum := "74b86ca6d78ad3c3a6251dae9bb22f90a7a5366e61a90a586b51b8527af31eda", checked := Try.checked }
namespace Rows
def none {H : Type} : Left H := { results := [], args := [] }

/-- 'calquelaw14.BlockCuts': WHATEVER THE INPUT: true; the input reads as it did. -/
def blockCutsSpec : ChangeSpec := { name := "blockCuts", fn := fun _ => fun
  | [d1, d2, d3] => { results := [.lit (.bool true)], args := [d1, d2, d3] }
  | _ => none }
def blockCutsRow : OpenClaim := { program := "ytjoaenfibkgplaa", sum := "74b86ca6d78ad3c3a6251dae9bb22f90a7a5366e61a90a586b51b8527af31eda", func := "calque/calquelaw14.BlockCuts", spec := "blockCuts", inPlace := ["sync/atomic.LoadInt64", "sync/atomic.AddInt64"], unfollowed := true, recurses := true, apart := false }
def BlockCutsSaid : Prop := blockCutsRow.holds Try.pinned (OpenSpec.ofChange blockCutsSpec)

/-- ITS FALSE NEIGHBOUR: 'it returns false'. Refute it at one input. -/
def blockCutsWrong : ChangeSpec := { name := "blockCuts", fn := fun _ => fun
  | [d1, d2, d3] => { results := [.lit (.bool false)], args := [d1, d2, d3] }
  | _ => none }
def BlockCutsWrongFalsely : Prop := blockCutsRow.holds Try.pinned (OpenSpec.ofChange blockCutsWrong)

/-- 'calquelaw14.BlockEnds': WHATEVER THE INPUT: true; the input reads as it did. -/
def blockEndsSpec : ChangeSpec := { name := "blockEnds", fn := fun _ => fun
  | [d1, d2] => { results := [.lit (.bool true)], args := [d1, d2] }
  | _ => none }
def blockEndsRow : OpenClaim := { program := "ytjoaenfibkgplaa", sum := "74b86ca6d78ad3c3a6251dae9bb22f90a7a5366e61a90a586b51b8527af31eda", func := "calque/calquelaw14.BlockEnds", spec := "blockEnds", inPlace := ["sync/atomic.LoadInt64", "sync/atomic.AddInt64"], unfollowed := true, recurses := true, apart := false }
def BlockEndsSaid : Prop := blockEndsRow.holds Try.pinned (OpenSpec.ofChange blockEndsSpec)

/-- ITS FALSE NEIGHBOUR: 'it returns false'. Refute it at one input. -/
def blockEndsWrong : ChangeSpec := { name := "blockEnds", fn := fun _ => fun
  | [d1, d2] => { results := [.lit (.bool false)], args := [d1, d2] }
  | _ => none }
def BlockEndsWrongFalsely : Prop := blockEndsRow.holds Try.pinned (OpenSpec.ofChange blockEndsWrong)

/-- 'calquelaw14.BlockSizes': WHATEVER THE INPUT: true; the input reads as it did. -/
def blockSizesSpec : ChangeSpec := { name := "blockSizes", fn := fun _ => fun
  | [d1, d2] => { results := [.lit (.bool true)], args := [d1, d2] }
  | _ => none }
def blockSizesRow : OpenClaim := { program := "ytjoaenfibkgplaa", sum := "74b86ca6d78ad3c3a6251dae9bb22f90a7a5366e61a90a586b51b8527af31eda", func := "calque/calquelaw14.BlockSizes", spec := "blockSizes", inPlace := ["sync/atomic.LoadInt64", "sync/atomic.AddInt64"], unfollowed := true, recurses := true, apart := false }
def BlockSizesSaid : Prop := blockSizesRow.holds Try.pinned (OpenSpec.ofChange blockSizesSpec)

/-- ITS FALSE NEIGHBOUR: 'it returns false'. Refute it at one input. -/
def blockSizesWrong : ChangeSpec := { name := "blockSizes", fn := fun _ => fun
  | [d1, d2] => { results := [.lit (.bool false)], args := [d1, d2] }
  | _ => none }
def BlockSizesWrongFalsely : Prop := blockSizesRow.holds Try.pinned (OpenSpec.ofChange blockSizesWrong)

/-- 'calquelaw07.LoadDigests': WHATEVER THE INPUT: true; the input reads as it did. -/
def loadDigestsSpec : ChangeSpec := { name := "loadDigests", fn := fun _ => fun
  | [d1, d2, d3] => { results := [.lit (.bool true)], args := [d1, d2, d3] }
  | _ => none }
def loadDigestsRow : OpenClaim := { program := "ytjoaenfibkgplaa", sum := "74b86ca6d78ad3c3a6251dae9bb22f90a7a5366e61a90a586b51b8527af31eda", func := "calque/calquelaw07.LoadDigests", spec := "loadDigests", inPlace := ["sync/atomic.LoadInt64", "sync/atomic.AddInt64"], unfollowed := true, recurses := true, apart := false }
def LoadDigestsSaid : Prop := loadDigestsRow.holds Try.pinned (OpenSpec.ofChange loadDigestsSpec)

/-- ITS FALSE NEIGHBOUR: 'it returns false'. Refute it at one input. -/
def loadDigestsWrong : ChangeSpec := { name := "loadDigests", fn := fun _ => fun
  | [d1, d2, d3] => { results := [.lit (.bool false)], args := [d1, d2, d3] }
  | _ => none }
def LoadDigestsWrongFalsely : Prop := loadDigestsRow.holds Try.pinned (OpenSpec.ofChange loadDigestsWrong)

/-- 'calquelaw07.LoadAll': WHATEVER THE INPUT: true; the input reads as it did. -/
def loadAllSpec : ChangeSpec := { name := "loadAll", fn := fun _ => fun
  | [d1, d2] => { results := [.lit (.bool true)], args := [d1, d2] }
  | _ => none }
def loadAllRow : OpenClaim := { program := "ytjoaenfibkgplaa", sum := "74b86ca6d78ad3c3a6251dae9bb22f90a7a5366e61a90a586b51b8527af31eda", func := "calque/calquelaw07.LoadAll", spec := "loadAll", inPlace := ["sync/atomic.LoadInt64", "sync/atomic.AddInt64"], unfollowed := true, recurses := true, apart := false }
def LoadAllSaid : Prop := loadAllRow.holds Try.pinned (OpenSpec.ofChange loadAllSpec)

/-- ITS FALSE NEIGHBOUR: 'it returns false'. Refute it at one input. -/
def loadAllWrong : ChangeSpec := { name := "loadAll", fn := fun _ => fun
  | [d1, d2] => { results := [.lit (.bool false)], args := [d1, d2] }
  | _ => none }
def LoadAllWrongFalsely : Prop := loadAllRow.holds Try.pinned (OpenSpec.ofChange loadAllWrong)

/-- 'calquelaw15.ReachBounds': WHATEVER THE INPUT: true; the input reads as it did. -/
def reachBoundsSpec : ChangeSpec := { name := "reachBounds", fn := fun _ => fun
  | [d1, d2, d3, d4] => { results := [.lit (.bool true)], args := [d1, d2, d3, d4] }
  | _ => none }
def reachBoundsRow : OpenClaim := { program := "ytjoaenfibkgplaa", sum := "74b86ca6d78ad3c3a6251dae9bb22f90a7a5366e61a90a586b51b8527af31eda", func := "calque/calquelaw15.ReachBounds", spec := "reachBounds", inPlace := ["sync/atomic.LoadInt64", "sync/atomic.AddInt64"], unfollowed := true, recurses := true, apart := false }
def ReachBoundsSaid : Prop := reachBoundsRow.holds Try.pinned (OpenSpec.ofChange reachBoundsSpec)

/-- ITS FALSE NEIGHBOUR: 'it returns false'. Refute it at one input. -/
def reachBoundsWrong : ChangeSpec := { name := "reachBounds", fn := fun _ => fun
  | [d1, d2, d3, d4] => { results := [.lit (.bool false)], args := [d1, d2, d3, d4] }
  | _ => none }
def ReachBoundsWrongFalsely : Prop := reachBoundsRow.holds Try.pinned (OpenSpec.ofChange reachBoundsWrong)

/- THE SECOND FORM. 'bulk': how many values and letters a reading holds, each counted each time it is reached (what is shared counts as often as it is met; a slice's spare places count too). A statement '..UptoSaid' is the law's where the arguments, and the package variables that the reading takes, are together of bulk at most 1048576: NARROWER than '..Said'. Prove '..Said' where nothing that the law and all that it calls make is longer than what came in: it says more and counts as full. Else prove '..UptoSaid'. A law counts once. -/
mutual
def uptoBulk {H : Type} : DataW H → Nat
  | .lit (.string bytes) => bytes.length + 1
  | .lit _ => 1
  | .nil => 1
  | .ptr d => uptoBulk d + 1
  | .slice elems spare => uptoBulkAll elems + uptoBulkAll spare + 1
  | .agg parts => uptoBulkAll parts + 1
  | .iface _ d => uptoBulk d + 1
  | .map entries => uptoBulkEntries entries + 1
  | .held _ => 1
def uptoBulkAll {H : Type} : List (DataW H) → Nat
  | [] => 0
  | d :: r => uptoBulk d + uptoBulkAll r
def uptoBulkEntries {H : Type} : List (Lit × DataW H) → Nat
  | [] => 0
  | x :: r => uptoBulkEntry x + uptoBulkEntries r
def uptoBulkEntry {H : Type} : Lit × DataW H → Nat
  | (.string bytes, d) => bytes.length + uptoBulk d + 1
  | (_, d) => uptoBulk d + 1
 end
def uptoSmall : (H : Type) → List (DataW H) → Bool := fun _ ds => decide (uptoBulkAll ds ≤ 1048576)
def OpenSpec.upto (s : _root_.Go.ChangeSpec) : _root_.Go.OpenSpec := { _root_.Go.OpenSpec.ofChange s with cond := some uptoSmall }

/-- 'calquelaw14.BlockCuts', WHERE WHAT IT READS IS OF BULK AT MOST 1048576: true; the input reads as it did. -/
def blockCutsUptoRow : OpenClaim := { program := "ytjoaenfibkgplaa", sum := "74b86ca6d78ad3c3a6251dae9bb22f90a7a5366e61a90a586b51b8527af31eda", func := "calque/calquelaw14.BlockCuts", spec := "blockCuts", inPlace := ["sync/atomic.LoadInt64", "sync/atomic.AddInt64"], unfollowed := true, recurses := true, apart := false, narrowed := true }
def BlockCutsUptoSaid : Prop := blockCutsUptoRow.holds Try.pinned (OpenSpec.upto blockCutsSpec)

/-- 'calquelaw14.BlockEnds', WHERE WHAT IT READS IS OF BULK AT MOST 1048576: true; the input reads as it did. -/
def blockEndsUptoRow : OpenClaim := { program := "ytjoaenfibkgplaa", sum := "74b86ca6d78ad3c3a6251dae9bb22f90a7a5366e61a90a586b51b8527af31eda", func := "calque/calquelaw14.BlockEnds", spec := "blockEnds", inPlace := ["sync/atomic.LoadInt64", "sync/atomic.AddInt64"], unfollowed := true, recurses := true, apart := false, narrowed := true }
def BlockEndsUptoSaid : Prop := blockEndsUptoRow.holds Try.pinned (OpenSpec.upto blockEndsSpec)

/-- 'calquelaw14.BlockSizes', WHERE WHAT IT READS IS OF BULK AT MOST 1048576: true; the input reads as it did. -/
def blockSizesUptoRow : OpenClaim := { program := "ytjoaenfibkgplaa", sum := "74b86ca6d78ad3c3a6251dae9bb22f90a7a5366e61a90a586b51b8527af31eda", func := "calque/calquelaw14.BlockSizes", spec := "blockSizes", inPlace := ["sync/atomic.LoadInt64", "sync/atomic.AddInt64"], unfollowed := true, recurses := true, apart := false, narrowed := true }
def BlockSizesUptoSaid : Prop := blockSizesUptoRow.holds Try.pinned (OpenSpec.upto blockSizesSpec)

/-- 'calquelaw07.LoadDigests', WHERE WHAT IT READS IS OF BULK AT MOST 1048576: true; the input reads as it did. -/
def loadDigestsUptoRow : OpenClaim := { program := "ytjoaenfibkgplaa", sum := "74b86ca6d78ad3c3a6251dae9bb22f90a7a5366e61a90a586b51b8527af31eda", func := "calque/calquelaw07.LoadDigests", spec := "loadDigests", inPlace := ["sync/atomic.LoadInt64", "sync/atomic.AddInt64"], unfollowed := true, recurses := true, apart := false, narrowed := true }
def LoadDigestsUptoSaid : Prop := loadDigestsUptoRow.holds Try.pinned (OpenSpec.upto loadDigestsSpec)

/-- 'calquelaw07.LoadAll', WHERE WHAT IT READS IS OF BULK AT MOST 1048576: true; the input reads as it did. -/
def loadAllUptoRow : OpenClaim := { program := "ytjoaenfibkgplaa", sum := "74b86ca6d78ad3c3a6251dae9bb22f90a7a5366e61a90a586b51b8527af31eda", func := "calque/calquelaw07.LoadAll", spec := "loadAll", inPlace := ["sync/atomic.LoadInt64", "sync/atomic.AddInt64"], unfollowed := true, recurses := true, apart := false, narrowed := true }
def LoadAllUptoSaid : Prop := loadAllUptoRow.holds Try.pinned (OpenSpec.upto loadAllSpec)

/-- 'calquelaw15.ReachBounds', WHERE WHAT IT READS IS OF BULK AT MOST 1048576: true; the input reads as it did. -/
def reachBoundsUptoRow : OpenClaim := { program := "ytjoaenfibkgplaa", sum := "74b86ca6d78ad3c3a6251dae9bb22f90a7a5366e61a90a586b51b8527af31eda", func := "calque/calquelaw15.ReachBounds", spec := "reachBounds", inPlace := ["sync/atomic.LoadInt64", "sync/atomic.AddInt64"], unfollowed := true, recurses := true, apart := false, narrowed := true }
def ReachBoundsUptoSaid : Prop := reachBoundsUptoRow.holds Try.pinned (OpenSpec.upto reachBoundsSpec)

end Rows
end Go.Proofs.Ytjoaenfibkgplaa
