/-
  No cell of these rows narrows 'for every input' (looked for: loops, veiled, ifaces, maps, wideKeys, modest, calm, conditions, laid).
  DERIVED. THE GIVEN ROWS OF THIS SEAT. 6 by the template 'for every input the law returns true; each argument reads behind the call as it read before'; 0 by the template 'total and deterministic' (their statements: YtdgllnaeookddaaTotals.lean).
  GIVEN WITH THE SEED: the statements are not yours to turn. If you find one false, say at which input.
  Laid BY PROGRAM, IN A SANDBOX (cutbox-rows.mjs): the forced cells as the released guide's own fill.sh prints them over the translation e7fb0ca288c521bc… (all of the seat's roots in one cut). By AI agents, Wed Nov 11 2026. No macro, syntax, notation, axiom, sorry.
-/
import Derived.Test.YtdgllnaeookddaaChecked
import GoSem.Claim
import GoSem.ClaimJoined
import GoSem.ClaimMapViews
import Derived.JoinedTies
import Derived.KernelRfl
namespace Go.Proofs.Ytdgllnaeookddaa
/- THE CELL 'sum', in the pinned program and in every row, IS THE sha256 OF THE DUMP (.gsa) THAT YtdgllnaeookddaaProg.lean LOADS. Nothing in Lean hashes anything: it is a label: what it is worth is what the hold of that sum in a sandbox is worth. -/
noncomputable def Try.pinned : Pinned := { name := "ytdgllnaeookddaa", sum := "e7fb0ca288c521bc543f3ded16c7176955eecea87091ec6aabf6e4d5fc1b27d5", checked := Try.checked }
namespace Rows
def none {H : Type} : Left H := { results := [], args := [] }

/-- 'shuttlelaw13.MatrixBuilds': WHATEVER THE INPUT: true; the input reads as it did. -/
def matrixBuildsSpec : ChangeSpec := { name := "matrixBuilds", fn := fun _ => fun
  | [d] => { results := [.lit (.bool true)], args := [d] }
  | _ => none }
def matrixBuildsRow : OpenClaim := { program := "ytdgllnaeookddaa", sum := "e7fb0ca288c521bc543f3ded16c7176955eecea87091ec6aabf6e4d5fc1b27d5", func := "shuttle/shuttlelaw13.MatrixBuilds", spec := "matrixBuilds", inPlace := ["internal/abi.NoEscape", "internal/bytealg.MakeNoZero"], unfollowed := true, recurses := true, apart := false }
def MatrixBuildsSaid : Prop := matrixBuildsRow.holds Try.pinned (OpenSpec.ofChange matrixBuildsSpec)

/-- ITS FALSE NEIGHBOUR: 'it returns false'. Refute it at one input. -/
def matrixBuildsWrong : ChangeSpec := { name := "matrixBuilds", fn := fun _ => fun
  | [d] => { results := [.lit (.bool false)], args := [d] }
  | _ => none }
def MatrixBuildsWrongFalsely : Prop := matrixBuildsRow.holds Try.pinned (OpenSpec.ofChange matrixBuildsWrong)

/-- 'shuttlelaw13.MatrixNames': WHATEVER THE INPUT: true; the input reads as it did. -/
def matrixNamesSpec : ChangeSpec := { name := "matrixNames", fn := fun _ => fun
  | [d1, d2] => { results := [.lit (.bool true)], args := [d1, d2] }
  | _ => none }
def matrixNamesRow : OpenClaim := { program := "ytdgllnaeookddaa", sum := "e7fb0ca288c521bc543f3ded16c7176955eecea87091ec6aabf6e4d5fc1b27d5", func := "shuttle/shuttlelaw13.MatrixNames", spec := "matrixNames", inPlace := ["internal/abi.NoEscape", "internal/bytealg.MakeNoZero"], unfollowed := true, recurses := true, apart := false }
def MatrixNamesSaid : Prop := matrixNamesRow.holds Try.pinned (OpenSpec.ofChange matrixNamesSpec)

/-- ITS FALSE NEIGHBOUR: 'it returns false'. Refute it at one input. -/
def matrixNamesWrong : ChangeSpec := { name := "matrixNames", fn := fun _ => fun
  | [d1, d2] => { results := [.lit (.bool false)], args := [d1, d2] }
  | _ => none }
def MatrixNamesWrongFalsely : Prop := matrixNamesRow.holds Try.pinned (OpenSpec.ofChange matrixNamesWrong)

/-- 'shuttlelaw13.MatrixMany': WHATEVER THE INPUT: true; the input reads as it did. -/
def matrixManySpec : ChangeSpec := { name := "matrixMany", fn := fun _ => fun
  | [d] => { results := [.lit (.bool true)], args := [d] }
  | _ => none }
def matrixManyRow : OpenClaim := { program := "ytdgllnaeookddaa", sum := "e7fb0ca288c521bc543f3ded16c7176955eecea87091ec6aabf6e4d5fc1b27d5", func := "shuttle/shuttlelaw13.MatrixMany", spec := "matrixMany", inPlace := ["internal/abi.NoEscape", "internal/bytealg.MakeNoZero"], unfollowed := true, recurses := true, apart := false }
def MatrixManySaid : Prop := matrixManyRow.holds Try.pinned (OpenSpec.ofChange matrixManySpec)

/-- ITS FALSE NEIGHBOUR: 'it returns false'. Refute it at one input. -/
def matrixManyWrong : ChangeSpec := { name := "matrixMany", fn := fun _ => fun
  | [d] => { results := [.lit (.bool false)], args := [d] }
  | _ => none }
def MatrixManyWrongFalsely : Prop := matrixManyRow.holds Try.pinned (OpenSpec.ofChange matrixManyWrong)

/-- 'shuttlelaw13.MatrixPicks': WHATEVER THE INPUT: true; the input reads as it did. -/
def matrixPicksSpec : ChangeSpec := { name := "matrixPicks", fn := fun _ => fun
  | [d1, d2] => { results := [.lit (.bool true)], args := [d1, d2] }
  | _ => none }
def matrixPicksRow : OpenClaim := { program := "ytdgllnaeookddaa", sum := "e7fb0ca288c521bc543f3ded16c7176955eecea87091ec6aabf6e4d5fc1b27d5", func := "shuttle/shuttlelaw13.MatrixPicks", spec := "matrixPicks", inPlace := ["internal/abi.NoEscape", "internal/bytealg.MakeNoZero"], unfollowed := true, recurses := true, apart := false }
def MatrixPicksSaid : Prop := matrixPicksRow.holds Try.pinned (OpenSpec.ofChange matrixPicksSpec)

/-- ITS FALSE NEIGHBOUR: 'it returns false'. Refute it at one input. -/
def matrixPicksWrong : ChangeSpec := { name := "matrixPicks", fn := fun _ => fun
  | [d1, d2] => { results := [.lit (.bool false)], args := [d1, d2] }
  | _ => none }
def MatrixPicksWrongFalsely : Prop := matrixPicksRow.holds Try.pinned (OpenSpec.ofChange matrixPicksWrong)

/-- 'shuttlelaw13.MatrixCounts': WHATEVER THE INPUT: true; the input reads as it did. -/
def matrixCountsSpec : ChangeSpec := { name := "matrixCounts", fn := fun _ => fun
  | [d] => { results := [.lit (.bool true)], args := [d] }
  | _ => none }
def matrixCountsRow : OpenClaim := { program := "ytdgllnaeookddaa", sum := "e7fb0ca288c521bc543f3ded16c7176955eecea87091ec6aabf6e4d5fc1b27d5", func := "shuttle/shuttlelaw13.MatrixCounts", spec := "matrixCounts", inPlace := ["internal/abi.NoEscape", "internal/bytealg.MakeNoZero", "internal/bytealg.abigen_runtime_cmpstring"], unfollowed := true, recurses := true, apart := false }
def MatrixCountsSaid : Prop := matrixCountsRow.holds Try.pinned (OpenSpec.ofChange matrixCountsSpec)

/-- ITS FALSE NEIGHBOUR: 'it returns false'. Refute it at one input. -/
def matrixCountsWrong : ChangeSpec := { name := "matrixCounts", fn := fun _ => fun
  | [d] => { results := [.lit (.bool false)], args := [d] }
  | _ => none }
def MatrixCountsWrongFalsely : Prop := matrixCountsRow.holds Try.pinned (OpenSpec.ofChange matrixCountsWrong)

/-- 'shuttlelaw13.MatrixTurned': WHATEVER THE INPUT: true; the input reads as it did. -/
def matrixTurnedSpec : ChangeSpec := { name := "matrixTurned", fn := fun _ => fun
  | [d] => { results := [.lit (.bool true)], args := [d] }
  | _ => none }
def matrixTurnedRow : OpenClaim := { program := "ytdgllnaeookddaa", sum := "e7fb0ca288c521bc543f3ded16c7176955eecea87091ec6aabf6e4d5fc1b27d5", func := "shuttle/shuttlelaw13.MatrixTurned", spec := "matrixTurned", inPlace := ["internal/bytealg.abigen_runtime_cmpstring", "internal/abi.NoEscape", "internal/bytealg.MakeNoZero"], unfollowed := true, recurses := true, apart := false }
def MatrixTurnedSaid : Prop := matrixTurnedRow.holds Try.pinned (OpenSpec.ofChange matrixTurnedSpec)

/-- ITS FALSE NEIGHBOUR: 'it returns false'. Refute it at one input. -/
def matrixTurnedWrong : ChangeSpec := { name := "matrixTurned", fn := fun _ => fun
  | [d] => { results := [.lit (.bool false)], args := [d] }
  | _ => none }
def MatrixTurnedWrongFalsely : Prop := matrixTurnedRow.holds Try.pinned (OpenSpec.ofChange matrixTurnedWrong)

/- THE SECOND FORM. 'bulk': how many values and letters a reading holds, each counted each time it is reached (what is shared counts as often as it is met; a slice's spare places count too). A statement '..UptoSaid' is the law's where the arguments, and the package variables that the reading takes, are together of bulk at most 1048576: NARROWER than '..Said'. Prove '..Said' where nothing that the law and all that it calls make is longer than what came in: it says more and counts as full. Else prove '..UptoSaid'. A law counts once. -/
mutual
def uptoBulk {H : Type} : DataW H → Nat
  | .lit (.string bytes) => bytes.length + 1
  | .lit _ => 1
  | .nil => 1
  | .ptr d => uptoBulk d + 1
  | .slice elems spare => uptoBulkAll elems + uptoBulkAll spare + 1
  | .agg parts => uptoBulkAll parts + 1
  | .iface _ d => uptoBulk d + 1
  | .map entries => uptoBulkEntries entries + 1
  | .held _ => 1
def uptoBulkAll {H : Type} : List (DataW H) → Nat
  | [] => 0
  | d :: r => uptoBulk d + uptoBulkAll r
def uptoBulkEntries {H : Type} : List (Lit × DataW H) → Nat
  | [] => 0
  | x :: r => uptoBulkEntry x + uptoBulkEntries r
def uptoBulkEntry {H : Type} : Lit × DataW H → Nat
  | (.string bytes, d) => bytes.length + uptoBulk d + 1
  | (_, d) => uptoBulk d + 1
 end
def uptoSmall : (H : Type) → List (DataW H) → Bool := fun _ ds => decide (uptoBulkAll ds ≤ 1048576)
def OpenSpec.upto (s : _root_.Go.ChangeSpec) : _root_.Go.OpenSpec := { _root_.Go.OpenSpec.ofChange s with cond := some uptoSmall }

/-- 'shuttlelaw13.MatrixBuilds', WHERE WHAT IT READS IS OF BULK AT MOST 1048576: true; the input reads as it did. -/
def matrixBuildsUptoRow : OpenClaim := { program := "ytdgllnaeookddaa", sum := "e7fb0ca288c521bc543f3ded16c7176955eecea87091ec6aabf6e4d5fc1b27d5", func := "shuttle/shuttlelaw13.MatrixBuilds", spec := "matrixBuilds", inPlace := ["internal/abi.NoEscape", "internal/bytealg.MakeNoZero"], unfollowed := true, recurses := true, apart := false, narrowed := true }
def MatrixBuildsUptoSaid : Prop := matrixBuildsUptoRow.holds Try.pinned (OpenSpec.upto matrixBuildsSpec)

/-- 'shuttlelaw13.MatrixNames', WHERE WHAT IT READS IS OF BULK AT MOST 1048576: true; the input reads as it did. -/
def matrixNamesUptoRow : OpenClaim := { program := "ytdgllnaeookddaa", sum := "e7fb0ca288c521bc543f3ded16c7176955eecea87091ec6aabf6e4d5fc1b27d5", func := "shuttle/shuttlelaw13.MatrixNames", spec := "matrixNames", inPlace := ["internal/abi.NoEscape", "internal/bytealg.MakeNoZero"], unfollowed := true, recurses := true, apart := false, narrowed := true }
def MatrixNamesUptoSaid : Prop := matrixNamesUptoRow.holds Try.pinned (OpenSpec.upto matrixNamesSpec)

/-- 'shuttlelaw13.MatrixMany', WHERE WHAT IT READS IS OF BULK AT MOST 1048576: true; the input reads as it did. -/
def matrixManyUptoRow : OpenClaim := { program := "ytdgllnaeookddaa", sum := "e7fb0ca288c521bc543f3ded16c7176955eecea87091ec6aabf6e4d5fc1b27d5", func := "shuttle/shuttlelaw13.MatrixMany", spec := "matrixMany", inPlace := ["internal/abi.NoEscape", "internal/bytealg.MakeNoZero"], unfollowed := true, recurses := true, apart := false, narrowed := true }
def MatrixManyUptoSaid : Prop := matrixManyUptoRow.holds Try.pinned (OpenSpec.upto matrixManySpec)

/-- 'shuttlelaw13.MatrixPicks', WHERE WHAT IT READS IS OF BULK AT MOST 1048576: true; the input reads as it did. -/
def matrixPicksUptoRow : OpenClaim := { program := "ytdgllnaeookddaa", sum := "e7fb0ca288c521bc543f3ded16c7176955eecea87091ec6aabf6e4d5fc1b27d5", func := "shuttle/shuttlelaw13.MatrixPicks", spec := "matrixPicks", inPlace := ["internal/abi.NoEscape", "internal/bytealg.MakeNoZero"], unfollowed := true, recurses := true, apart := false, narrowed := true }
def MatrixPicksUptoSaid : Prop := matrixPicksUptoRow.holds Try.pinned (OpenSpec.upto matrixPicksSpec)

/-- 'shuttlelaw13.MatrixCounts', WHERE WHAT IT READS IS OF BULK AT MOST 1048576: true; the input reads as it did. -/
def matrixCountsUptoRow : OpenClaim := { program := "ytdgllnaeookddaa", sum := "e7fb0ca288c521bc543f3ded16c7176955eecea87091ec6aabf6e4d5fc1b27d5", func := "shuttle/shuttlelaw13.MatrixCounts", spec := "matrixCounts", inPlace := ["internal/abi.NoEscape", "internal/bytealg.MakeNoZero", "internal/bytealg.abigen_runtime_cmpstring"], unfollowed := true, recurses := true, apart := false, narrowed := true }
def MatrixCountsUptoSaid : Prop := matrixCountsUptoRow.holds Try.pinned (OpenSpec.upto matrixCountsSpec)

/-- 'shuttlelaw13.MatrixTurned', WHERE WHAT IT READS IS OF BULK AT MOST 1048576: true; the input reads as it did. -/
def matrixTurnedUptoRow : OpenClaim := { program := "ytdgllnaeookddaa", sum := "e7fb0ca288c521bc543f3ded16c7176955eecea87091ec6aabf6e4d5fc1b27d5", func := "shuttle/shuttlelaw13.MatrixTurned", spec := "matrixTurned", inPlace := ["internal/bytealg.abigen_runtime_cmpstring", "internal/abi.NoEscape", "internal/bytealg.MakeNoZero"], unfollowed := true, recurses := true, apart := false, narrowed := true }
def MatrixTurnedUptoSaid : Prop := matrixTurnedUptoRow.holds Try.pinned (OpenSpec.upto matrixTurnedSpec)

end Rows
end Go.Proofs.Ytdgllnaeookddaa
