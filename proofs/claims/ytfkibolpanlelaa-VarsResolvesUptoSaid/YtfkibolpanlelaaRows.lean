/-
  No cell of these rows narrows 'for every input' (looked for: loops, veiled, ifaces, maps, wideKeys, modest, calm, conditions, laid).
  DERIVED. THE GIVEN ROWS OF THIS SEAT. 9 by the template 'for every input the law returns true; each argument reads behind the call as it read before'; 0 by the template 'total and deterministic' (their statements: YtfkibolpanlelaaTotals.lean).
  GIVEN WITH THE SEED: the statements are not yours to turn. If you find one false, say at which input.
  Laid BY PROGRAM, IN A SANDBOX (cutbox-rows.mjs): the forced cells as the released guide's own fill.sh prints them over the translation c43d8babcdd13b83… (all of the seat's roots in one cut). By AI agents, Wed Nov 11 2026. No macro, syntax, notation, axiom, sorry.
-/
import Derived.Test.YtfkibolpanlelaaChecked
import GoSem.Claim
import GoSem.ClaimJoined
import GoSem.ClaimMapViews
import Derived.JoinedTies
import Derived.KernelRfl
namespace Go.Proofs.Ytfkibolpanlelaa
/- THE CELL 'sum', in the pinned program and in every row, IS THE sha256 OF THE DUMP (.gsa) THAT YtfkibolpanlelaaProg.lean LOADS. Nothing in Lean hashes anything: it is a label: what it is worth is what the hold of that sum in a sandbox is worth. -/
noncomputable def Try.pinned : Pinned := { name := "ytfkibolpanlelaa", sum := "c43d8babcdd13b83b912ea1c9a661bf0c92dd2a5c7f38bdc995a436efb3d4044", checked := Try.checked }
namespace Rows
def none {H : Type} : Left H := { results := [], args := [] }

/-- 'shuttlelaw10.VarsResolves': WHATEVER THE INPUT: true; the input reads as it did. -/
def varsResolvesSpec : ChangeSpec := { name := "varsResolves", fn := fun _ => fun
  | [d] => { results := [.lit (.bool true)], args := [d] }
  | _ => none }
def varsResolvesRow : OpenClaim := { program := "ytfkibolpanlelaa", sum := "c43d8babcdd13b83b912ea1c9a661bf0c92dd2a5c7f38bdc995a436efb3d4044", func := "shuttle/shuttlelaw10.VarsResolves", spec := "varsResolves", inPlace := ["internal/bytealg.IndexByteString", "internal/bytealg.IndexString", "internal/bytealg.abigen_runtime_cmpstring"], unfollowed := true, recurses := true, named := ["internal/bytealg.MaxLen"], apart := false }
def VarsResolvesSaid : Prop := varsResolvesRow.holds Try.pinned (OpenSpec.ofChange varsResolvesSpec)

/-- ITS FALSE NEIGHBOUR: 'it returns false'. Refute it at one input. -/
def varsResolvesWrong : ChangeSpec := { name := "varsResolves", fn := fun _ => fun
  | [d] => { results := [.lit (.bool false)], args := [d] }
  | _ => none }
def VarsResolvesWrongFalsely : Prop := varsResolvesRow.holds Try.pinned (OpenSpec.ofChange varsResolvesWrong)

/-- 'shuttlelaw10.VarsExpands': WHATEVER THE INPUT: true; the input reads as it did. -/
def varsExpandsSpec : ChangeSpec := { name := "varsExpands", fn := fun _ => fun
  | [d1, d2, d3] => { results := [.lit (.bool true)], args := [d1, d2, d3] }
  | _ => none }
def varsExpandsRow : OpenClaim := { program := "ytfkibolpanlelaa", sum := "c43d8babcdd13b83b912ea1c9a661bf0c92dd2a5c7f38bdc995a436efb3d4044", func := "shuttle/shuttlelaw10.VarsExpands", spec := "varsExpands", inPlace := ["internal/bytealg.IndexByteString", "internal/bytealg.IndexString", "internal/bytealg.abigen_runtime_cmpstring"], unfollowed := true, recurses := true, named := ["internal/bytealg.MaxLen"], apart := false }
def VarsExpandsSaid : Prop := varsExpandsRow.holds Try.pinned (OpenSpec.ofChange varsExpandsSpec)

/-- ITS FALSE NEIGHBOUR: 'it returns false'. Refute it at one input. -/
def varsExpandsWrong : ChangeSpec := { name := "varsExpands", fn := fun _ => fun
  | [d1, d2, d3] => { results := [.lit (.bool false)], args := [d1, d2, d3] }
  | _ => none }
def VarsExpandsWrongFalsely : Prop := varsExpandsRow.holds Try.pinned (OpenSpec.ofChange varsExpandsWrong)

/-- 'shuttlelaw10.VarsOverlays': WHATEVER THE INPUT: true; the input reads as it did. -/
def varsOverlaysSpec : ChangeSpec := { name := "varsOverlays", fn := fun _ => fun
  | [d1, d2, d3] => { results := [.lit (.bool true)], args := [d1, d2, d3] }
  | _ => none }
def varsOverlaysRow : OpenClaim := { program := "ytfkibolpanlelaa", sum := "c43d8babcdd13b83b912ea1c9a661bf0c92dd2a5c7f38bdc995a436efb3d4044", func := "shuttle/shuttlelaw10.VarsOverlays", spec := "varsOverlays", inPlace := ["internal/bytealg.abigen_runtime_cmpstring", "internal/bytealg.IndexByteString", "internal/bytealg.IndexString"], unfollowed := true, recurses := true, named := ["internal/bytealg.MaxLen"], apart := false }
def VarsOverlaysSaid : Prop := varsOverlaysRow.holds Try.pinned (OpenSpec.ofChange varsOverlaysSpec)

/-- ITS FALSE NEIGHBOUR: 'it returns false'. Refute it at one input. -/
def varsOverlaysWrong : ChangeSpec := { name := "varsOverlays", fn := fun _ => fun
  | [d1, d2, d3] => { results := [.lit (.bool false)], args := [d1, d2, d3] }
  | _ => none }
def VarsOverlaysWrongFalsely : Prop := varsOverlaysRow.holds Try.pinned (OpenSpec.ofChange varsOverlaysWrong)

/-- 'shuttlelaw10.VarsSettled': WHATEVER THE INPUT: true; the input reads as it did. -/
def varsSettledSpec : ChangeSpec := { name := "varsSettled", fn := fun _ => fun
  | [d] => { results := [.lit (.bool true)], args := [d] }
  | _ => none }
def varsSettledRow : OpenClaim := { program := "ytfkibolpanlelaa", sum := "c43d8babcdd13b83b912ea1c9a661bf0c92dd2a5c7f38bdc995a436efb3d4044", func := "shuttle/shuttlelaw10.VarsSettled", spec := "varsSettled", inPlace := ["internal/bytealg.IndexByteString", "internal/bytealg.IndexString", "internal/bytealg.abigen_runtime_cmpstring"], unfollowed := true, recurses := true, named := ["internal/bytealg.MaxLen"], apart := false }
def VarsSettledSaid : Prop := varsSettledRow.holds Try.pinned (OpenSpec.ofChange varsSettledSpec)

/-- ITS FALSE NEIGHBOUR: 'it returns false'. Refute it at one input. -/
def varsSettledWrong : ChangeSpec := { name := "varsSettled", fn := fun _ => fun
  | [d] => { results := [.lit (.bool false)], args := [d] }
  | _ => none }
def VarsSettledWrongFalsely : Prop := varsSettledRow.holds Try.pinned (OpenSpec.ofChange varsSettledWrong)

/-- 'shuttlelaw10.VarsOwn': WHATEVER THE INPUT: true; the input reads as it did. -/
def varsOwnSpec : ChangeSpec := { name := "varsOwn", fn := fun _ => fun
  | [d] => { results := [.lit (.bool true)], args := [d] }
  | _ => none }
def varsOwnRow : OpenClaim := { program := "ytfkibolpanlelaa", sum := "c43d8babcdd13b83b912ea1c9a661bf0c92dd2a5c7f38bdc995a436efb3d4044", func := "shuttle/shuttlelaw10.VarsOwn", spec := "varsOwn", inPlace := ["internal/bytealg.IndexByteString", "internal/bytealg.IndexString", "internal/bytealg.abigen_runtime_cmpstring"], unfollowed := true, recurses := true, named := ["internal/bytealg.MaxLen"], apart := false }
def VarsOwnSaid : Prop := varsOwnRow.holds Try.pinned (OpenSpec.ofChange varsOwnSpec)

/-- ITS FALSE NEIGHBOUR: 'it returns false'. Refute it at one input. -/
def varsOwnWrong : ChangeSpec := { name := "varsOwn", fn := fun _ => fun
  | [d] => { results := [.lit (.bool false)], args := [d] }
  | _ => none }
def VarsOwnWrongFalsely : Prop := varsOwnRow.holds Try.pinned (OpenSpec.ofChange varsOwnWrong)

/-- 'shuttlelaw10.VarsOrder': WHATEVER THE INPUT: true; the input reads as it did. -/
def varsOrderSpec : ChangeSpec := { name := "varsOrder", fn := fun _ => fun
  | [d1, d2] => { results := [.lit (.bool true)], args := [d1, d2] }
  | _ => none }
def varsOrderRow : OpenClaim := { program := "ytfkibolpanlelaa", sum := "c43d8babcdd13b83b912ea1c9a661bf0c92dd2a5c7f38bdc995a436efb3d4044", func := "shuttle/shuttlelaw10.VarsOrder", spec := "varsOrder", inPlace := ["internal/bytealg.IndexByteString", "internal/bytealg.IndexString", "internal/bytealg.abigen_runtime_cmpstring"], unfollowed := true, recurses := true, named := ["internal/bytealg.MaxLen"], apart := false }
def VarsOrderSaid : Prop := varsOrderRow.holds Try.pinned (OpenSpec.ofChange varsOrderSpec)

/-- ITS FALSE NEIGHBOUR: 'it returns false'. Refute it at one input. -/
def varsOrderWrong : ChangeSpec := { name := "varsOrder", fn := fun _ => fun
  | [d1, d2] => { results := [.lit (.bool false)], args := [d1, d2] }
  | _ => none }
def VarsOrderWrongFalsely : Prop := varsOrderRow.holds Try.pinned (OpenSpec.ofChange varsOrderWrong)

/-- 'shuttlelaw10.VarsChains': WHATEVER THE INPUT: true; the input reads as it did. -/
def varsChainsSpec : ChangeSpec := { name := "varsChains", fn := fun _ => fun
  | [d1, d2] => { results := [.lit (.bool true)], args := [d1, d2] }
  | _ => none }
def varsChainsRow : OpenClaim := { program := "ytfkibolpanlelaa", sum := "c43d8babcdd13b83b912ea1c9a661bf0c92dd2a5c7f38bdc995a436efb3d4044", func := "shuttle/shuttlelaw10.VarsChains", spec := "varsChains", inPlace := ["internal/bytealg.IndexByteString", "internal/bytealg.IndexString", "internal/bytealg.abigen_runtime_cmpstring"], unfollowed := true, recurses := true, named := ["internal/bytealg.MaxLen"], apart := false }
def VarsChainsSaid : Prop := varsChainsRow.holds Try.pinned (OpenSpec.ofChange varsChainsSpec)

/-- ITS FALSE NEIGHBOUR: 'it returns false'. Refute it at one input. -/
def varsChainsWrong : ChangeSpec := { name := "varsChains", fn := fun _ => fun
  | [d1, d2] => { results := [.lit (.bool false)], args := [d1, d2] }
  | _ => none }
def VarsChainsWrongFalsely : Prop := varsChainsRow.holds Try.pinned (OpenSpec.ofChange varsChainsWrong)

/-- 'shuttlelaw10.VarsLong': WHATEVER THE INPUT: true; the input reads as it did. -/
def varsLongSpec : ChangeSpec := { name := "varsLong", fn := fun _ => fun
  | [d1, d2] => { results := [.lit (.bool true)], args := [d1, d2] }
  | _ => none }
def varsLongRow : OpenClaim := { program := "ytfkibolpanlelaa", sum := "c43d8babcdd13b83b912ea1c9a661bf0c92dd2a5c7f38bdc995a436efb3d4044", func := "shuttle/shuttlelaw10.VarsLong", spec := "varsLong", inPlace := ["internal/bytealg.IndexByteString", "internal/bytealg.IndexString", "internal/bytealg.abigen_runtime_cmpstring"], unfollowed := true, recurses := true, named := ["internal/bytealg.MaxLen"], apart := false }
def VarsLongSaid : Prop := varsLongRow.holds Try.pinned (OpenSpec.ofChange varsLongSpec)

/-- ITS FALSE NEIGHBOUR: 'it returns false'. Refute it at one input. -/
def varsLongWrong : ChangeSpec := { name := "varsLong", fn := fun _ => fun
  | [d1, d2] => { results := [.lit (.bool false)], args := [d1, d2] }
  | _ => none }
def VarsLongWrongFalsely : Prop := varsLongRow.holds Try.pinned (OpenSpec.ofChange varsLongWrong)

/-- 'shuttlelaw10.VarsExtra': WHATEVER THE INPUT: true; the input reads as it did. -/
def varsExtraSpec : ChangeSpec := { name := "varsExtra", fn := fun _ => fun
  | [d1, d2] => { results := [.lit (.bool true)], args := [d1, d2] }
  | _ => none }
def varsExtraRow : OpenClaim := { program := "ytfkibolpanlelaa", sum := "c43d8babcdd13b83b912ea1c9a661bf0c92dd2a5c7f38bdc995a436efb3d4044", func := "shuttle/shuttlelaw10.VarsExtra", spec := "varsExtra", inPlace := ["internal/bytealg.IndexByteString", "internal/bytealg.IndexString", "internal/bytealg.abigen_runtime_cmpstring"], unfollowed := true, recurses := true, named := ["internal/bytealg.MaxLen"], apart := false }
def VarsExtraSaid : Prop := varsExtraRow.holds Try.pinned (OpenSpec.ofChange varsExtraSpec)

/-- ITS FALSE NEIGHBOUR: 'it returns false'. Refute it at one input. -/
def varsExtraWrong : ChangeSpec := { name := "varsExtra", fn := fun _ => fun
  | [d1, d2] => { results := [.lit (.bool false)], args := [d1, d2] }
  | _ => none }
def VarsExtraWrongFalsely : Prop := varsExtraRow.holds Try.pinned (OpenSpec.ofChange varsExtraWrong)

/- THE SECOND FORM. 'bulk': how many values and letters a reading holds, each counted each time it is reached (what is shared counts as often as it is met; a slice's spare places count too). A statement '..UptoSaid' is the law's where the arguments, and the package variables that the reading takes, are together of bulk at most 1048576: NARROWER than '..Said'. Prove '..Said' where nothing that the law and all that it calls make is longer than what came in: it says more and counts as full. Else prove '..UptoSaid'. A law counts once. -/
mutual
def uptoBulk {H : Type} : DataW H → Nat
  | .lit (.string bytes) => bytes.length + 1
  | .lit _ => 1
  | .nil => 1
  | .ptr d => uptoBulk d + 1
  | .slice elems spare => uptoBulkAll elems + uptoBulkAll spare + 1
  | .agg parts => uptoBulkAll parts + 1
  | .iface _ d => uptoBulk d + 1
  | .map entries => uptoBulkEntries entries + 1
  | .held _ => 1
def uptoBulkAll {H : Type} : List (DataW H) → Nat
  | [] => 0
  | d :: r => uptoBulk d + uptoBulkAll r
def uptoBulkEntries {H : Type} : List (Lit × DataW H) → Nat
  | [] => 0
  | x :: r => uptoBulkEntry x + uptoBulkEntries r
def uptoBulkEntry {H : Type} : Lit × DataW H → Nat
  | (.string bytes, d) => bytes.length + uptoBulk d + 1
  | (_, d) => uptoBulk d + 1
 end
def uptoSmall : (H : Type) → List (DataW H) → Bool := fun _ ds => decide (uptoBulkAll ds ≤ 1048576)
def OpenSpec.upto (s : _root_.Go.ChangeSpec) : _root_.Go.OpenSpec := { _root_.Go.OpenSpec.ofChange s with cond := some uptoSmall }

/-- 'shuttlelaw10.VarsResolves', WHERE WHAT IT READS IS OF BULK AT MOST 1048576: true; the input reads as it did. -/
def varsResolvesUptoRow : OpenClaim := { program := "ytfkibolpanlelaa", sum := "c43d8babcdd13b83b912ea1c9a661bf0c92dd2a5c7f38bdc995a436efb3d4044", func := "shuttle/shuttlelaw10.VarsResolves", spec := "varsResolves", inPlace := ["internal/bytealg.IndexByteString", "internal/bytealg.IndexString", "internal/bytealg.abigen_runtime_cmpstring"], unfollowed := true, recurses := true, named := ["internal/bytealg.MaxLen"], apart := false, narrowed := true }
def VarsResolvesUptoSaid : Prop := varsResolvesUptoRow.holds Try.pinned (OpenSpec.upto varsResolvesSpec)

/-- 'shuttlelaw10.VarsExpands', WHERE WHAT IT READS IS OF BULK AT MOST 1048576: true; the input reads as it did. -/
def varsExpandsUptoRow : OpenClaim := { program := "ytfkibolpanlelaa", sum := "c43d8babcdd13b83b912ea1c9a661bf0c92dd2a5c7f38bdc995a436efb3d4044", func := "shuttle/shuttlelaw10.VarsExpands", spec := "varsExpands", inPlace := ["internal/bytealg.IndexByteString", "internal/bytealg.IndexString", "internal/bytealg.abigen_runtime_cmpstring"], unfollowed := true, recurses := true, named := ["internal/bytealg.MaxLen"], apart := false, narrowed := true }
def VarsExpandsUptoSaid : Prop := varsExpandsUptoRow.holds Try.pinned (OpenSpec.upto varsExpandsSpec)

/-- 'shuttlelaw10.VarsOverlays', WHERE WHAT IT READS IS OF BULK AT MOST 1048576: true; the input reads as it did. -/
def varsOverlaysUptoRow : OpenClaim := { program := "ytfkibolpanlelaa", sum := "c43d8babcdd13b83b912ea1c9a661bf0c92dd2a5c7f38bdc995a436efb3d4044", func := "shuttle/shuttlelaw10.VarsOverlays", spec := "varsOverlays", inPlace := ["internal/bytealg.abigen_runtime_cmpstring", "internal/bytealg.IndexByteString", "internal/bytealg.IndexString"], unfollowed := true, recurses := true, named := ["internal/bytealg.MaxLen"], apart := false, narrowed := true }
def VarsOverlaysUptoSaid : Prop := varsOverlaysUptoRow.holds Try.pinned (OpenSpec.upto varsOverlaysSpec)

/-- 'shuttlelaw10.VarsSettled', WHERE WHAT IT READS IS OF BULK AT MOST 1048576: true; the input reads as it did. -/
def varsSettledUptoRow : OpenClaim := { program := "ytfkibolpanlelaa", sum := "c43d8babcdd13b83b912ea1c9a661bf0c92dd2a5c7f38bdc995a436efb3d4044", func := "shuttle/shuttlelaw10.VarsSettled", spec := "varsSettled", inPlace := ["internal/bytealg.IndexByteString", "internal/bytealg.IndexString", "internal/bytealg.abigen_runtime_cmpstring"], unfollowed := true, recurses := true, named := ["internal/bytealg.MaxLen"], apart := false, narrowed := true }
def VarsSettledUptoSaid : Prop := varsSettledUptoRow.holds Try.pinned (OpenSpec.upto varsSettledSpec)

/-- 'shuttlelaw10.VarsOwn', WHERE WHAT IT READS IS OF BULK AT MOST 1048576: true; the input reads as it did. -/
def varsOwnUptoRow : OpenClaim := { program := "ytfkibolpanlelaa", sum := "c43d8babcdd13b83b912ea1c9a661bf0c92dd2a5c7f38bdc995a436efb3d4044", func := "shuttle/shuttlelaw10.VarsOwn", spec := "varsOwn", inPlace := ["internal/bytealg.IndexByteString", "internal/bytealg.IndexString", "internal/bytealg.abigen_runtime_cmpstring"], unfollowed := true, recurses := true, named := ["internal/bytealg.MaxLen"], apart := false, narrowed := true }
def VarsOwnUptoSaid : Prop := varsOwnUptoRow.holds Try.pinned (OpenSpec.upto varsOwnSpec)

/-- 'shuttlelaw10.VarsOrder', WHERE WHAT IT READS IS OF BULK AT MOST 1048576: true; the input reads as it did. -/
def varsOrderUptoRow : OpenClaim := { program := "ytfkibolpanlelaa", sum := "c43d8babcdd13b83b912ea1c9a661bf0c92dd2a5c7f38bdc995a436efb3d4044", func := "shuttle/shuttlelaw10.VarsOrder", spec := "varsOrder", inPlace := ["internal/bytealg.IndexByteString", "internal/bytealg.IndexString", "internal/bytealg.abigen_runtime_cmpstring"], unfollowed := true, recurses := true, named := ["internal/bytealg.MaxLen"], apart := false, narrowed := true }
def VarsOrderUptoSaid : Prop := varsOrderUptoRow.holds Try.pinned (OpenSpec.upto varsOrderSpec)

/-- 'shuttlelaw10.VarsChains', WHERE WHAT IT READS IS OF BULK AT MOST 1048576: true; the input reads as it did. -/
def varsChainsUptoRow : OpenClaim := { program := "ytfkibolpanlelaa", sum := "c43d8babcdd13b83b912ea1c9a661bf0c92dd2a5c7f38bdc995a436efb3d4044", func := "shuttle/shuttlelaw10.VarsChains", spec := "varsChains", inPlace := ["internal/bytealg.IndexByteString", "internal/bytealg.IndexString", "internal/bytealg.abigen_runtime_cmpstring"], unfollowed := true, recurses := true, named := ["internal/bytealg.MaxLen"], apart := false, narrowed := true }
def VarsChainsUptoSaid : Prop := varsChainsUptoRow.holds Try.pinned (OpenSpec.upto varsChainsSpec)

/-- 'shuttlelaw10.VarsLong', WHERE WHAT IT READS IS OF BULK AT MOST 1048576: true; the input reads as it did. -/
def varsLongUptoRow : OpenClaim := { program := "ytfkibolpanlelaa", sum := "c43d8babcdd13b83b912ea1c9a661bf0c92dd2a5c7f38bdc995a436efb3d4044", func := "shuttle/shuttlelaw10.VarsLong", spec := "varsLong", inPlace := ["internal/bytealg.IndexByteString", "internal/bytealg.IndexString", "internal/bytealg.abigen_runtime_cmpstring"], unfollowed := true, recurses := true, named := ["internal/bytealg.MaxLen"], apart := false, narrowed := true }
def VarsLongUptoSaid : Prop := varsLongUptoRow.holds Try.pinned (OpenSpec.upto varsLongSpec)

/-- 'shuttlelaw10.VarsExtra', WHERE WHAT IT READS IS OF BULK AT MOST 1048576: true; the input reads as it did. -/
def varsExtraUptoRow : OpenClaim := { program := "ytfkibolpanlelaa", sum := "c43d8babcdd13b83b912ea1c9a661bf0c92dd2a5c7f38bdc995a436efb3d4044", func := "shuttle/shuttlelaw10.VarsExtra", spec := "varsExtra", inPlace := ["internal/bytealg.IndexByteString", "internal/bytealg.IndexString", "internal/bytealg.abigen_runtime_cmpstring"], unfollowed := true, recurses := true, named := ["internal/bytealg.MaxLen"], apart := false, narrowed := true }
def VarsExtraUptoSaid : Prop := varsExtraUptoRow.holds Try.pinned (OpenSpec.upto varsExtraSpec)

end Rows
end Go.Proofs.Ytfkibolpanlelaa
