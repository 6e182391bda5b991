/-
  NARROWER THAN 'FOR EVERY INPUT', by the rows' own cells (each row's printed sentence says how): ScalarReads: laid · ScalarNames: laid · ScalarWrites: laid · ScalarBack: laid · ScalarSafe: laid · ScalarTails: laid · ScalarNo: laid.
  DERIVED. THE GIVEN ROWS OF THIS SEAT. 7 by the template 'for every input the law returns true; each argument reads behind the call as it read before'; 0 by the template 'total and deterministic' (their statements: YtmkfjjfdbaaknaaDoorTotals.lean).
  GIVEN WITH THE SEED: the statements are not yours to turn. If you find one false, say at which input.
  Laid BY PROGRAM, IN A SANDBOX (cutbox-rows.mjs): the forced cells as the released guide's own fill.sh prints them over the translation cf7e44b93bcb1142… (all of the seat's roots in one cut). By AI agents, Wed Nov 11 2026. No macro, syntax, notation, axiom, sorry.
-/
import Derived.Test.YtmkfjjfdbaaknaaDoorChecked
import GoSem.PinnedTables
import GoSem.Claim
import GoSem.ClaimJoined
import GoSem.ClaimMapViews
import Derived.JoinedTies
import Derived.KernelRfl
namespace Go.Proofs.YtmkfjjfdbaaknaaDoor
/- THE CELL 'sum', in the pinned program and in every row, IS THE sha256 OF THE DUMP (.gsa) THAT YtmkfjjfdbaaknaaDoorProg.lean LOADS. Nothing in Lean hashes anything: it is a label: what it is worth is what the hold of that sum in a sandbox is worth. -/
noncomputable def Tryd.pinned : Pinned := { name := "ytmkfjjfdbaaknaadoor", sum := "cf7e44b93bcb1142b70cafc8538a72c7852c68af073d8dfc5169e5e2d87bb9f9", checked := Tryd.checked }
namespace Rows
def none {H : Type} : Left H := { results := [], args := [] }

/- WHAT THE LISTED PACKAGE-LEVEL VARIABLES READ AS WHEN THE CALL BEGINS. Each datum BY PROGRAM (the guide's laid-datum.mjs) off the statement by which the dump's own 'gosem.cut.vars' lays the variable. In a bare row this is a premise. The card (YtmkfjjfdbaaknaaDoorCards.lean) ties it to the program's text. -/
def laid_unicode_utf8_acceptRanges {H : Type} : DataW H := .agg [.agg [.lit (.int .u8 128), .lit (.int .u8 191)], .agg [.lit (.int .u8 160), .lit (.int .u8 191)], .agg [.lit (.int .u8 128), .lit (.int .u8 159)], .agg [.lit (.int .u8 144), .lit (.int .u8 191)], .agg [.lit (.int .u8 128), .lit (.int .u8 143)], .agg [.lit (.int .u8 0), .lit (.int .u8 0)], .agg [.lit (.int .u8 0), .lit (.int .u8 0)], .agg [.lit (.int .u8 0), .lit (.int .u8 0)], .agg [.lit (.int .u8 0), .lit (.int .u8 0)], .agg [.lit (.int .u8 0), .lit (.int .u8 0)], .agg [.lit (.int .u8 0), .lit (.int .u8 0)], .agg [.lit (.int .u8 0), .lit (.int .u8 0)], .agg [.lit (.int .u8 0), .lit (.int .u8 0)], .agg [.lit (.int .u8 0), .lit (.int .u8 0)], .agg [.lit (.int .u8 0), .lit (.int .u8 0)], .agg [.lit (.int .u8 0), .lit (.int .u8 0)]]
/-- One of Go's own tables, pinned by name: the form's constant. -/
def laid_unicode_utf8_first : DataW Unit := Go.Pinned.utf8First

/-- 'shuttlelaw2.ScalarReads': WHATEVER THE INPUT: true; the input reads as it did. -/
def scalarReadsSpec : ChangeSpec := { name := "scalarReads", fn := fun _ => fun
  | [d] => { results := [.lit (.bool true)], args := [d] }
  | _ => none }
def scalarReadsRow : OpenClaim := { program := "ytmkfjjfdbaaknaadoor", sum := "cf7e44b93bcb1142b70cafc8538a72c7852c68af073d8dfc5169e5e2d87bb9f9", func := "shuttle/shuttlelaw2.ScalarReads", spec := "scalarReads", inPlace := ["internal/bytealg.IndexByteString", "internal/bytealg.IndexString"], unfollowed := true, recurses := true, named := ["internal/bytealg.MaxLen", "unicode/utf8.first", "unicode/utf8.acceptRanges"], apart := false, laid := [("unicode/utf8.acceptRanges", laid_unicode_utf8_acceptRanges), ("unicode/utf8.first", laid_unicode_utf8_first)] }
def ScalarReadsSaid : Prop := scalarReadsRow.holds Tryd.pinned (OpenSpec.ofChange scalarReadsSpec)

/-- ITS FALSE NEIGHBOUR: 'it returns false'. Refute it at one input. -/
def scalarReadsWrong : ChangeSpec := { name := "scalarReads", fn := fun _ => fun
  | [d] => { results := [.lit (.bool false)], args := [d] }
  | _ => none }
def ScalarReadsWrongFalsely : Prop := scalarReadsRow.holds Tryd.pinned (OpenSpec.ofChange scalarReadsWrong)

/-- 'shuttlelaw2.ScalarNames': WHATEVER THE INPUT: true; the input reads as it did. -/
def scalarNamesSpec : ChangeSpec := { name := "scalarNames", fn := fun _ => fun
  | [d] => { results := [.lit (.bool true)], args := [d] }
  | _ => none }
def scalarNamesRow : OpenClaim := { program := "ytmkfjjfdbaaknaadoor", sum := "cf7e44b93bcb1142b70cafc8538a72c7852c68af073d8dfc5169e5e2d87bb9f9", func := "shuttle/shuttlelaw2.ScalarNames", spec := "scalarNames", inPlace := ["internal/bytealg.IndexByteString", "internal/bytealg.IndexString"], unfollowed := true, recurses := true, named := ["internal/bytealg.MaxLen", "unicode/utf8.first", "unicode/utf8.acceptRanges"], apart := false, laid := [("unicode/utf8.acceptRanges", laid_unicode_utf8_acceptRanges), ("unicode/utf8.first", laid_unicode_utf8_first)] }
def ScalarNamesSaid : Prop := scalarNamesRow.holds Tryd.pinned (OpenSpec.ofChange scalarNamesSpec)

/-- ITS FALSE NEIGHBOUR: 'it returns false'. Refute it at one input. -/
def scalarNamesWrong : ChangeSpec := { name := "scalarNames", fn := fun _ => fun
  | [d] => { results := [.lit (.bool false)], args := [d] }
  | _ => none }
def ScalarNamesWrongFalsely : Prop := scalarNamesRow.holds Tryd.pinned (OpenSpec.ofChange scalarNamesWrong)

/-- 'shuttlelaw2.ScalarWrites': WHATEVER THE INPUT: true; the input reads as it did. -/
def scalarWritesSpec : ChangeSpec := { name := "scalarWrites", fn := fun _ => fun
  | [d] => { results := [.lit (.bool true)], args := [d] }
  | _ => none }
def scalarWritesRow : OpenClaim := { program := "ytmkfjjfdbaaknaadoor", sum := "cf7e44b93bcb1142b70cafc8538a72c7852c68af073d8dfc5169e5e2d87bb9f9", func := "shuttle/shuttlelaw2.ScalarWrites", spec := "scalarWrites", inPlace := ["internal/bytealg.IndexByteString", "internal/bytealg.IndexString"], unfollowed := true, recurses := true, named := ["internal/bytealg.MaxLen", "unicode/utf8.first", "unicode/utf8.acceptRanges"], apart := false, laid := [("unicode/utf8.acceptRanges", laid_unicode_utf8_acceptRanges), ("unicode/utf8.first", laid_unicode_utf8_first)] }
def ScalarWritesSaid : Prop := scalarWritesRow.holds Tryd.pinned (OpenSpec.ofChange scalarWritesSpec)

/-- ITS FALSE NEIGHBOUR: 'it returns false'. Refute it at one input. -/
def scalarWritesWrong : ChangeSpec := { name := "scalarWrites", fn := fun _ => fun
  | [d] => { results := [.lit (.bool false)], args := [d] }
  | _ => none }
def ScalarWritesWrongFalsely : Prop := scalarWritesRow.holds Tryd.pinned (OpenSpec.ofChange scalarWritesWrong)

/-- 'shuttlelaw2.ScalarBack': WHATEVER THE INPUT: true; the input reads as it did. -/
def scalarBackSpec : ChangeSpec := { name := "scalarBack", fn := fun _ => fun
  | [d1, d2] => { results := [.lit (.bool true)], args := [d1, d2] }
  | _ => none }
def scalarBackRow : OpenClaim := { program := "ytmkfjjfdbaaknaadoor", sum := "cf7e44b93bcb1142b70cafc8538a72c7852c68af073d8dfc5169e5e2d87bb9f9", func := "shuttle/shuttlelaw2.ScalarBack", spec := "scalarBack", inPlace := ["internal/bytealg.IndexByteString", "internal/bytealg.IndexString"], unfollowed := true, recurses := true, named := ["internal/bytealg.MaxLen", "unicode/utf8.first", "unicode/utf8.acceptRanges"], apart := false, laid := [("unicode/utf8.acceptRanges", laid_unicode_utf8_acceptRanges), ("unicode/utf8.first", laid_unicode_utf8_first)] }
def ScalarBackSaid : Prop := scalarBackRow.holds Tryd.pinned (OpenSpec.ofChange scalarBackSpec)

/-- ITS FALSE NEIGHBOUR: 'it returns false'. Refute it at one input. -/
def scalarBackWrong : ChangeSpec := { name := "scalarBack", fn := fun _ => fun
  | [d1, d2] => { results := [.lit (.bool false)], args := [d1, d2] }
  | _ => none }
def ScalarBackWrongFalsely : Prop := scalarBackRow.holds Tryd.pinned (OpenSpec.ofChange scalarBackWrong)

/-- 'shuttlelaw2.ScalarSafe': WHATEVER THE INPUT: true; the input reads as it did. -/
def scalarSafeSpec : ChangeSpec := { name := "scalarSafe", fn := fun _ => fun
  | [d] => { results := [.lit (.bool true)], args := [d] }
  | _ => none }
def scalarSafeRow : OpenClaim := { program := "ytmkfjjfdbaaknaadoor", sum := "cf7e44b93bcb1142b70cafc8538a72c7852c68af073d8dfc5169e5e2d87bb9f9", func := "shuttle/shuttlelaw2.ScalarSafe", spec := "scalarSafe", inPlace := ["internal/bytealg.IndexByteString", "internal/bytealg.IndexString"], unfollowed := true, recurses := true, named := ["internal/bytealg.MaxLen", "unicode/utf8.first", "unicode/utf8.acceptRanges"], apart := false, laid := [("unicode/utf8.acceptRanges", laid_unicode_utf8_acceptRanges), ("unicode/utf8.first", laid_unicode_utf8_first)] }
def ScalarSafeSaid : Prop := scalarSafeRow.holds Tryd.pinned (OpenSpec.ofChange scalarSafeSpec)

/-- ITS FALSE NEIGHBOUR: 'it returns false'. Refute it at one input. -/
def scalarSafeWrong : ChangeSpec := { name := "scalarSafe", fn := fun _ => fun
  | [d] => { results := [.lit (.bool false)], args := [d] }
  | _ => none }
def ScalarSafeWrongFalsely : Prop := scalarSafeRow.holds Tryd.pinned (OpenSpec.ofChange scalarSafeWrong)

/-- 'shuttlelaw2.ScalarTails': WHATEVER THE INPUT: true; the input reads as it did. -/
def scalarTailsSpec : ChangeSpec := { name := "scalarTails", fn := fun _ => fun
  | [d1, d2] => { results := [.lit (.bool true)], args := [d1, d2] }
  | _ => none }
def scalarTailsRow : OpenClaim := { program := "ytmkfjjfdbaaknaadoor", sum := "cf7e44b93bcb1142b70cafc8538a72c7852c68af073d8dfc5169e5e2d87bb9f9", func := "shuttle/shuttlelaw2.ScalarTails", spec := "scalarTails", inPlace := ["internal/bytealg.IndexByteString", "internal/bytealg.IndexString"], unfollowed := true, recurses := true, named := ["internal/bytealg.MaxLen", "unicode/utf8.first", "unicode/utf8.acceptRanges"], apart := false, laid := [("unicode/utf8.acceptRanges", laid_unicode_utf8_acceptRanges), ("unicode/utf8.first", laid_unicode_utf8_first)] }
def ScalarTailsSaid : Prop := scalarTailsRow.holds Tryd.pinned (OpenSpec.ofChange scalarTailsSpec)

/-- ITS FALSE NEIGHBOUR: 'it returns false'. Refute it at one input. -/
def scalarTailsWrong : ChangeSpec := { name := "scalarTails", fn := fun _ => fun
  | [d1, d2] => { results := [.lit (.bool false)], args := [d1, d2] }
  | _ => none }
def ScalarTailsWrongFalsely : Prop := scalarTailsRow.holds Tryd.pinned (OpenSpec.ofChange scalarTailsWrong)

/-- 'shuttlelaw2.ScalarNo': WHATEVER THE INPUT: true; the input reads as it did. -/
def scalarNoSpec : ChangeSpec := { name := "scalarNo", fn := fun _ => fun
  | [d1, d2] => { results := [.lit (.bool true)], args := [d1, d2] }
  | _ => none }
def scalarNoRow : OpenClaim := { program := "ytmkfjjfdbaaknaadoor", sum := "cf7e44b93bcb1142b70cafc8538a72c7852c68af073d8dfc5169e5e2d87bb9f9", func := "shuttle/shuttlelaw2.ScalarNo", spec := "scalarNo", inPlace := ["internal/bytealg.IndexByteString", "internal/bytealg.IndexString"], unfollowed := true, recurses := true, named := ["internal/bytealg.MaxLen", "unicode/utf8.first", "unicode/utf8.acceptRanges"], apart := false, laid := [("unicode/utf8.acceptRanges", laid_unicode_utf8_acceptRanges), ("unicode/utf8.first", laid_unicode_utf8_first)] }
def ScalarNoSaid : Prop := scalarNoRow.holds Tryd.pinned (OpenSpec.ofChange scalarNoSpec)

/-- ITS FALSE NEIGHBOUR: 'it returns false'. Refute it at one input. -/
def scalarNoWrong : ChangeSpec := { name := "scalarNo", fn := fun _ => fun
  | [d1, d2] => { results := [.lit (.bool false)], args := [d1, d2] }
  | _ => none }
def ScalarNoWrongFalsely : Prop := scalarNoRow.holds Tryd.pinned (OpenSpec.ofChange scalarNoWrong)

/- THE SECOND FORM. 'bulk': how many values and letters a reading holds, each counted each time it is reached (what is shared counts as often as it is met; a slice's spare places count too). A statement '..UptoSaid' is the law's where the arguments, and the package variables that the reading takes, are together of bulk at most 1048576: NARROWER than '..Said'. Prove '..Said' where nothing that the law and all that it calls make is longer than what came in: it says more and counts as full. Else prove '..UptoSaid'. A law counts once. -/
mutual
def uptoBulk {H : Type} : DataW H → Nat
  | .lit (.string bytes) => bytes.length + 1
  | .lit _ => 1
  | .nil => 1
  | .ptr d => uptoBulk d + 1
  | .slice elems spare => uptoBulkAll elems + uptoBulkAll spare + 1
  | .agg parts => uptoBulkAll parts + 1
  | .iface _ d => uptoBulk d + 1
  | .map entries => uptoBulkEntries entries + 1
  | .held _ => 1
def uptoBulkAll {H : Type} : List (DataW H) → Nat
  | [] => 0
  | d :: r => uptoBulk d + uptoBulkAll r
def uptoBulkEntries {H : Type} : List (Lit × DataW H) → Nat
  | [] => 0
  | x :: r => uptoBulkEntry x + uptoBulkEntries r
def uptoBulkEntry {H : Type} : Lit × DataW H → Nat
  | (.string bytes, d) => bytes.length + uptoBulk d + 1
  | (_, d) => uptoBulk d + 1
 end
def uptoSmall : (H : Type) → List (DataW H) → Bool := fun _ ds => decide (uptoBulkAll ds ≤ 1048576)
def OpenSpec.upto (s : _root_.Go.ChangeSpec) : _root_.Go.OpenSpec := { _root_.Go.OpenSpec.ofChange s with cond := some uptoSmall }

/-- 'shuttlelaw2.ScalarReads', WHERE WHAT IT READS IS OF BULK AT MOST 1048576: true; the input reads as it did. -/
def scalarReadsUptoRow : OpenClaim := { program := "ytmkfjjfdbaaknaadoor", sum := "cf7e44b93bcb1142b70cafc8538a72c7852c68af073d8dfc5169e5e2d87bb9f9", func := "shuttle/shuttlelaw2.ScalarReads", spec := "scalarReads", inPlace := ["internal/bytealg.IndexByteString", "internal/bytealg.IndexString"], unfollowed := true, recurses := true, named := ["internal/bytealg.MaxLen", "unicode/utf8.first", "unicode/utf8.acceptRanges"], apart := false, laid := [("unicode/utf8.acceptRanges", laid_unicode_utf8_acceptRanges), ("unicode/utf8.first", laid_unicode_utf8_first)], narrowed := true }
def ScalarReadsUptoSaid : Prop := scalarReadsUptoRow.holds Tryd.pinned (OpenSpec.upto scalarReadsSpec)

/-- 'shuttlelaw2.ScalarNames', WHERE WHAT IT READS IS OF BULK AT MOST 1048576: true; the input reads as it did. -/
def scalarNamesUptoRow : OpenClaim := { program := "ytmkfjjfdbaaknaadoor", sum := "cf7e44b93bcb1142b70cafc8538a72c7852c68af073d8dfc5169e5e2d87bb9f9", func := "shuttle/shuttlelaw2.ScalarNames", spec := "scalarNames", inPlace := ["internal/bytealg.IndexByteString", "internal/bytealg.IndexString"], unfollowed := true, recurses := true, named := ["internal/bytealg.MaxLen", "unicode/utf8.first", "unicode/utf8.acceptRanges"], apart := false, laid := [("unicode/utf8.acceptRanges", laid_unicode_utf8_acceptRanges), ("unicode/utf8.first", laid_unicode_utf8_first)], narrowed := true }
def ScalarNamesUptoSaid : Prop := scalarNamesUptoRow.holds Tryd.pinned (OpenSpec.upto scalarNamesSpec)

/-- 'shuttlelaw2.ScalarWrites', WHERE WHAT IT READS IS OF BULK AT MOST 1048576: true; the input reads as it did. -/
def scalarWritesUptoRow : OpenClaim := { program := "ytmkfjjfdbaaknaadoor", sum := "cf7e44b93bcb1142b70cafc8538a72c7852c68af073d8dfc5169e5e2d87bb9f9", func := "shuttle/shuttlelaw2.ScalarWrites", spec := "scalarWrites", inPlace := ["internal/bytealg.IndexByteString", "internal/bytealg.IndexString"], unfollowed := true, recurses := true, named := ["internal/bytealg.MaxLen", "unicode/utf8.first", "unicode/utf8.acceptRanges"], apart := false, laid := [("unicode/utf8.acceptRanges", laid_unicode_utf8_acceptRanges), ("unicode/utf8.first", laid_unicode_utf8_first)], narrowed := true }
def ScalarWritesUptoSaid : Prop := scalarWritesUptoRow.holds Tryd.pinned (OpenSpec.upto scalarWritesSpec)

/-- 'shuttlelaw2.ScalarBack', WHERE WHAT IT READS IS OF BULK AT MOST 1048576: true; the input reads as it did. -/
def scalarBackUptoRow : OpenClaim := { program := "ytmkfjjfdbaaknaadoor", sum := "cf7e44b93bcb1142b70cafc8538a72c7852c68af073d8dfc5169e5e2d87bb9f9", func := "shuttle/shuttlelaw2.ScalarBack", spec := "scalarBack", inPlace := ["internal/bytealg.IndexByteString", "internal/bytealg.IndexString"], unfollowed := true, recurses := true, named := ["internal/bytealg.MaxLen", "unicode/utf8.first", "unicode/utf8.acceptRanges"], apart := false, laid := [("unicode/utf8.acceptRanges", laid_unicode_utf8_acceptRanges), ("unicode/utf8.first", laid_unicode_utf8_first)], narrowed := true }
def ScalarBackUptoSaid : Prop := scalarBackUptoRow.holds Tryd.pinned (OpenSpec.upto scalarBackSpec)

/-- 'shuttlelaw2.ScalarSafe', WHERE WHAT IT READS IS OF BULK AT MOST 1048576: true; the input reads as it did. -/
def scalarSafeUptoRow : OpenClaim := { program := "ytmkfjjfdbaaknaadoor", sum := "cf7e44b93bcb1142b70cafc8538a72c7852c68af073d8dfc5169e5e2d87bb9f9", func := "shuttle/shuttlelaw2.ScalarSafe", spec := "scalarSafe", inPlace := ["internal/bytealg.IndexByteString", "internal/bytealg.IndexString"], unfollowed := true, recurses := true, named := ["internal/bytealg.MaxLen", "unicode/utf8.first", "unicode/utf8.acceptRanges"], apart := false, laid := [("unicode/utf8.acceptRanges", laid_unicode_utf8_acceptRanges), ("unicode/utf8.first", laid_unicode_utf8_first)], narrowed := true }
def ScalarSafeUptoSaid : Prop := scalarSafeUptoRow.holds Tryd.pinned (OpenSpec.upto scalarSafeSpec)

/-- 'shuttlelaw2.ScalarTails', WHERE WHAT IT READS IS OF BULK AT MOST 1048576: true; the input reads as it did. -/
def scalarTailsUptoRow : OpenClaim := { program := "ytmkfjjfdbaaknaadoor", sum := "cf7e44b93bcb1142b70cafc8538a72c7852c68af073d8dfc5169e5e2d87bb9f9", func := "shuttle/shuttlelaw2.ScalarTails", spec := "scalarTails", inPlace := ["internal/bytealg.IndexByteString", "internal/bytealg.IndexString"], unfollowed := true, recurses := true, named := ["internal/bytealg.MaxLen", "unicode/utf8.first", "unicode/utf8.acceptRanges"], apart := false, laid := [("unicode/utf8.acceptRanges", laid_unicode_utf8_acceptRanges), ("unicode/utf8.first", laid_unicode_utf8_first)], narrowed := true }
def ScalarTailsUptoSaid : Prop := scalarTailsUptoRow.holds Tryd.pinned (OpenSpec.upto scalarTailsSpec)

/-- 'shuttlelaw2.ScalarNo', WHERE WHAT IT READS IS OF BULK AT MOST 1048576: true; the input reads as it did. -/
def scalarNoUptoRow : OpenClaim := { program := "ytmkfjjfdbaaknaadoor", sum := "cf7e44b93bcb1142b70cafc8538a72c7852c68af073d8dfc5169e5e2d87bb9f9", func := "shuttle/shuttlelaw2.ScalarNo", spec := "scalarNo", inPlace := ["internal/bytealg.IndexByteString", "internal/bytealg.IndexString"], unfollowed := true, recurses := true, named := ["internal/bytealg.MaxLen", "unicode/utf8.first", "unicode/utf8.acceptRanges"], apart := false, laid := [("unicode/utf8.acceptRanges", laid_unicode_utf8_acceptRanges), ("unicode/utf8.first", laid_unicode_utf8_first)], narrowed := true }
def ScalarNoUptoSaid : Prop := scalarNoUptoRow.holds Tryd.pinned (OpenSpec.upto scalarNoSpec)

end Rows
end Go.Proofs.YtmkfjjfdbaaknaaDoor
