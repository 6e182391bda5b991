/-
  DERIVED. GIVEN WITH THE SEED: THE CARDS: each row of YtmkfjjfdbaaknaaDoorRows.lean that lists a variable, with what it lists TIED to the program's text (the seventh form; the later family's looks); each row that meets fmt, with fmt's text TOLD by the authors' own Lean function (tested against real Go, not proved from fmt's source: count such statements apart). THE CARD IS WHAT COUNTS. Prove the row's statement (the work); the ties are given (YtmkfjjfdbaaknaaDoorTie.lean); close each card by the builder's one call (the guide's Derived/Test/ToyasCard.lean, 'card_holds'). Laid BY PROGRAM, IN A SANDBOX (cutbox-door.mjs). By AI agents, Wed Nov 11 2026. No macro, syntax, notation, axiom, sorry.
-/
import Derived.Test.YtmkfjjfdbaaknaaDoorRows
import GoSem.ClaimSeven
namespace Go.Proofs.YtmkfjjfdbaaknaaDoor
namespace Rows

/-- THE TIED CARD OF 'shuttlelaw2.ScalarReads'. -/
def scalarReadsCard : Claim7 := { stood := { row := scalarReadsRow, standIns := [], harness := (true, "1bf988637d90191847a0b2607f33fd543f8b5709a48790f7616a1c18bc491f26"), looks := true }, kinds := [], alts := [], laidByText := true, laidKinds := [.data, .pinned], laidTests := true, laidLooks := .later }
def ScalarReadsCardSaid : Prop := Claim7.holds Tryd.pinned (.plain (OpenSpec.ofChange scalarReadsSpec)) scalarReadsCard

/-- THE TIED CARD OF 'shuttlelaw2.ScalarNames'. -/
def scalarNamesCard : Claim7 := { stood := { row := scalarNamesRow, standIns := [], harness := (true, "1bf988637d90191847a0b2607f33fd543f8b5709a48790f7616a1c18bc491f26"), looks := true }, kinds := [], alts := [], laidByText := true, laidKinds := [.data, .pinned], laidTests := true, laidLooks := .later }
def ScalarNamesCardSaid : Prop := Claim7.holds Tryd.pinned (.plain (OpenSpec.ofChange scalarNamesSpec)) scalarNamesCard

/-- THE TIED CARD OF 'shuttlelaw2.ScalarWrites'. -/
def scalarWritesCard : Claim7 := { stood := { row := scalarWritesRow, standIns := [], harness := (true, "1bf988637d90191847a0b2607f33fd543f8b5709a48790f7616a1c18bc491f26"), looks := true }, kinds := [], alts := [], laidByText := true, laidKinds := [.data, .pinned], laidTests := true, laidLooks := .later }
def ScalarWritesCardSaid : Prop := Claim7.holds Tryd.pinned (.plain (OpenSpec.ofChange scalarWritesSpec)) scalarWritesCard

/-- THE TIED CARD OF 'shuttlelaw2.ScalarBack'. -/
def scalarBackCard : Claim7 := { stood := { row := scalarBackRow, standIns := [], harness := (true, "1bf988637d90191847a0b2607f33fd543f8b5709a48790f7616a1c18bc491f26"), looks := true }, kinds := [], alts := [], laidByText := true, laidKinds := [.data, .pinned], laidTests := true, laidLooks := .later }
def ScalarBackCardSaid : Prop := Claim7.holds Tryd.pinned (.plain (OpenSpec.ofChange scalarBackSpec)) scalarBackCard

/-- THE TIED CARD OF 'shuttlelaw2.ScalarSafe'. -/
def scalarSafeCard : Claim7 := { stood := { row := scalarSafeRow, standIns := [], harness := (true, "1bf988637d90191847a0b2607f33fd543f8b5709a48790f7616a1c18bc491f26"), looks := true }, kinds := [], alts := [], laidByText := true, laidKinds := [.data, .pinned], laidTests := true, laidLooks := .later }
def ScalarSafeCardSaid : Prop := Claim7.holds Tryd.pinned (.plain (OpenSpec.ofChange scalarSafeSpec)) scalarSafeCard

/-- THE TIED CARD OF 'shuttlelaw2.ScalarTails'. -/
def scalarTailsCard : Claim7 := { stood := { row := scalarTailsRow, standIns := [], harness := (true, "1bf988637d90191847a0b2607f33fd543f8b5709a48790f7616a1c18bc491f26"), looks := true }, kinds := [], alts := [], laidByText := true, laidKinds := [.data, .pinned], laidTests := true, laidLooks := .later }
def ScalarTailsCardSaid : Prop := Claim7.holds Tryd.pinned (.plain (OpenSpec.ofChange scalarTailsSpec)) scalarTailsCard

/-- THE TIED CARD OF 'shuttlelaw2.ScalarNo'. -/
def scalarNoCard : Claim7 := { stood := { row := scalarNoRow, standIns := [], harness := (true, "1bf988637d90191847a0b2607f33fd543f8b5709a48790f7616a1c18bc491f26"), looks := true }, kinds := [], alts := [], laidByText := true, laidKinds := [.data, .pinned], laidTests := true, laidLooks := .later }
def ScalarNoCardSaid : Prop := Claim7.holds Tryd.pinned (.plain (OpenSpec.ofChange scalarNoSpec)) scalarNoCard

/-- THE SECOND FORM's CARD OF 'shuttlelaw2.ScalarReads'. -/
def scalarReadsUptoCard : Claim7 := { stood := { row := scalarReadsUptoRow, standIns := [], harness := (true, "1bf988637d90191847a0b2607f33fd543f8b5709a48790f7616a1c18bc491f26"), looks := true }, kinds := [], alts := [], laidByText := true, laidKinds := [.data, .pinned], laidTests := true, laidLooks := .later }
def ScalarReadsUptoCardSaid : Prop := Claim7.holds Tryd.pinned (.plain (OpenSpec.upto scalarReadsSpec)) scalarReadsUptoCard

/-- THE SECOND FORM's CARD OF 'shuttlelaw2.ScalarNames'. -/
def scalarNamesUptoCard : Claim7 := { stood := { row := scalarNamesUptoRow, standIns := [], harness := (true, "1bf988637d90191847a0b2607f33fd543f8b5709a48790f7616a1c18bc491f26"), looks := true }, kinds := [], alts := [], laidByText := true, laidKinds := [.data, .pinned], laidTests := true, laidLooks := .later }
def ScalarNamesUptoCardSaid : Prop := Claim7.holds Tryd.pinned (.plain (OpenSpec.upto scalarNamesSpec)) scalarNamesUptoCard

/-- THE SECOND FORM's CARD OF 'shuttlelaw2.ScalarWrites'. -/
def scalarWritesUptoCard : Claim7 := { stood := { row := scalarWritesUptoRow, standIns := [], harness := (true, "1bf988637d90191847a0b2607f33fd543f8b5709a48790f7616a1c18bc491f26"), looks := true }, kinds := [], alts := [], laidByText := true, laidKinds := [.data, .pinned], laidTests := true, laidLooks := .later }
def ScalarWritesUptoCardSaid : Prop := Claim7.holds Tryd.pinned (.plain (OpenSpec.upto scalarWritesSpec)) scalarWritesUptoCard

/-- THE SECOND FORM's CARD OF 'shuttlelaw2.ScalarBack'. -/
def scalarBackUptoCard : Claim7 := { stood := { row := scalarBackUptoRow, standIns := [], harness := (true, "1bf988637d90191847a0b2607f33fd543f8b5709a48790f7616a1c18bc491f26"), looks := true }, kinds := [], alts := [], laidByText := true, laidKinds := [.data, .pinned], laidTests := true, laidLooks := .later }
def ScalarBackUptoCardSaid : Prop := Claim7.holds Tryd.pinned (.plain (OpenSpec.upto scalarBackSpec)) scalarBackUptoCard

/-- THE SECOND FORM's CARD OF 'shuttlelaw2.ScalarSafe'. -/
def scalarSafeUptoCard : Claim7 := { stood := { row := scalarSafeUptoRow, standIns := [], harness := (true, "1bf988637d90191847a0b2607f33fd543f8b5709a48790f7616a1c18bc491f26"), looks := true }, kinds := [], alts := [], laidByText := true, laidKinds := [.data, .pinned], laidTests := true, laidLooks := .later }
def ScalarSafeUptoCardSaid : Prop := Claim7.holds Tryd.pinned (.plain (OpenSpec.upto scalarSafeSpec)) scalarSafeUptoCard

/-- THE SECOND FORM's CARD OF 'shuttlelaw2.ScalarTails'. -/
def scalarTailsUptoCard : Claim7 := { stood := { row := scalarTailsUptoRow, standIns := [], harness := (true, "1bf988637d90191847a0b2607f33fd543f8b5709a48790f7616a1c18bc491f26"), looks := true }, kinds := [], alts := [], laidByText := true, laidKinds := [.data, .pinned], laidTests := true, laidLooks := .later }
def ScalarTailsUptoCardSaid : Prop := Claim7.holds Tryd.pinned (.plain (OpenSpec.upto scalarTailsSpec)) scalarTailsUptoCard

/-- THE SECOND FORM's CARD OF 'shuttlelaw2.ScalarNo'. -/
def scalarNoUptoCard : Claim7 := { stood := { row := scalarNoUptoRow, standIns := [], harness := (true, "1bf988637d90191847a0b2607f33fd543f8b5709a48790f7616a1c18bc491f26"), looks := true }, kinds := [], alts := [], laidByText := true, laidKinds := [.data, .pinned], laidTests := true, laidLooks := .later }
def ScalarNoUptoCardSaid : Prop := Claim7.holds Tryd.pinned (.plain (OpenSpec.upto scalarNoSpec)) scalarNoUptoCard
end Rows
end Go.Proofs.YtmkfjjfdbaaknaaDoor
