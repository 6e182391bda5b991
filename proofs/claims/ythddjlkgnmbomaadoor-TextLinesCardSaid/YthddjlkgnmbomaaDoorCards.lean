/-
  DERIVED. GIVEN WITH THE SEED: THE CARDS: each row of YthddjlkgnmbomaaDoorRows.lean that lists a variable, with what it lists TIED to the program's text (the seventh form; the later family's looks); each row that meets fmt, with fmt's text TOLD by the authors' own Lean function (tested against real Go, not proved from fmt's source: count such statements apart). THE CARD IS WHAT COUNTS. Prove the row's statement (the work); the ties are given (YthddjlkgnmbomaaDoorTie.lean); close each card by the builder's one call (the guide's Derived/Test/ToyasCard.lean, 'card_holds'). Laid BY PROGRAM, IN A SANDBOX (cutbox-door.mjs). By AI agents, Wed Nov 11 2026. No macro, syntax, notation, axiom, sorry.
-/
import Derived.Test.YthddjlkgnmbomaaDoorRows
import GoSem.ClaimSeven
namespace Go.Proofs.YthddjlkgnmbomaaDoor
namespace Rows

/-- THE TIED CARD OF 'shuttlelaw1.TextLines'. -/
def textLinesCard : Claim7 := { stood := { row := textLinesRow, standIns := [], harness := (true, "802e6ee631e9854a68952e67efa1e56e38c82cddc31d2afc4689b8618fad4dd2"), looks := false }, kinds := [], alts := [], laidByText := true, laidKinds := [.data, .pinned], laidTests := true, laidLooks := .later }
def TextLinesCardSaid : Prop := Claim7.holds Tryd.pinned (.plain (OpenSpec.ofChange textLinesSpec)) textLinesCard

/-- THE TIED CARD OF 'shuttlelaw1.TextSays'. -/
def textSaysCard : Claim7 := { stood := { row := textSaysRow, standIns := [], harness := (true, "802e6ee631e9854a68952e67efa1e56e38c82cddc31d2afc4689b8618fad4dd2"), looks := false }, kinds := [], alts := [], laidByText := true, laidKinds := [.data, .pinned], laidTests := true, laidLooks := .later }
def TextSaysCardSaid : Prop := Claim7.holds Tryd.pinned (.plain (OpenSpec.ofChange textSaysSpec)) textSaysCard

/-- THE TIED CARD OF 'shuttlelaw1.TextQuiet'. -/
def textQuietCard : Claim7 := { stood := { row := textQuietRow, standIns := [], harness := (true, "802e6ee631e9854a68952e67efa1e56e38c82cddc31d2afc4689b8618fad4dd2"), looks := false }, kinds := [], alts := [], laidByText := true, laidKinds := [.data, .pinned], laidTests := true, laidLooks := .later }
def TextQuietCardSaid : Prop := Claim7.holds Tryd.pinned (.plain (OpenSpec.ofChange textQuietSpec)) textQuietCard

/-- THE TIED CARD OF 'shuttlelaw1.TextBytes'. -/
def textBytesCard : Claim7 := { stood := { row := textBytesRow, standIns := [], harness := (true, "802e6ee631e9854a68952e67efa1e56e38c82cddc31d2afc4689b8618fad4dd2"), looks := false }, kinds := [], alts := [], laidByText := true, laidKinds := [.data, .pinned], laidTests := true, laidLooks := .later }
def TextBytesCardSaid : Prop := Claim7.holds Tryd.pinned (.plain (OpenSpec.ofChange textBytesSpec)) textBytesCard

/-- THE TIED CARD OF 'shuttlelaw1.TextLong'. -/
def textLongCard : Claim7 := { stood := { row := textLongRow, standIns := [], harness := (true, "802e6ee631e9854a68952e67efa1e56e38c82cddc31d2afc4689b8618fad4dd2"), looks := false }, kinds := [], alts := [], laidByText := true, laidKinds := [.data, .pinned], laidTests := true, laidLooks := .later }
def TextLongCardSaid : Prop := Claim7.holds Tryd.pinned (.plain (OpenSpec.ofChange textLongSpec)) textLongCard

/-- THE SECOND FORM's CARD OF 'shuttlelaw1.TextLines'. -/
def textLinesUptoCard : Claim7 := { stood := { row := textLinesUptoRow, standIns := [], harness := (true, "802e6ee631e9854a68952e67efa1e56e38c82cddc31d2afc4689b8618fad4dd2"), looks := false }, kinds := [], alts := [], laidByText := true, laidKinds := [.data, .pinned], laidTests := true, laidLooks := .later }
def TextLinesUptoCardSaid : Prop := Claim7.holds Tryd.pinned (.plain (OpenSpec.upto textLinesSpec)) textLinesUptoCard

/-- THE SECOND FORM's CARD OF 'shuttlelaw1.TextSays'. -/
def textSaysUptoCard : Claim7 := { stood := { row := textSaysUptoRow, standIns := [], harness := (true, "802e6ee631e9854a68952e67efa1e56e38c82cddc31d2afc4689b8618fad4dd2"), looks := false }, kinds := [], alts := [], laidByText := true, laidKinds := [.data, .pinned], laidTests := true, laidLooks := .later }
def TextSaysUptoCardSaid : Prop := Claim7.holds Tryd.pinned (.plain (OpenSpec.upto textSaysSpec)) textSaysUptoCard

/-- THE SECOND FORM's CARD OF 'shuttlelaw1.TextQuiet'. -/
def textQuietUptoCard : Claim7 := { stood := { row := textQuietUptoRow, standIns := [], harness := (true, "802e6ee631e9854a68952e67efa1e56e38c82cddc31d2afc4689b8618fad4dd2"), looks := false }, kinds := [], alts := [], laidByText := true, laidKinds := [.data, .pinned], laidTests := true, laidLooks := .later }
def TextQuietUptoCardSaid : Prop := Claim7.holds Tryd.pinned (.plain (OpenSpec.upto textQuietSpec)) textQuietUptoCard

/-- THE SECOND FORM's CARD OF 'shuttlelaw1.TextBytes'. -/
def textBytesUptoCard : Claim7 := { stood := { row := textBytesUptoRow, standIns := [], harness := (true, "802e6ee631e9854a68952e67efa1e56e38c82cddc31d2afc4689b8618fad4dd2"), looks := false }, kinds := [], alts := [], laidByText := true, laidKinds := [.data, .pinned], laidTests := true, laidLooks := .later }
def TextBytesUptoCardSaid : Prop := Claim7.holds Tryd.pinned (.plain (OpenSpec.upto textBytesSpec)) textBytesUptoCard

/-- THE SECOND FORM's CARD OF 'shuttlelaw1.TextLong'. -/
def textLongUptoCard : Claim7 := { stood := { row := textLongUptoRow, standIns := [], harness := (true, "802e6ee631e9854a68952e67efa1e56e38c82cddc31d2afc4689b8618fad4dd2"), looks := false }, kinds := [], alts := [], laidByText := true, laidKinds := [.data, .pinned], laidTests := true, laidLooks := .later }
def TextLongUptoCardSaid : Prop := Claim7.holds Tryd.pinned (.plain (OpenSpec.upto textLongSpec)) textLongUptoCard
end Rows
end Go.Proofs.YthddjlkgnmbomaaDoor
