/-
  DERIVED. GIVEN WITH THE SEED: THE CARDS: each row of YtdimdhloklnkmaaGreatDoorRows.lean that lists a variable, with what it lists TIED to the program's text (the seventh form; the later family's looks); each row that meets fmt, with fmt's text TOLD by the authors' own Lean function (tested against real Go, not proved from fmt's source: count such statements apart). THE CARD IS WHAT COUNTS. Prove the row's statement (the work); the ties are given (YtdimdhloklnkmaaGreatDoorTie.lean); close each card by the builder's one call (the guide's Derived/Test/ToyasCard.lean, 'card_holds'). Laid BY PROGRAM, IN A SANDBOX (cutbox-door.mjs). By AI agents, Wed Nov 11 2026. No macro, syntax, notation, axiom, sorry.
-/
import Derived.Test.YtdimdhloklnkmaaGreatDoorRows
import GoSem.ClaimSeven
namespace Go.Proofs.YtdimdhloklnkmaaGreatDoor
namespace Rows

/-- THE TIED CARD OF 'colporteurlaw19.ServeNone'. -/
def serveNoneCard : Claim7 := { stood := { row := serveNoneRow, standIns := [], harness := (true, "2de9ab4aebe3c4aef0ba2d3f3a7ae3c0feff89b317033773d02f4b0c4c5ea836"), looks := true }, kinds := [], alts := [], laidByText := true, laidKinds := [.data, .data, .data, .data, .sentinel, .sentinel, .pinned], laidTests := true, laidLooks := .later }
def ServeNoneCardSaid : Prop := Claim7.holds Tryz.pinned (.plain (OpenSpec.ofChange serveNoneSpec)) serveNoneCard

/-- THE TIED CARD OF 'colporteurlaw19.WantMost'. -/
def wantMostCard : Claim7 := { stood := { row := wantMostRow, standIns := [], harness := (true, "2de9ab4aebe3c4aef0ba2d3f3a7ae3c0feff89b317033773d02f4b0c4c5ea836"), looks := true }, kinds := [], alts := [], laidByText := true, laidKinds := [.data, .data, .data, .data, .sentinel, .sentinel, .pinned], laidTests := true, laidLooks := .later }
def WantMostCardSaid : Prop := Claim7.holds Tryz.pinned (.plain (OpenSpec.ofChange wantMostSpec)) wantMostCard

/-- THE TIED CARD OF 'colporteurlaw19.ServeDepth'. -/
def serveDepthCard : Claim7 := { stood := { row := serveDepthRow, standIns := [], harness := (true, "2de9ab4aebe3c4aef0ba2d3f3a7ae3c0feff89b317033773d02f4b0c4c5ea836"), looks := true }, kinds := [], alts := [], laidByText := true, laidKinds := [.data, .data, .data, .data, .sentinel, .sentinel, .pinned], laidTests := true, laidLooks := .later }
def ServeDepthCardSaid : Prop := Claim7.holds Tryz.pinned (.plain (OpenSpec.ofChange serveDepthSpec)) serveDepthCard

/-- THE SECOND FORM's CARD OF 'colporteurlaw19.ServeNone'. -/
def serveNoneUptoCard : Claim7 := { stood := { row := serveNoneUptoRow, standIns := [], harness := (true, "2de9ab4aebe3c4aef0ba2d3f3a7ae3c0feff89b317033773d02f4b0c4c5ea836"), looks := true }, kinds := [], alts := [], laidByText := true, laidKinds := [.data, .data, .data, .data, .sentinel, .sentinel, .pinned], laidTests := true, laidLooks := .later }
def ServeNoneUptoCardSaid : Prop := Claim7.holds Tryz.pinned (.plain (OpenSpec.upto serveNoneSpec)) serveNoneUptoCard

/-- THE SECOND FORM's CARD OF 'colporteurlaw19.WantMost'. -/
def wantMostUptoCard : Claim7 := { stood := { row := wantMostUptoRow, standIns := [], harness := (true, "2de9ab4aebe3c4aef0ba2d3f3a7ae3c0feff89b317033773d02f4b0c4c5ea836"), looks := true }, kinds := [], alts := [], laidByText := true, laidKinds := [.data, .data, .data, .data, .sentinel, .sentinel, .pinned], laidTests := true, laidLooks := .later }
def WantMostUptoCardSaid : Prop := Claim7.holds Tryz.pinned (.plain (OpenSpec.upto wantMostSpec)) wantMostUptoCard

/-- THE SECOND FORM's CARD OF 'colporteurlaw19.ServeDepth'. -/
def serveDepthUptoCard : Claim7 := { stood := { row := serveDepthUptoRow, standIns := [], harness := (true, "2de9ab4aebe3c4aef0ba2d3f3a7ae3c0feff89b317033773d02f4b0c4c5ea836"), looks := true }, kinds := [], alts := [], laidByText := true, laidKinds := [.data, .data, .data, .data, .sentinel, .sentinel, .pinned], laidTests := true, laidLooks := .later }
def ServeDepthUptoCardSaid : Prop := Claim7.holds Tryz.pinned (.plain (OpenSpec.upto serveDepthSpec)) serveDepthUptoCard
end Rows
end Go.Proofs.YtdimdhloklnkmaaGreatDoor
