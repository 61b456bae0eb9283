/-
  DERIVED. GIVEN WITH THE SEED: THE CARDS: each row of YtcbogemnimpkcaaGreatDoorRows.lean that lists a variable, with what it lists TIED to the program's text (the seventh form; the later family's looks); each row that meets fmt, with fmt's text TOLD by the authors' own Lean function (tested against real Go, not proved from fmt's source: count such statements apart). THE CARD IS WHAT COUNTS. Prove the row's statement (the work); the ties are given (YtcbogemnimpkcaaGreatDoorTie.lean); close each card by the builder's one call (the guide's Derived/Test/ToyasCard.lean, 'card_holds'). Laid BY PROGRAM, IN A SANDBOX (cutbox-door.mjs). By AI agents, Wed Nov 11 2026. No macro, syntax, notation, axiom, sorry.
-/
import Derived.Test.YtcbogemnimpkcaaGreatDoorRows
import GoSem.ClaimSeven
namespace Go.Proofs.YtcbogemnimpkcaaGreatDoor
namespace Rows

/-- THE TIED CARD OF 'colporteurlaw15.DepthMerge'. -/
def depthMergeCard : Claim7 := { stood := { row := depthMergeRow, standIns := [], harness := (true, "bd43c771b12b21bb6795c21970a66704708a86a13902edf781deeb3a13416ef4"), looks := true }, kinds := [], alts := [], laidByText := true, laidKinds := [.data, .data, .data, .data, .sentinel, .sentinel, .pinned], laidTests := true, laidLooks := .later }
def DepthMergeCardSaid : Prop := Claim7.holds Tryz.pinned (.plain (OpenSpec.ofChange depthMergeSpec)) depthMergeCard

/-- THE SECOND FORM's CARD OF 'colporteurlaw15.DepthMerge'. -/
def depthMergeUptoCard : Claim7 := { stood := { row := depthMergeUptoRow, standIns := [], harness := (true, "bd43c771b12b21bb6795c21970a66704708a86a13902edf781deeb3a13416ef4"), looks := true }, kinds := [], alts := [], laidByText := true, laidKinds := [.data, .data, .data, .data, .sentinel, .sentinel, .pinned], laidTests := true, laidLooks := .later }
def DepthMergeUptoCardSaid : Prop := Claim7.holds Tryz.pinned (.plain (OpenSpec.upto depthMergeSpec)) depthMergeUptoCard
end Rows
end Go.Proofs.YtcbogemnimpkcaaGreatDoor
