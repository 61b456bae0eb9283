/-
  DERIVED. GIVEN WITH THE SEED: THE CARDS: each row of YtiikdbnblacbhaaGreatDoorRows.lean that lists a variable, with what it lists TIED to the program's text (the seventh form; the later family's looks); each row that meets fmt, with fmt's text TOLD by the authors' own Lean function (tested against real Go, not proved from fmt's source: count such statements apart). THE CARD IS WHAT COUNTS. Prove the row's statement (the work); the ties are given (YtiikdbnblacbhaaGreatDoorTie.lean); close each card by the builder's one call (the guide's Derived/Test/ToyasCard.lean, 'card_holds'). Laid BY PROGRAM, IN A SANDBOX (cutbox-door.mjs). By AI agents, Wed Nov 11 2026. No macro, syntax, notation, axiom, sorry.
-/
import Derived.Test.YtiikdbnblacbhaaGreatDoorRows
import GoSem.ClaimSeven
namespace Go.Proofs.YtiikdbnblacbhaaGreatDoor
namespace Rows

/-- THE TIED CARD OF 'colporteurlaw13.StoreBad'. -/
def storeBadCard : Claim7 := { stood := { row := storeBadRow, standIns := [], harness := (true, "8254acd3c2aac087ad5703f659930b532e9eb6a40387222cfde0cc108e52f180"), looks := true }, kinds := [], alts := [], laidByText := true, laidKinds := [.data, .data, .data, .data, .sentinel, .sentinel, .pinned], laidTests := true, laidLooks := .later }
def StoreBadCardSaid : Prop := Claim7.holds Tryz.pinned (.plain (OpenSpec.ofChange storeBadSpec)) storeBadCard

/-- THE TIED CARD OF 'colporteurlaw13.StoreTwice'. -/
def storeTwiceCard : Claim7 := { stood := { row := storeTwiceRow, standIns := [], harness := (true, "8254acd3c2aac087ad5703f659930b532e9eb6a40387222cfde0cc108e52f180"), looks := true }, kinds := [], alts := [], laidByText := true, laidKinds := [.data, .data, .data, .data, .sentinel, .sentinel, .pinned], laidTests := true, laidLooks := .later }
def StoreTwiceCardSaid : Prop := Claim7.holds Tryz.pinned (.plain (OpenSpec.ofChange storeTwiceSpec)) storeTwiceCard

/-- THE TIED CARD OF 'colporteurlaw13.StoreMany'. -/
def storeManyCard : Claim7 := { stood := { row := storeManyRow, standIns := [], harness := (true, "8254acd3c2aac087ad5703f659930b532e9eb6a40387222cfde0cc108e52f180"), looks := true }, kinds := [], alts := [], laidByText := true, laidKinds := [.data, .data, .data, .data, .sentinel, .sentinel, .pinned], laidTests := true, laidLooks := .later }
def StoreManyCardSaid : Prop := Claim7.holds Tryz.pinned (.plain (OpenSpec.ofChange storeManySpec)) storeManyCard

/-- THE TIED CARD OF 'colporteurlaw13.DiskAll'. -/
def diskAllCard : Claim7 := { stood := { row := diskAllRow, standIns := [], harness := (true, "8254acd3c2aac087ad5703f659930b532e9eb6a40387222cfde0cc108e52f180"), looks := true }, kinds := [], alts := [], laidByText := true, laidKinds := [.data, .data, .data, .data, .sentinel, .sentinel, .pinned], laidTests := true, laidLooks := .later }
def DiskAllCardSaid : Prop := Claim7.holds Tryz.pinned (.plain (OpenSpec.ofChange diskAllSpec)) diskAllCard

/-- THE TIED CARD OF 'colporteurlaw13.DiskFuse'. -/
def diskFuseCard : Claim7 := { stood := { row := diskFuseRow, standIns := [], harness := (true, "8254acd3c2aac087ad5703f659930b532e9eb6a40387222cfde0cc108e52f180"), looks := true }, kinds := [], alts := [], laidByText := true, laidKinds := [.data, .data, .data, .data, .sentinel, .sentinel, .pinned], laidTests := true, laidLooks := .later }
def DiskFuseCardSaid : Prop := Claim7.holds Tryz.pinned (.plain (OpenSpec.ofChange diskFuseSpec)) diskFuseCard

/-- THE SECOND FORM's CARD OF 'colporteurlaw13.StoreBad'. -/
def storeBadUptoCard : Claim7 := { stood := { row := storeBadUptoRow, standIns := [], harness := (true, "8254acd3c2aac087ad5703f659930b532e9eb6a40387222cfde0cc108e52f180"), looks := true }, kinds := [], alts := [], laidByText := true, laidKinds := [.data, .data, .data, .data, .sentinel, .sentinel, .pinned], laidTests := true, laidLooks := .later }
def StoreBadUptoCardSaid : Prop := Claim7.holds Tryz.pinned (.plain (OpenSpec.upto storeBadSpec)) storeBadUptoCard

/-- THE SECOND FORM's CARD OF 'colporteurlaw13.StoreTwice'. -/
def storeTwiceUptoCard : Claim7 := { stood := { row := storeTwiceUptoRow, standIns := [], harness := (true, "8254acd3c2aac087ad5703f659930b532e9eb6a40387222cfde0cc108e52f180"), looks := true }, kinds := [], alts := [], laidByText := true, laidKinds := [.data, .data, .data, .data, .sentinel, .sentinel, .pinned], laidTests := true, laidLooks := .later }
def StoreTwiceUptoCardSaid : Prop := Claim7.holds Tryz.pinned (.plain (OpenSpec.upto storeTwiceSpec)) storeTwiceUptoCard

/-- THE SECOND FORM's CARD OF 'colporteurlaw13.StoreMany'. -/
def storeManyUptoCard : Claim7 := { stood := { row := storeManyUptoRow, standIns := [], harness := (true, "8254acd3c2aac087ad5703f659930b532e9eb6a40387222cfde0cc108e52f180"), looks := true }, kinds := [], alts := [], laidByText := true, laidKinds := [.data, .data, .data, .data, .sentinel, .sentinel, .pinned], laidTests := true, laidLooks := .later }
def StoreManyUptoCardSaid : Prop := Claim7.holds Tryz.pinned (.plain (OpenSpec.upto storeManySpec)) storeManyUptoCard

/-- THE SECOND FORM's CARD OF 'colporteurlaw13.DiskAll'. -/
def diskAllUptoCard : Claim7 := { stood := { row := diskAllUptoRow, standIns := [], harness := (true, "8254acd3c2aac087ad5703f659930b532e9eb6a40387222cfde0cc108e52f180"), looks := true }, kinds := [], alts := [], laidByText := true, laidKinds := [.data, .data, .data, .data, .sentinel, .sentinel, .pinned], laidTests := true, laidLooks := .later }
def DiskAllUptoCardSaid : Prop := Claim7.holds Tryz.pinned (.plain (OpenSpec.upto diskAllSpec)) diskAllUptoCard

/-- THE SECOND FORM's CARD OF 'colporteurlaw13.DiskFuse'. -/
def diskFuseUptoCard : Claim7 := { stood := { row := diskFuseUptoRow, standIns := [], harness := (true, "8254acd3c2aac087ad5703f659930b532e9eb6a40387222cfde0cc108e52f180"), looks := true }, kinds := [], alts := [], laidByText := true, laidKinds := [.data, .data, .data, .data, .sentinel, .sentinel, .pinned], laidTests := true, laidLooks := .later }
def DiskFuseUptoCardSaid : Prop := Claim7.holds Tryz.pinned (.plain (OpenSpec.upto diskFuseSpec)) diskFuseUptoCard
end Rows
end Go.Proofs.YtiikdbnblacbhaaGreatDoor
