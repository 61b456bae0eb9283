/-
  DERIVED. GIVEN WITH THE SEED: THE CARDS: each row of YtffbpmmagoiooaaGreatDoorRows.lean that lists a variable, with what it lists TIED to the program's text (the seventh form; the later family's looks); each row that meets fmt, with fmt's text TOLD by the authors' own Lean function (tested against real Go, not proved from fmt's source: count such statements apart). THE CARD IS WHAT COUNTS. Prove the row's statement (the work); the ties are given (YtffbpmmagoiooaaGreatDoorTie.lean); close each card by the builder's one call (the guide's Derived/Test/ToyasCard.lean, 'card_holds'). Laid BY PROGRAM, IN A SANDBOX (cutbox-door.mjs). By AI agents, Wed Nov 11 2026. No macro, syntax, notation, axiom, sorry.
-/
import Derived.Test.YtffbpmmagoiooaaGreatDoorRows
import GoSem.ClaimSeven
namespace Go.Proofs.YtffbpmmagoiooaaGreatDoor
namespace Rows

/-- THE TIED CARD OF 'colporteurlaw13.DiskFull'. -/
def diskFullCard : Claim7 := { stood := { row := diskFullRow, standIns := [], harness := (true, "941112d6d7ebf3c542a979e7b3133ea79e64cab5cbd4c30bfb913d0226db9ebf"), looks := true }, kinds := [], alts := [], laidByText := true, laidKinds := [.data, .data, .data, .data, .sentinel, .sentinel, .pinned], laidTests := true, laidLooks := .later }
def DiskFullCardSaid : Prop := Claim7.holds Tryz.pinned (.plain (OpenSpec.ofChange diskFullSpec)) diskFullCard

/-- THE TIED CARD OF 'colporteurlaw13.DiskMove'. -/
def diskMoveCard : Claim7 := { stood := { row := diskMoveRow, standIns := [], harness := (true, "941112d6d7ebf3c542a979e7b3133ea79e64cab5cbd4c30bfb913d0226db9ebf"), looks := true }, kinds := [], alts := [], laidByText := true, laidKinds := [.data, .data, .data, .data, .sentinel, .sentinel, .pinned], laidTests := true, laidLooks := .later }
def DiskMoveCardSaid : Prop := Claim7.holds Tryz.pinned (.plain (OpenSpec.ofChange diskMoveSpec)) diskMoveCard

/-- THE TIED CARD OF 'colporteurlaw13.StoreBad'. -/
def storeBadCard : Claim7 := { stood := { row := storeBadRow, standIns := [], harness := (true, "941112d6d7ebf3c542a979e7b3133ea79e64cab5cbd4c30bfb913d0226db9ebf"), looks := true }, kinds := [], alts := [], laidByText := true, laidKinds := [.data, .data, .data, .data, .sentinel, .sentinel, .pinned], laidTests := true, laidLooks := .later }
def StoreBadCardSaid : Prop := Claim7.holds Tryz.pinned (.plain (OpenSpec.ofChange storeBadSpec)) storeBadCard

/-- THE TIED CARD OF 'colporteurlaw13.StoreTwice'. -/
def storeTwiceCard : Claim7 := { stood := { row := storeTwiceRow, standIns := [], harness := (true, "941112d6d7ebf3c542a979e7b3133ea79e64cab5cbd4c30bfb913d0226db9ebf"), looks := true }, kinds := [], alts := [], laidByText := true, laidKinds := [.data, .data, .data, .data, .sentinel, .sentinel, .pinned], laidTests := true, laidLooks := .later }
def StoreTwiceCardSaid : Prop := Claim7.holds Tryz.pinned (.plain (OpenSpec.ofChange storeTwiceSpec)) storeTwiceCard

/-- THE TIED CARD OF 'colporteurlaw13.StoreEq'. -/
def storeEqCard : Claim7 := { stood := { row := storeEqRow, standIns := [], harness := (true, "941112d6d7ebf3c542a979e7b3133ea79e64cab5cbd4c30bfb913d0226db9ebf"), looks := true }, kinds := [], alts := [], laidByText := true, laidKinds := [.data, .data, .data, .data, .sentinel, .sentinel, .pinned], laidTests := true, laidLooks := .later }
def StoreEqCardSaid : Prop := Claim7.holds Tryz.pinned (.plain (OpenSpec.ofChange storeEqSpec)) storeEqCard

/-- THE TIED CARD OF 'colporteurlaw13.StoreMany'. -/
def storeManyCard : Claim7 := { stood := { row := storeManyRow, standIns := [], harness := (true, "941112d6d7ebf3c542a979e7b3133ea79e64cab5cbd4c30bfb913d0226db9ebf"), looks := true }, kinds := [], alts := [], laidByText := true, laidKinds := [.data, .data, .data, .data, .sentinel, .sentinel, .pinned], laidTests := true, laidLooks := .later }
def StoreManyCardSaid : Prop := Claim7.holds Tryz.pinned (.plain (OpenSpec.ofChange storeManySpec)) storeManyCard

/-- THE TIED CARD OF 'colporteurlaw13.StoreAll'. -/
def storeAllCard : Claim7 := { stood := { row := storeAllRow, standIns := [], harness := (true, "941112d6d7ebf3c542a979e7b3133ea79e64cab5cbd4c30bfb913d0226db9ebf"), looks := true }, kinds := [], alts := [], laidByText := true, laidKinds := [.data, .data, .data, .data, .sentinel, .sentinel, .pinned], laidTests := true, laidLooks := .later }
def StoreAllCardSaid : Prop := Claim7.holds Tryz.pinned (.plain (OpenSpec.ofChange storeAllSpec)) storeAllCard

/-- THE TIED CARD OF 'colporteurlaw13.DiskAll'. -/
def diskAllCard : Claim7 := { stood := { row := diskAllRow, standIns := [], harness := (true, "941112d6d7ebf3c542a979e7b3133ea79e64cab5cbd4c30bfb913d0226db9ebf"), looks := true }, kinds := [], alts := [], laidByText := true, laidKinds := [.data, .data, .data, .data, .sentinel, .sentinel, .pinned], laidTests := true, laidLooks := .later }
def DiskAllCardSaid : Prop := Claim7.holds Tryz.pinned (.plain (OpenSpec.ofChange diskAllSpec)) diskAllCard

/-- THE TIED CARD OF 'colporteurlaw13.DiskFuse'. -/
def diskFuseCard : Claim7 := { stood := { row := diskFuseRow, standIns := [], harness := (true, "941112d6d7ebf3c542a979e7b3133ea79e64cab5cbd4c30bfb913d0226db9ebf"), looks := true }, kinds := [], alts := [], laidByText := true, laidKinds := [.data, .data, .data, .data, .sentinel, .sentinel, .pinned], laidTests := true, laidLooks := .later }
def DiskFuseCardSaid : Prop := Claim7.holds Tryz.pinned (.plain (OpenSpec.ofChange diskFuseSpec)) diskFuseCard

/-- THE TIED CARD OF 'colporteurlaw13.StoreNone'. -/
def storeNoneCard : Claim7 := { stood := { row := storeNoneRow, standIns := [], harness := (true, "941112d6d7ebf3c542a979e7b3133ea79e64cab5cbd4c30bfb913d0226db9ebf"), looks := true }, kinds := [], alts := [], laidByText := true, laidKinds := [.data, .data, .data, .data, .sentinel, .sentinel, .pinned], laidTests := true, laidLooks := .later }
def StoreNoneCardSaid : Prop := Claim7.holds Tryz.pinned (.plain (OpenSpec.ofChange storeNoneSpec)) storeNoneCard

/-- THE SECOND FORM's CARD OF 'colporteurlaw13.DiskFull'. -/
def diskFullUptoCard : Claim7 := { stood := { row := diskFullUptoRow, standIns := [], harness := (true, "941112d6d7ebf3c542a979e7b3133ea79e64cab5cbd4c30bfb913d0226db9ebf"), looks := true }, kinds := [], alts := [], laidByText := true, laidKinds := [.data, .data, .data, .data, .sentinel, .sentinel, .pinned], laidTests := true, laidLooks := .later }
def DiskFullUptoCardSaid : Prop := Claim7.holds Tryz.pinned (.plain (OpenSpec.upto diskFullSpec)) diskFullUptoCard

/-- THE SECOND FORM's CARD OF 'colporteurlaw13.DiskMove'. -/
def diskMoveUptoCard : Claim7 := { stood := { row := diskMoveUptoRow, standIns := [], harness := (true, "941112d6d7ebf3c542a979e7b3133ea79e64cab5cbd4c30bfb913d0226db9ebf"), looks := true }, kinds := [], alts := [], laidByText := true, laidKinds := [.data, .data, .data, .data, .sentinel, .sentinel, .pinned], laidTests := true, laidLooks := .later }
def DiskMoveUptoCardSaid : Prop := Claim7.holds Tryz.pinned (.plain (OpenSpec.upto diskMoveSpec)) diskMoveUptoCard

/-- THE SECOND FORM's CARD OF 'colporteurlaw13.StoreBad'. -/
def storeBadUptoCard : Claim7 := { stood := { row := storeBadUptoRow, standIns := [], harness := (true, "941112d6d7ebf3c542a979e7b3133ea79e64cab5cbd4c30bfb913d0226db9ebf"), looks := true }, kinds := [], alts := [], laidByText := true, laidKinds := [.data, .data, .data, .data, .sentinel, .sentinel, .pinned], laidTests := true, laidLooks := .later }
def StoreBadUptoCardSaid : Prop := Claim7.holds Tryz.pinned (.plain (OpenSpec.upto storeBadSpec)) storeBadUptoCard

/-- THE SECOND FORM's CARD OF 'colporteurlaw13.StoreTwice'. -/
def storeTwiceUptoCard : Claim7 := { stood := { row := storeTwiceUptoRow, standIns := [], harness := (true, "941112d6d7ebf3c542a979e7b3133ea79e64cab5cbd4c30bfb913d0226db9ebf"), looks := true }, kinds := [], alts := [], laidByText := true, laidKinds := [.data, .data, .data, .data, .sentinel, .sentinel, .pinned], laidTests := true, laidLooks := .later }
def StoreTwiceUptoCardSaid : Prop := Claim7.holds Tryz.pinned (.plain (OpenSpec.upto storeTwiceSpec)) storeTwiceUptoCard

/-- THE SECOND FORM's CARD OF 'colporteurlaw13.StoreEq'. -/
def storeEqUptoCard : Claim7 := { stood := { row := storeEqUptoRow, standIns := [], harness := (true, "941112d6d7ebf3c542a979e7b3133ea79e64cab5cbd4c30bfb913d0226db9ebf"), looks := true }, kinds := [], alts := [], laidByText := true, laidKinds := [.data, .data, .data, .data, .sentinel, .sentinel, .pinned], laidTests := true, laidLooks := .later }
def StoreEqUptoCardSaid : Prop := Claim7.holds Tryz.pinned (.plain (OpenSpec.upto storeEqSpec)) storeEqUptoCard

/-- THE SECOND FORM's CARD OF 'colporteurlaw13.StoreMany'. -/
def storeManyUptoCard : Claim7 := { stood := { row := storeManyUptoRow, standIns := [], harness := (true, "941112d6d7ebf3c542a979e7b3133ea79e64cab5cbd4c30bfb913d0226db9ebf"), looks := true }, kinds := [], alts := [], laidByText := true, laidKinds := [.data, .data, .data, .data, .sentinel, .sentinel, .pinned], laidTests := true, laidLooks := .later }
def StoreManyUptoCardSaid : Prop := Claim7.holds Tryz.pinned (.plain (OpenSpec.upto storeManySpec)) storeManyUptoCard

/-- THE SECOND FORM's CARD OF 'colporteurlaw13.StoreAll'. -/
def storeAllUptoCard : Claim7 := { stood := { row := storeAllUptoRow, standIns := [], harness := (true, "941112d6d7ebf3c542a979e7b3133ea79e64cab5cbd4c30bfb913d0226db9ebf"), looks := true }, kinds := [], alts := [], laidByText := true, laidKinds := [.data, .data, .data, .data, .sentinel, .sentinel, .pinned], laidTests := true, laidLooks := .later }
def StoreAllUptoCardSaid : Prop := Claim7.holds Tryz.pinned (.plain (OpenSpec.upto storeAllSpec)) storeAllUptoCard

/-- THE SECOND FORM's CARD OF 'colporteurlaw13.DiskAll'. -/
def diskAllUptoCard : Claim7 := { stood := { row := diskAllUptoRow, standIns := [], harness := (true, "941112d6d7ebf3c542a979e7b3133ea79e64cab5cbd4c30bfb913d0226db9ebf"), looks := true }, kinds := [], alts := [], laidByText := true, laidKinds := [.data, .data, .data, .data, .sentinel, .sentinel, .pinned], laidTests := true, laidLooks := .later }
def DiskAllUptoCardSaid : Prop := Claim7.holds Tryz.pinned (.plain (OpenSpec.upto diskAllSpec)) diskAllUptoCard

/-- THE SECOND FORM's CARD OF 'colporteurlaw13.DiskFuse'. -/
def diskFuseUptoCard : Claim7 := { stood := { row := diskFuseUptoRow, standIns := [], harness := (true, "941112d6d7ebf3c542a979e7b3133ea79e64cab5cbd4c30bfb913d0226db9ebf"), looks := true }, kinds := [], alts := [], laidByText := true, laidKinds := [.data, .data, .data, .data, .sentinel, .sentinel, .pinned], laidTests := true, laidLooks := .later }
def DiskFuseUptoCardSaid : Prop := Claim7.holds Tryz.pinned (.plain (OpenSpec.upto diskFuseSpec)) diskFuseUptoCard

/-- THE SECOND FORM's CARD OF 'colporteurlaw13.StoreNone'. -/
def storeNoneUptoCard : Claim7 := { stood := { row := storeNoneUptoRow, standIns := [], harness := (true, "941112d6d7ebf3c542a979e7b3133ea79e64cab5cbd4c30bfb913d0226db9ebf"), looks := true }, kinds := [], alts := [], laidByText := true, laidKinds := [.data, .data, .data, .data, .sentinel, .sentinel, .pinned], laidTests := true, laidLooks := .later }
def StoreNoneUptoCardSaid : Prop := Claim7.holds Tryz.pinned (.plain (OpenSpec.upto storeNoneSpec)) storeNoneUptoCard
end Rows
end Go.Proofs.YtffbpmmagoiooaaGreatDoor
