/-
  DERIVED. GIVEN WITH THE SEED: THE CARDS: each row of YtnnfledihhiaiaaGreatDoorRows.lean that lists a variable, with what it lists TIED to the program's text (the seventh form; the later family's looks); each row that meets fmt, with fmt's text TOLD by the authors' own Lean function (tested against real Go, not proved from fmt's source: count such statements apart). THE CARD IS WHAT COUNTS. Prove the row's statement (the work); the ties are given (YtnnfledihhiaiaaGreatDoorTie.lean); close each card by the builder's one call (the guide's Derived/Test/ToyasCard.lean, 'card_holds'). Laid BY PROGRAM, IN A SANDBOX (cutbox-door.mjs). By AI agents, Wed Nov 11 2026. No macro, syntax, notation, axiom, sorry.
-/
import Derived.Test.YtnnfledihhiaiaaGreatDoorRows
import GoSem.ClaimSeven
namespace Go.Proofs.YtnnfledihhiaiaaGreatDoor
namespace Rows

/-- THE TIED CARD OF 'colporteurlaw15.LinkNone'. -/
def linkNoneCard : Claim7 := { stood := { row := linkNoneRow, standIns := [], harness := (true, "c97cde244724dd329f2b399d2dac099d624c3212ddef85b562753614e98543dc"), looks := true }, kinds := [], alts := [], laidByText := true, laidKinds := [.data, .data, .data, .data, .sentinel, .sentinel, .pinned], laidTests := true, laidLooks := .later }
def LinkNoneCardSaid : Prop := Claim7.holds Tryz.pinned (.plain (OpenSpec.ofChange linkNoneSpec)) linkNoneCard

/-- THE TIED CARD OF 'colporteurlaw15.WalkDeep'. -/
def walkDeepCard : Claim7 := { stood := { row := walkDeepRow, standIns := [], harness := (true, "c97cde244724dd329f2b399d2dac099d624c3212ddef85b562753614e98543dc"), looks := true }, kinds := [], alts := [], laidByText := true, laidKinds := [.data, .data, .data, .data, .sentinel, .sentinel, .pinned], laidTests := true, laidLooks := .later }
def WalkDeepCardSaid : Prop := Claim7.holds Tryz.pinned (.plain (OpenSpec.ofChange walkDeepSpec)) walkDeepCard

/-- THE TIED CARD OF 'colporteurlaw15.DepthChain'. -/
def depthChainCard : Claim7 := { stood := { row := depthChainRow, standIns := [], harness := (true, "c97cde244724dd329f2b399d2dac099d624c3212ddef85b562753614e98543dc"), looks := true }, kinds := [], alts := [], laidByText := true, laidKinds := [.data, .data, .data, .data, .sentinel, .sentinel, .pinned], laidTests := true, laidLooks := .later }
def DepthChainCardSaid : Prop := Claim7.holds Tryz.pinned (.plain (OpenSpec.ofChange depthChainSpec)) depthChainCard

/-- THE TIED CARD OF 'colporteurlaw15.DepthTime'. -/
def depthTimeCard : Claim7 := { stood := { row := depthTimeRow, standIns := [], harness := (true, "c97cde244724dd329f2b399d2dac099d624c3212ddef85b562753614e98543dc"), looks := true }, kinds := [], alts := [], laidByText := true, laidKinds := [.data, .data, .data, .data, .sentinel, .sentinel, .pinned], laidTests := true, laidLooks := .later }
def DepthTimeCardSaid : Prop := Claim7.holds Tryz.pinned (.plain (OpenSpec.ofChange depthTimeSpec)) depthTimeCard

/-- THE TIED CARD OF 'colporteurlaw15.DepthMerge'. -/
def depthMergeCard : Claim7 := { stood := { row := depthMergeRow, standIns := [], harness := (true, "c97cde244724dd329f2b399d2dac099d624c3212ddef85b562753614e98543dc"), looks := true }, kinds := [], alts := [], laidByText := true, laidKinds := [.data, .data, .data, .data, .sentinel, .sentinel, .pinned], laidTests := true, laidLooks := .later }
def DepthMergeCardSaid : Prop := Claim7.holds Tryz.pinned (.plain (OpenSpec.ofChange depthMergeSpec)) depthMergeCard

/-- THE TIED CARD OF 'colporteurlaw15.FilterDepth'. -/
def filterDepthCard : Claim7 := { stood := { row := filterDepthRow, standIns := [], harness := (true, "c97cde244724dd329f2b399d2dac099d624c3212ddef85b562753614e98543dc"), looks := true }, kinds := [], alts := [], laidByText := true, laidKinds := [.data, .data, .data, .data, .sentinel, .sentinel, .pinned], laidTests := true, laidLooks := .later }
def FilterDepthCardSaid : Prop := Claim7.holds Tryz.pinned (.plain (OpenSpec.ofChange filterDepthSpec)) filterDepthCard

/-- THE TIED CARD OF 'colporteurlaw15.FilterLimit'. -/
def filterLimitCard : Claim7 := { stood := { row := filterLimitRow, standIns := [], harness := (true, "c97cde244724dd329f2b399d2dac099d624c3212ddef85b562753614e98543dc"), looks := true }, kinds := [], alts := [], laidByText := true, laidKinds := [.data, .data, .data, .data, .sentinel, .sentinel, .pinned], laidTests := true, laidLooks := .later }
def FilterLimitCardSaid : Prop := Claim7.holds Tryz.pinned (.plain (OpenSpec.ofChange filterLimitSpec)) filterLimitCard

/-- THE TIED CARD OF 'colporteurlaw15.LinkShallow'. -/
def linkShallowCard : Claim7 := { stood := { row := linkShallowRow, standIns := [], harness := (true, "c97cde244724dd329f2b399d2dac099d624c3212ddef85b562753614e98543dc"), looks := true }, kinds := [], alts := [], laidByText := true, laidKinds := [.data, .data, .data, .data, .sentinel, .sentinel, .pinned], laidTests := true, laidLooks := .later }
def LinkShallowCardSaid : Prop := Claim7.holds Tryz.pinned (.plain (OpenSpec.ofChange linkShallowSpec)) linkShallowCard

/-- THE SECOND FORM's CARD OF 'colporteurlaw15.LinkNone'. -/
def linkNoneUptoCard : Claim7 := { stood := { row := linkNoneUptoRow, standIns := [], harness := (true, "c97cde244724dd329f2b399d2dac099d624c3212ddef85b562753614e98543dc"), looks := true }, kinds := [], alts := [], laidByText := true, laidKinds := [.data, .data, .data, .data, .sentinel, .sentinel, .pinned], laidTests := true, laidLooks := .later }
def LinkNoneUptoCardSaid : Prop := Claim7.holds Tryz.pinned (.plain (OpenSpec.upto linkNoneSpec)) linkNoneUptoCard

/-- THE SECOND FORM's CARD OF 'colporteurlaw15.WalkDeep'. -/
def walkDeepUptoCard : Claim7 := { stood := { row := walkDeepUptoRow, standIns := [], harness := (true, "c97cde244724dd329f2b399d2dac099d624c3212ddef85b562753614e98543dc"), looks := true }, kinds := [], alts := [], laidByText := true, laidKinds := [.data, .data, .data, .data, .sentinel, .sentinel, .pinned], laidTests := true, laidLooks := .later }
def WalkDeepUptoCardSaid : Prop := Claim7.holds Tryz.pinned (.plain (OpenSpec.upto walkDeepSpec)) walkDeepUptoCard

/-- THE SECOND FORM's CARD OF 'colporteurlaw15.DepthChain'. -/
def depthChainUptoCard : Claim7 := { stood := { row := depthChainUptoRow, standIns := [], harness := (true, "c97cde244724dd329f2b399d2dac099d624c3212ddef85b562753614e98543dc"), looks := true }, kinds := [], alts := [], laidByText := true, laidKinds := [.data, .data, .data, .data, .sentinel, .sentinel, .pinned], laidTests := true, laidLooks := .later }
def DepthChainUptoCardSaid : Prop := Claim7.holds Tryz.pinned (.plain (OpenSpec.upto depthChainSpec)) depthChainUptoCard

/-- THE SECOND FORM's CARD OF 'colporteurlaw15.DepthTime'. -/
def depthTimeUptoCard : Claim7 := { stood := { row := depthTimeUptoRow, standIns := [], harness := (true, "c97cde244724dd329f2b399d2dac099d624c3212ddef85b562753614e98543dc"), looks := true }, kinds := [], alts := [], laidByText := true, laidKinds := [.data, .data, .data, .data, .sentinel, .sentinel, .pinned], laidTests := true, laidLooks := .later }
def DepthTimeUptoCardSaid : Prop := Claim7.holds Tryz.pinned (.plain (OpenSpec.upto depthTimeSpec)) depthTimeUptoCard

/-- THE SECOND FORM's CARD OF 'colporteurlaw15.DepthMerge'. -/
def depthMergeUptoCard : Claim7 := { stood := { row := depthMergeUptoRow, standIns := [], harness := (true, "c97cde244724dd329f2b399d2dac099d624c3212ddef85b562753614e98543dc"), looks := true }, kinds := [], alts := [], laidByText := true, laidKinds := [.data, .data, .data, .data, .sentinel, .sentinel, .pinned], laidTests := true, laidLooks := .later }
def DepthMergeUptoCardSaid : Prop := Claim7.holds Tryz.pinned (.plain (OpenSpec.upto depthMergeSpec)) depthMergeUptoCard

/-- THE SECOND FORM's CARD OF 'colporteurlaw15.FilterDepth'. -/
def filterDepthUptoCard : Claim7 := { stood := { row := filterDepthUptoRow, standIns := [], harness := (true, "c97cde244724dd329f2b399d2dac099d624c3212ddef85b562753614e98543dc"), looks := true }, kinds := [], alts := [], laidByText := true, laidKinds := [.data, .data, .data, .data, .sentinel, .sentinel, .pinned], laidTests := true, laidLooks := .later }
def FilterDepthUptoCardSaid : Prop := Claim7.holds Tryz.pinned (.plain (OpenSpec.upto filterDepthSpec)) filterDepthUptoCard

/-- THE SECOND FORM's CARD OF 'colporteurlaw15.FilterLimit'. -/
def filterLimitUptoCard : Claim7 := { stood := { row := filterLimitUptoRow, standIns := [], harness := (true, "c97cde244724dd329f2b399d2dac099d624c3212ddef85b562753614e98543dc"), looks := true }, kinds := [], alts := [], laidByText := true, laidKinds := [.data, .data, .data, .data, .sentinel, .sentinel, .pinned], laidTests := true, laidLooks := .later }
def FilterLimitUptoCardSaid : Prop := Claim7.holds Tryz.pinned (.plain (OpenSpec.upto filterLimitSpec)) filterLimitUptoCard

/-- THE SECOND FORM's CARD OF 'colporteurlaw15.LinkShallow'. -/
def linkShallowUptoCard : Claim7 := { stood := { row := linkShallowUptoRow, standIns := [], harness := (true, "c97cde244724dd329f2b399d2dac099d624c3212ddef85b562753614e98543dc"), looks := true }, kinds := [], alts := [], laidByText := true, laidKinds := [.data, .data, .data, .data, .sentinel, .sentinel, .pinned], laidTests := true, laidLooks := .later }
def LinkShallowUptoCardSaid : Prop := Claim7.holds Tryz.pinned (.plain (OpenSpec.upto linkShallowSpec)) linkShallowUptoCard
end Rows
end Go.Proofs.YtnnfledihhiaiaaGreatDoor
