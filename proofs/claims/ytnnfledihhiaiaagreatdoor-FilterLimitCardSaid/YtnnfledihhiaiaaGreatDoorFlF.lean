/- From the row of FilterLimit to its tied card; on no condition. -/
import Derived.Test.YtnnfledihhiaiaaGreatDoorFlFa
import Derived.Test.YtnnfledihhiaiaaGreatDoorFlFb
import Derived.Test.YtnnfledihhiaiaaGreatDoorFlFc
set_option linter.unusedVariables false
set_option linter.unusedSimpArgs false
set_option linter.unusedSectionVars false
namespace Go.Proofs.YtnnfledihhiaiaaGreatDoor
open Go Go.Proofs
theorem filterLimitAnd {a b : Bool} (ha : a = true) (hb : b = true) : (a && b) = true := by rw [ha, hb]; rfl
set_option maxRecDepth 1000000 in
theorem filterLimitJoined : joinedFacts Tryz.prog 9 Tryz.f9 Rows.filterLimitSpec Rows.filterLimitRow = true := by
  unfold joinedFacts
  exact (filterLimitAnd (filterLimitAnd (filterLimitAnd (filterLimitAnd (filterLimitAnd (filterLimitAnd (filterLimitAnd (filterLimitAnd (filterLimitAnd (filterLimitAnd (filterLimitAnd (filterLimitAnd (filterLimitAnd (filterLimitAnd (filterLimitAnd (filterLimitAnd (filterLimitAnd (filterLimitAnd (filterLimitAnd (filterLimitAnd (filterLimitAnd (filterLimitAnd (filterLimitAnd (filterLimitAnd (filterLimitAnd (filterLimitAnd (filterLimitAnd (filterLimitAnd (filterLimitAnd (filterLimitAnd (filterLimitAnd filterLimitF0 filterLimitF1) filterLimitF2) filterLimitF3) filterLimitF4) filterLimitF5) filterLimitF6) filterLimitF7) filterLimitF8) filterLimitF9) filterLimitF10) filterLimitF11) filterLimitF12) filterLimitF13) filterLimitF14) filterLimitF15) filterLimitF16) filterLimitF17) filterLimitF18) filterLimitF19) filterLimitF20) filterLimitF21) filterLimitF22) filterLimitF23) filterLimitF24) filterLimitF25) filterLimitF26) filterLimitF27) filterLimitF28) filterLimitF29) filterLimitF30) filterLimitF31)
theorem filterLimit_row_of (h : ∀ os : Os, os.Started → ∀ (H : Type) (enc : TypeId × Value → H),
    ReturnsInHanded {} Tryz.checked os 9 .any (fun w args => (Rows.filterLimitSpec.pre enc Tryz.prog Tryz.f9 [] false w args ∧ laidMetH Tryz.prog Rows.filterLimitRow.laid w) ∧ sizedMet enc Tryz.prog Tryz.f9 (OpenSpec.ofChange Rows.filterLimitSpec) false w args)
      (Rows.filterLimitSpec.post enc Tryz.prog Tryz.f9 false true false false)) : Rows.FilterLimitSaid :=
  OpenClaim.holds_of_wide 9 Tryz.f9 rfl rfl rfl rfl rfl rfl rfl ⟨rfl, rfl, rfl, rfl, rfl⟩ rfl rfl rfl rfl rfl filterLimitNamed Tryz.func9 filterLimitJoined filterLimitInst filterLimitWrap
    (fun os started H enc _ => h os started H enc)
theorem filterLimit_card_of (h : Rows.FilterLimitSaid) : Rows.FilterLimitCardSaid :=
  Claim7.holds_tied_plain_at .later [] [.data, .data, .data, .data, .sentinel, .sentinel, .pinned] true (true, "c97cde244724dd329f2b399d2dac099d624c3212ddef85b562753614e98543dc") true
    h (fun _ h => by cases h) filterLimitByText (fun _ h => by cases h) filterLimit_row_tie rfl ⟨rfl, rfl⟩ filterLimitMain rfl
    (fun f fn hf hfn => by
      obtain rfl : f = 9 := Option.some.inj (filterLimitNamed.symm.trans hf) |>.symm
      obtain rfl : fn = Tryz.f9 := (Option.some.inj (Tryz.func9.symm.trans hfn)).symm
      exact ⟨filterLimitLooks, fun j t ht => by
        rw [filterLimitParams] at ht
        have hm : t ∈ [3, 3, 4] := by simpa using Array.mem_of_getElem? ht
        exact (show Tryz.prog.wantsStandIn t = false by simpa using List.all_eq_true.1 filterLimitStand t hm)⟩)
    filterLimitGoes
end Go.Proofs.YtnnfledihhiaiaaGreatDoor
