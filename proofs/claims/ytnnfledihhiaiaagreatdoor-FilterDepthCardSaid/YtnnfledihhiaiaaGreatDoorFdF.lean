/- From the row of FilterDepth to its tied card; on no condition. -/
import Derived.Test.YtnnfledihhiaiaaGreatDoorFdFa
import Derived.Test.YtnnfledihhiaiaaGreatDoorFdFb
import Derived.Test.YtnnfledihhiaiaaGreatDoorFdFc
set_option linter.unusedVariables false
set_option linter.unusedSimpArgs false
set_option linter.unusedSectionVars false
namespace Go.Proofs.YtnnfledihhiaiaaGreatDoor
open Go Go.Proofs
theorem filterDepthAnd {a b : Bool} (ha : a = true) (hb : b = true) : (a && b) = true := by rw [ha, hb]; rfl
set_option maxRecDepth 1000000 in
theorem filterDepthJoined : joinedFacts Tryz.prog 8 Tryz.f8 Rows.filterDepthSpec Rows.filterDepthRow = true := by
  unfold joinedFacts
  exact (filterDepthAnd (filterDepthAnd (filterDepthAnd (filterDepthAnd (filterDepthAnd (filterDepthAnd (filterDepthAnd (filterDepthAnd (filterDepthAnd (filterDepthAnd (filterDepthAnd (filterDepthAnd (filterDepthAnd (filterDepthAnd (filterDepthAnd (filterDepthAnd (filterDepthAnd (filterDepthAnd (filterDepthAnd (filterDepthAnd (filterDepthAnd (filterDepthAnd (filterDepthAnd (filterDepthAnd (filterDepthAnd (filterDepthAnd (filterDepthAnd (filterDepthAnd (filterDepthAnd (filterDepthAnd (filterDepthAnd filterDepthF0 filterDepthF1) filterDepthF2) filterDepthF3) filterDepthF4) filterDepthF5) filterDepthF6) filterDepthF7) filterDepthF8) filterDepthF9) filterDepthF10) filterDepthF11) filterDepthF12) filterDepthF13) filterDepthF14) filterDepthF15) filterDepthF16) filterDepthF17) filterDepthF18) filterDepthF19) filterDepthF20) filterDepthF21) filterDepthF22) filterDepthF23) filterDepthF24) filterDepthF25) filterDepthF26) filterDepthF27) filterDepthF28) filterDepthF29) filterDepthF30) filterDepthF31)
theorem filterDepth_row_of (h : ∀ os : Os, os.Started → ∀ (H : Type) (enc : TypeId × Value → H),
    ReturnsInHanded {} Tryz.checked os 8 .any (fun w args => (Rows.filterDepthSpec.pre enc Tryz.prog Tryz.f8 [] false w args ∧ laidMetH Tryz.prog Rows.filterDepthRow.laid w) ∧ sizedMet enc Tryz.prog Tryz.f8 (OpenSpec.ofChange Rows.filterDepthSpec) false w args)
      (Rows.filterDepthSpec.post enc Tryz.prog Tryz.f8 false true false false)) : Rows.FilterDepthSaid :=
  OpenClaim.holds_of_wide 8 Tryz.f8 rfl rfl rfl rfl rfl rfl rfl ⟨rfl, rfl, rfl, rfl, rfl⟩ rfl rfl rfl rfl rfl filterDepthNamed Tryz.func8 filterDepthJoined filterDepthInst filterDepthWrap
    (fun os started H enc _ => h os started H enc)
theorem filterDepth_card_of (h : Rows.FilterDepthSaid) : Rows.FilterDepthCardSaid :=
  Claim7.holds_tied_plain_at .later [] [.data, .data, .data, .data, .sentinel, .sentinel, .pinned] true (true, "c97cde244724dd329f2b399d2dac099d624c3212ddef85b562753614e98543dc") true
    h (fun _ h => by cases h) filterDepthByText (fun _ h => by cases h) filterDepth_row_tie rfl ⟨rfl, rfl⟩ filterDepthMain rfl
    (fun f fn hf hfn => by
      obtain rfl : f = 8 := Option.some.inj (filterDepthNamed.symm.trans hf) |>.symm
      obtain rfl : fn = Tryz.f8 := (Option.some.inj (Tryz.func8.symm.trans hfn)).symm
      exact ⟨filterDepthLooks, fun j t ht => by
        rw [filterDepthParams] at ht
        have hm : t ∈ [3, 3] := by simpa using Array.mem_of_getElem? ht
        exact (show Tryz.prog.wantsStandIn t = false by simpa using List.all_eq_true.1 filterDepthStand t hm)⟩)
    filterDepthGoes
end Go.Proofs.YtnnfledihhiaiaaGreatDoor
