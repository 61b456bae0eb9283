/- Closed facts of the row, joined; on no condition. -/
import Derived.Test.YtiikdbnblacbhaaGreatDoorMnFa
import Derived.Test.YtiikdbnblacbhaaGreatDoorMnFb
import Derived.Test.YtiikdbnblacbhaaGreatDoorMnFc
set_option linter.unusedVariables false
set_option linter.unusedSimpArgs false
set_option linter.unusedSectionVars false
namespace Go.Proofs.YtiikdbnblacbhaaGreatDoor
open Go Go.Proofs
theorem storeManyAnd {a b : Bool} (ha : a = true) (hb : b = true) : (a && b) = true := by rw [ha, hb]; rfl
set_option maxRecDepth 1000000 in
theorem storeManyJoined : joinedFacts Tryz.prog 5 Tryz.f5 Rows.storeManySpec Rows.storeManyRow = true := by
  unfold joinedFacts
  exact (storeManyAnd (storeManyAnd (storeManyAnd (storeManyAnd (storeManyAnd (storeManyAnd (storeManyAnd (storeManyAnd (storeManyAnd (storeManyAnd (storeManyAnd (storeManyAnd (storeManyAnd (storeManyAnd (storeManyAnd (storeManyAnd (storeManyAnd (storeManyAnd (storeManyAnd (storeManyAnd (storeManyAnd (storeManyAnd (storeManyAnd (storeManyAnd (storeManyAnd (storeManyAnd (storeManyAnd (storeManyAnd (storeManyAnd (storeManyAnd (storeManyAnd storeManyF0 storeManyF1) storeManyF2) storeManyF3) storeManyF4) storeManyF5) storeManyF6) storeManyF7) storeManyF8) storeManyF9) storeManyF10) storeManyF11) storeManyF12) storeManyF13) storeManyF14) storeManyF15) storeManyF16) storeManyF17) storeManyF18) storeManyF19) storeManyF20) storeManyF21) storeManyF22) storeManyF23) storeManyF24) storeManyF25) storeManyF26) storeManyF27) storeManyF28) storeManyF29) storeManyF30) storeManyF31)
theorem storeMany_row_of (h : ∀ os : Os, os.Started → ∀ (H : Type) (enc : TypeId × Value → H),
    ReturnsInHanded {} Tryz.checked os 5 .any (fun w args => (Rows.storeManySpec.pre enc Tryz.prog Tryz.f5 [] false w args ∧ laidMetH Tryz.prog Rows.storeManyRow.laid w) ∧ sizedMet enc Tryz.prog Tryz.f5 (OpenSpec.ofChange Rows.storeManySpec) false w args)
      (Rows.storeManySpec.post enc Tryz.prog Tryz.f5 false true false false)) : Rows.StoreManySaid :=
  OpenClaim.holds_of_wide 5 Tryz.f5 rfl rfl rfl rfl rfl rfl rfl ⟨rfl, rfl, rfl, rfl, rfl⟩ rfl rfl rfl rfl rfl storeManyNamed Tryz.func5 storeManyJoined storeManyInst storeManyWrap
    (fun os started H enc _ => h os started H enc)
theorem storeMany_card_of (h : Rows.StoreManySaid) : Rows.StoreManyCardSaid :=
  Claim7.holds_tied_plain_at .later [] [.data, .data, .data, .data, .sentinel, .sentinel, .pinned] true (true, "8254acd3c2aac087ad5703f659930b532e9eb6a40387222cfde0cc108e52f180") true
    h (fun _ h => by cases h) storeManyByText (fun _ h => by cases h) storeMany_row_tie rfl ⟨rfl, rfl⟩ storeManyMain rfl
    (fun f fn hf hfn => by
      obtain rfl : f = 5 := Option.some.inj (storeManyNamed.symm.trans hf) |>.symm
      obtain rfl : fn = Tryz.f5 := (Option.some.inj (Tryz.func5.symm.trans hfn)).symm
      exact ⟨storeManyLooks, fun j t ht => by
        rw [storeManyParams] at ht
        have hm : t ∈ [3, 4] := by simpa using Array.mem_of_getElem? ht
        exact (show Tryz.prog.wantsStandIn t = false by simpa using List.all_eq_true.1 storeManyStand t hm)⟩)
    storeManyGoes
end Go.Proofs.YtiikdbnblacbhaaGreatDoor
