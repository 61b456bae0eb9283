/- From the row of WalkDeep to its tied card; on no condition. -/
import Derived.Test.YtnnfledihhiaiaaGreatDoorWdFa
import Derived.Test.YtnnfledihhiaiaaGreatDoorWdFb
import Derived.Test.YtnnfledihhiaiaaGreatDoorWdFc
set_option linter.unusedVariables false
set_option linter.unusedSimpArgs false
set_option linter.unusedSectionVars false
namespace Go.Proofs.YtnnfledihhiaiaaGreatDoor
open Go Go.Proofs
theorem walkDeepAnd {a b : Bool} (ha : a = true) (hb : b = true) : (a && b) = true := by rw [ha, hb]; rfl
set_option maxRecDepth 1000000 in
theorem walkDeepJoined : joinedFacts Tryz.prog 4 Tryz.f4 Rows.walkDeepSpec Rows.walkDeepRow = true := by
  unfold joinedFacts
  exact (walkDeepAnd (walkDeepAnd (walkDeepAnd (walkDeepAnd (walkDeepAnd (walkDeepAnd (walkDeepAnd (walkDeepAnd (walkDeepAnd (walkDeepAnd (walkDeepAnd (walkDeepAnd (walkDeepAnd (walkDeepAnd (walkDeepAnd (walkDeepAnd (walkDeepAnd (walkDeepAnd (walkDeepAnd (walkDeepAnd (walkDeepAnd (walkDeepAnd (walkDeepAnd (walkDeepAnd (walkDeepAnd (walkDeepAnd (walkDeepAnd (walkDeepAnd (walkDeepAnd (walkDeepAnd (walkDeepAnd walkDeepF0 walkDeepF1) walkDeepF2) walkDeepF3) walkDeepF4) walkDeepF5) walkDeepF6) walkDeepF7) walkDeepF8) walkDeepF9) walkDeepF10) walkDeepF11) walkDeepF12) walkDeepF13) walkDeepF14) walkDeepF15) walkDeepF16) walkDeepF17) walkDeepF18) walkDeepF19) walkDeepF20) walkDeepF21) walkDeepF22) walkDeepF23) walkDeepF24) walkDeepF25) walkDeepF26) walkDeepF27) walkDeepF28) walkDeepF29) walkDeepF30) walkDeepF31)
theorem walkDeep_row_of (h : ∀ os : Os, os.Started → ∀ (H : Type) (enc : TypeId × Value → H),
    ReturnsInHanded {} Tryz.checked os 4 .any (fun w args => (Rows.walkDeepSpec.pre enc Tryz.prog Tryz.f4 [] false w args ∧ laidMetH Tryz.prog Rows.walkDeepRow.laid w) ∧ sizedMet enc Tryz.prog Tryz.f4 (OpenSpec.ofChange Rows.walkDeepSpec) false w args)
      (Rows.walkDeepSpec.post enc Tryz.prog Tryz.f4 false true false false)) : Rows.WalkDeepSaid :=
  OpenClaim.holds_of_wide 4 Tryz.f4 rfl rfl rfl rfl rfl rfl rfl ⟨rfl, rfl, rfl, rfl, rfl⟩ rfl rfl rfl rfl rfl walkDeepNamed Tryz.func4 walkDeepJoined walkDeepInst walkDeepWrap
    (fun os started H enc _ => h os started H enc)
theorem walkDeep_card_of (h : Rows.WalkDeepSaid) : Rows.WalkDeepCardSaid :=
  Claim7.holds_tied_plain_at .later [] [.data, .data, .data, .data, .sentinel, .sentinel, .pinned] true (true, "c97cde244724dd329f2b399d2dac099d624c3212ddef85b562753614e98543dc") true
    h (fun _ h => by cases h) walkDeepByText (fun _ h => by cases h) walkDeep_row_tie rfl ⟨rfl, rfl⟩ walkDeepMain rfl
    (fun f fn hf hfn => by
      obtain rfl : f = 4 := Option.some.inj (walkDeepNamed.symm.trans hf) |>.symm
      obtain rfl : fn = Tryz.f4 := (Option.some.inj (Tryz.func4.symm.trans hfn)).symm
      exact ⟨walkDeepLooks, fun j t ht => by
        rw [walkDeepParams] at ht
        have hm : t ∈ [3] := by simpa using Array.mem_of_getElem? ht
        exact (show Tryz.prog.wantsStandIn t = false by simpa using List.all_eq_true.1 walkDeepStand t hm)⟩)
    walkDeepGoes
end Go.Proofs.YtnnfledihhiaiaaGreatDoor
