/- From the row of DepthChain to its tied card; on no condition. -/
import Derived.Test.YtnnfledihhiaiaaGreatDoorDcFa
import Derived.Test.YtnnfledihhiaiaaGreatDoorDcFb
import Derived.Test.YtnnfledihhiaiaaGreatDoorDcFc
set_option linter.unusedVariables false
set_option linter.unusedSimpArgs false
set_option linter.unusedSectionVars false
namespace Go.Proofs.YtnnfledihhiaiaaGreatDoor
open Go Go.Proofs
theorem depthChainAnd {a b : Bool} (ha : a = true) (hb : b = true) : (a && b) = true := by rw [ha, hb]; rfl
set_option maxRecDepth 1000000 in
theorem depthChainJoined : joinedFacts Tryz.prog 5 Tryz.f5 Rows.depthChainSpec Rows.depthChainRow = true := by
  unfold joinedFacts
  exact (depthChainAnd (depthChainAnd (depthChainAnd (depthChainAnd (depthChainAnd (depthChainAnd (depthChainAnd (depthChainAnd (depthChainAnd (depthChainAnd (depthChainAnd (depthChainAnd (depthChainAnd (depthChainAnd (depthChainAnd (depthChainAnd (depthChainAnd (depthChainAnd (depthChainAnd (depthChainAnd (depthChainAnd (depthChainAnd (depthChainAnd (depthChainAnd (depthChainAnd (depthChainAnd (depthChainAnd (depthChainAnd (depthChainAnd (depthChainAnd (depthChainAnd depthChainF0 depthChainF1) depthChainF2) depthChainF3) depthChainF4) depthChainF5) depthChainF6) depthChainF7) depthChainF8) depthChainF9) depthChainF10) depthChainF11) depthChainF12) depthChainF13) depthChainF14) depthChainF15) depthChainF16) depthChainF17) depthChainF18) depthChainF19) depthChainF20) depthChainF21) depthChainF22) depthChainF23) depthChainF24) depthChainF25) depthChainF26) depthChainF27) depthChainF28) depthChainF29) depthChainF30) depthChainF31)
theorem depthChain_row_of (h : ∀ os : Os, os.Started → ∀ (H : Type) (enc : TypeId × Value → H),
    ReturnsInHanded {} Tryz.checked os 5 .any (fun w args => (Rows.depthChainSpec.pre enc Tryz.prog Tryz.f5 [] false w args ∧ laidMetH Tryz.prog Rows.depthChainRow.laid w) ∧ sizedMet enc Tryz.prog Tryz.f5 (OpenSpec.ofChange Rows.depthChainSpec) false w args)
      (Rows.depthChainSpec.post enc Tryz.prog Tryz.f5 false true false false)) : Rows.DepthChainSaid :=
  OpenClaim.holds_of_wide 5 Tryz.f5 rfl rfl rfl rfl rfl rfl rfl ⟨rfl, rfl, rfl, rfl, rfl⟩ rfl rfl rfl rfl rfl depthChainNamed Tryz.func5 depthChainJoined depthChainInst depthChainWrap
    (fun os started H enc _ => h os started H enc)
theorem depthChain_card_of (h : Rows.DepthChainSaid) : Rows.DepthChainCardSaid :=
  Claim7.holds_tied_plain_at .later [] [.data, .data, .data, .data, .sentinel, .sentinel, .pinned] true (true, "c97cde244724dd329f2b399d2dac099d624c3212ddef85b562753614e98543dc") true
    h (fun _ h => by cases h) depthChainByText (fun _ h => by cases h) depthChain_row_tie rfl ⟨rfl, rfl⟩ depthChainMain rfl
    (fun f fn hf hfn => by
      obtain rfl : f = 5 := Option.some.inj (depthChainNamed.symm.trans hf) |>.symm
      obtain rfl : fn = Tryz.f5 := (Option.some.inj (Tryz.func5.symm.trans hfn)).symm
      exact ⟨depthChainLooks, fun j t ht => by
        rw [depthChainParams] at ht
        have hm : t ∈ [3, 3] := by simpa using Array.mem_of_getElem? ht
        exact (show Tryz.prog.wantsStandIn t = false by simpa using List.all_eq_true.1 depthChainStand t hm)⟩)
    depthChainGoes
end Go.Proofs.YtnnfledihhiaiaaGreatDoor
