/- From the row of DepthTime to its tied card; on no condition. -/
import Derived.Test.YtnnfledihhiaiaaGreatDoorDtFa
import Derived.Test.YtnnfledihhiaiaaGreatDoorDtFb
import Derived.Test.YtnnfledihhiaiaaGreatDoorDtFc
set_option linter.unusedVariables false
set_option linter.unusedSimpArgs false
set_option linter.unusedSectionVars false
namespace Go.Proofs.YtnnfledihhiaiaaGreatDoor
open Go Go.Proofs
theorem depthTimeAnd {a b : Bool} (ha : a = true) (hb : b = true) : (a && b) = true := by rw [ha, hb]; rfl
set_option maxRecDepth 1000000 in
theorem depthTimeJoined : joinedFacts Tryz.prog 6 Tryz.f6 Rows.depthTimeSpec Rows.depthTimeRow = true := by
  unfold joinedFacts
  exact (depthTimeAnd (depthTimeAnd (depthTimeAnd (depthTimeAnd (depthTimeAnd (depthTimeAnd (depthTimeAnd (depthTimeAnd (depthTimeAnd (depthTimeAnd (depthTimeAnd (depthTimeAnd (depthTimeAnd (depthTimeAnd (depthTimeAnd (depthTimeAnd (depthTimeAnd (depthTimeAnd (depthTimeAnd (depthTimeAnd (depthTimeAnd (depthTimeAnd (depthTimeAnd (depthTimeAnd (depthTimeAnd (depthTimeAnd (depthTimeAnd (depthTimeAnd (depthTimeAnd (depthTimeAnd (depthTimeAnd depthTimeF0 depthTimeF1) depthTimeF2) depthTimeF3) depthTimeF4) depthTimeF5) depthTimeF6) depthTimeF7) depthTimeF8) depthTimeF9) depthTimeF10) depthTimeF11) depthTimeF12) depthTimeF13) depthTimeF14) depthTimeF15) depthTimeF16) depthTimeF17) depthTimeF18) depthTimeF19) depthTimeF20) depthTimeF21) depthTimeF22) depthTimeF23) depthTimeF24) depthTimeF25) depthTimeF26) depthTimeF27) depthTimeF28) depthTimeF29) depthTimeF30) depthTimeF31)
theorem depthTime_row_of (h : ∀ os : Os, os.Started → ∀ (H : Type) (enc : TypeId × Value → H),
    ReturnsInHanded {} Tryz.checked os 6 .any (fun w args => (Rows.depthTimeSpec.pre enc Tryz.prog Tryz.f6 [] false w args ∧ laidMetH Tryz.prog Rows.depthTimeRow.laid w) ∧ sizedMet enc Tryz.prog Tryz.f6 (OpenSpec.ofChange Rows.depthTimeSpec) false w args)
      (Rows.depthTimeSpec.post enc Tryz.prog Tryz.f6 false true false false)) : Rows.DepthTimeSaid :=
  OpenClaim.holds_of_wide 6 Tryz.f6 rfl rfl rfl rfl rfl rfl rfl ⟨rfl, rfl, rfl, rfl, rfl⟩ rfl rfl rfl rfl rfl depthTimeNamed Tryz.func6 depthTimeJoined depthTimeInst depthTimeWrap
    (fun os started H enc _ => h os started H enc)
theorem depthTime_card_of (h : Rows.DepthTimeSaid) : Rows.DepthTimeCardSaid :=
  Claim7.holds_tied_plain_at .later [] [.data, .data, .data, .data, .sentinel, .sentinel, .pinned] true (true, "c97cde244724dd329f2b399d2dac099d624c3212ddef85b562753614e98543dc") true
    h (fun _ h => by cases h) depthTimeByText (fun _ h => by cases h) depthTime_row_tie rfl ⟨rfl, rfl⟩ depthTimeMain rfl
    (fun f fn hf hfn => by
      obtain rfl : f = 6 := Option.some.inj (depthTimeNamed.symm.trans hf) |>.symm
      obtain rfl : fn = Tryz.f6 := (Option.some.inj (Tryz.func6.symm.trans hfn)).symm
      exact ⟨depthTimeLooks, fun j t ht => by
        rw [depthTimeParams] at ht
        have hm : t ∈ [3, 27] := by simpa using Array.mem_of_getElem? ht
        exact (show Tryz.prog.wantsStandIn t = false by simpa using List.all_eq_true.1 depthTimeStand t hm)⟩)
    depthTimeGoes
end Go.Proofs.YtnnfledihhiaiaaGreatDoor
