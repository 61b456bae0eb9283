/- From the row of DiskMove to its tied card; on no condition. -/
import Derived.Test.YtffbpmmagoiooaaGreatDoorMoveFa
import Derived.Test.YtffbpmmagoiooaaGreatDoorMoveFb
import Derived.Test.YtffbpmmagoiooaaGreatDoorMoveFc
set_option linter.unusedVariables false
set_option linter.unusedSimpArgs false
set_option linter.unusedSectionVars false
namespace Go.Proofs.YtffbpmmagoiooaaGreatDoor
open Go Go.Proofs
theorem diskMoveAnd {a b : Bool} (ha : a = true) (hb : b = true) : (a && b) = true := by rw [ha, hb]; rfl
set_option maxRecDepth 1000000 in
theorem diskMoveJoined : joinedFacts Tryz.prog 4 Tryz.f4 Rows.diskMoveSpec Rows.diskMoveRow = true := by
  unfold joinedFacts
  exact (diskMoveAnd (diskMoveAnd (diskMoveAnd (diskMoveAnd (diskMoveAnd (diskMoveAnd (diskMoveAnd (diskMoveAnd (diskMoveAnd (diskMoveAnd (diskMoveAnd (diskMoveAnd (diskMoveAnd (diskMoveAnd (diskMoveAnd (diskMoveAnd (diskMoveAnd (diskMoveAnd (diskMoveAnd (diskMoveAnd (diskMoveAnd (diskMoveAnd (diskMoveAnd (diskMoveAnd (diskMoveAnd (diskMoveAnd (diskMoveAnd (diskMoveAnd (diskMoveAnd (diskMoveAnd (diskMoveAnd diskMoveF0 diskMoveF1) diskMoveF2) diskMoveF3) diskMoveF4) diskMoveF5) diskMoveF6) diskMoveF7) diskMoveF8) diskMoveF9) diskMoveF10) diskMoveF11) diskMoveF12) diskMoveF13) diskMoveF14) diskMoveF15) diskMoveF16) diskMoveF17) diskMoveF18) diskMoveF19) diskMoveF20) diskMoveF21) diskMoveF22) diskMoveF23) diskMoveF24) diskMoveF25) diskMoveF26) diskMoveF27) diskMoveF28) diskMoveF29) diskMoveF30) diskMoveF31)
theorem diskMove_row_of (h : ∀ os : Os, os.Started → ∀ (H : Type) (enc : TypeId × Value → H),
    ReturnsInHanded {} Tryz.checked os 4 .any (fun w args => (Rows.diskMoveSpec.pre enc Tryz.prog Tryz.f4 [] false w args ∧ laidMetH Tryz.prog Rows.diskMoveRow.laid w) ∧ sizedMet enc Tryz.prog Tryz.f4 (OpenSpec.ofChange Rows.diskMoveSpec) false w args)
      (Rows.diskMoveSpec.post enc Tryz.prog Tryz.f4 false true false false)) : Rows.DiskMoveSaid :=
  OpenClaim.holds_of_wide 4 Tryz.f4 rfl rfl rfl rfl rfl rfl rfl ⟨rfl, rfl, rfl, rfl, rfl⟩ rfl rfl rfl rfl rfl diskMoveNamed Tryz.func4 diskMoveJoined diskMoveInst diskMoveWrap
    (fun os started H enc _ => h os started H enc)
theorem diskMove_card_of (h : Rows.DiskMoveSaid) : Rows.DiskMoveCardSaid :=
  Claim7.holds_tied_plain_at .later [] [.data, .data, .data, .data, .sentinel, .sentinel, .pinned] true (true, "941112d6d7ebf3c542a979e7b3133ea79e64cab5cbd4c30bfb913d0226db9ebf") true
    h (fun _ h => by cases h) diskMoveByText (fun _ h => by cases h) diskMove_row_tie rfl ⟨rfl, rfl⟩ diskMoveMain rfl
    (fun f fn hf hfn => by
      obtain rfl : f = 4 := Option.some.inj (diskMoveNamed.symm.trans hf) |>.symm
      obtain rfl : fn = Tryz.f4 := (Option.some.inj (Tryz.func4.symm.trans hfn)).symm
      exact ⟨diskMoveLooks, fun j t ht => by
        rw [diskMoveParams] at ht
        have hm : t ∈ [9, 9, 32] := by simpa using Array.mem_of_getElem? ht
        exact (show Tryz.prog.wantsStandIn t = false by simpa using List.all_eq_true.1 diskMoveStand t hm)⟩)
    diskMoveGoes
end Go.Proofs.YtffbpmmagoiooaaGreatDoor
