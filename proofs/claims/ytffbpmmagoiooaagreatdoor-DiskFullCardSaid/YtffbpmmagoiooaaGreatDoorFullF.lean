/- From the row of DiskFull to its tied card; on no condition. -/
import Derived.Test.YtffbpmmagoiooaaGreatDoorFullFa
import Derived.Test.YtffbpmmagoiooaaGreatDoorFullFb
import Derived.Test.YtffbpmmagoiooaaGreatDoorFullFc
set_option linter.unusedVariables false
set_option linter.unusedSimpArgs false
namespace Go.Proofs.YtffbpmmagoiooaaGreatDoor
open Go Go.Proofs
theorem diskFullAnd {a b : Bool} (ha : a = true) (hb : b = true) : (a && b) = true := by rw [ha, hb]; rfl
set_option maxRecDepth 1000000 in
theorem diskFullJoined : joinedFacts Tryz.prog 3 Tryz.f3 Rows.diskFullSpec Rows.diskFullRow = true := by
  unfold joinedFacts
  exact (diskFullAnd (diskFullAnd (diskFullAnd (diskFullAnd (diskFullAnd (diskFullAnd (diskFullAnd (diskFullAnd (diskFullAnd (diskFullAnd (diskFullAnd (diskFullAnd (diskFullAnd (diskFullAnd (diskFullAnd (diskFullAnd (diskFullAnd (diskFullAnd (diskFullAnd (diskFullAnd (diskFullAnd (diskFullAnd (diskFullAnd (diskFullAnd (diskFullAnd (diskFullAnd (diskFullAnd (diskFullAnd (diskFullAnd (diskFullAnd (diskFullAnd diskFullF0 diskFullF1) diskFullF2) diskFullF3) diskFullF4) diskFullF5) diskFullF6) diskFullF7) diskFullF8) diskFullF9) diskFullF10) diskFullF11) diskFullF12) diskFullF13) diskFullF14) diskFullF15) diskFullF16) diskFullF17) diskFullF18) diskFullF19) diskFullF20) diskFullF21) diskFullF22) diskFullF23) diskFullF24) diskFullF25) diskFullF26) diskFullF27) diskFullF28) diskFullF29) diskFullF30) diskFullF31)
theorem diskFull_row_of (h : ∀ os : Os, os.Started → ∀ (H : Type) (enc : TypeId × Value → H),
    ReturnsInHanded {} Tryz.checked os 3 .any (fun w args => (Rows.diskFullSpec.pre enc Tryz.prog Tryz.f3 [] false w args ∧ laidMetH Tryz.prog Rows.diskFullRow.laid w) ∧ sizedMet enc Tryz.prog Tryz.f3 (OpenSpec.ofChange Rows.diskFullSpec) false w args)
      (Rows.diskFullSpec.post enc Tryz.prog Tryz.f3 false true false false)) : Rows.DiskFullSaid :=
  OpenClaim.holds_of_wide 3 Tryz.f3 rfl rfl rfl rfl rfl rfl rfl ⟨rfl, rfl, rfl, rfl, rfl⟩ rfl rfl rfl rfl rfl diskFullNamed Tryz.func3 diskFullJoined diskFullInst diskFullWrap
    (fun os started H enc _ => h os started H enc)
theorem diskFull_card_of (h : Rows.DiskFullSaid) : Rows.DiskFullCardSaid :=
  Claim7.holds_tied_plain_at .later [] [.data, .data, .data, .data, .sentinel, .sentinel, .pinned] true (true, "941112d6d7ebf3c542a979e7b3133ea79e64cab5cbd4c30bfb913d0226db9ebf") true
    h (fun _ h => by cases h) diskFullByText (fun _ h => by cases h) diskFull_row_tie rfl ⟨rfl, rfl⟩ diskFullMain rfl
    (fun f fn hf hfn => by
      obtain rfl : f = 3 := Option.some.inj (diskFullNamed.symm.trans hf) |>.symm
      obtain rfl : fn = Tryz.f3 := (Option.some.inj (Tryz.func3.symm.trans hfn)).symm
      exact ⟨diskFullLooks, fun j t ht => by
        rw [diskFullParams] at ht
        have hm : t ∈ [3] := by simpa using Array.mem_of_getElem? ht
        exact (show Tryz.prog.wantsStandIn t = false by simpa using List.all_eq_true.1 diskFullStand t hm)⟩)
    diskFullGoes
end Go.Proofs.YtffbpmmagoiooaaGreatDoor
