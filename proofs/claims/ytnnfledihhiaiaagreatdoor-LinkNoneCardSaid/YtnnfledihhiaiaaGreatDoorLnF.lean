/- From the row of LinkNone to its tied card; on no condition. -/
import Derived.Test.YtnnfledihhiaiaaGreatDoorLnFa
import Derived.Test.YtnnfledihhiaiaaGreatDoorLnFb
import Derived.Test.YtnnfledihhiaiaaGreatDoorLnFc
set_option linter.unusedVariables false
set_option linter.unusedSimpArgs false
set_option linter.unusedSectionVars false
namespace Go.Proofs.YtnnfledihhiaiaaGreatDoor
open Go Go.Proofs
theorem linkNoneAnd {a b : Bool} (ha : a = true) (hb : b = true) : (a && b) = true := by rw [ha, hb]; rfl
set_option maxRecDepth 1000000 in
theorem linkNoneJoined : joinedFacts Tryz.prog 3 Tryz.f3 Rows.linkNoneSpec Rows.linkNoneRow = true := by
  unfold joinedFacts
  exact (linkNoneAnd (linkNoneAnd (linkNoneAnd (linkNoneAnd (linkNoneAnd (linkNoneAnd (linkNoneAnd (linkNoneAnd (linkNoneAnd (linkNoneAnd (linkNoneAnd (linkNoneAnd (linkNoneAnd (linkNoneAnd (linkNoneAnd (linkNoneAnd (linkNoneAnd (linkNoneAnd (linkNoneAnd (linkNoneAnd (linkNoneAnd (linkNoneAnd (linkNoneAnd (linkNoneAnd (linkNoneAnd (linkNoneAnd (linkNoneAnd (linkNoneAnd (linkNoneAnd (linkNoneAnd (linkNoneAnd linkNoneF0 linkNoneF1) linkNoneF2) linkNoneF3) linkNoneF4) linkNoneF5) linkNoneF6) linkNoneF7) linkNoneF8) linkNoneF9) linkNoneF10) linkNoneF11) linkNoneF12) linkNoneF13) linkNoneF14) linkNoneF15) linkNoneF16) linkNoneF17) linkNoneF18) linkNoneF19) linkNoneF20) linkNoneF21) linkNoneF22) linkNoneF23) linkNoneF24) linkNoneF25) linkNoneF26) linkNoneF27) linkNoneF28) linkNoneF29) linkNoneF30) linkNoneF31)
theorem linkNone_row_of (h : ∀ os : Os, os.Started → ∀ (H : Type) (enc : TypeId × Value → H),
    ReturnsInHanded {} Tryz.checked os 3 .any (fun w args => (Rows.linkNoneSpec.pre enc Tryz.prog Tryz.f3 [] false w args ∧ laidMetH Tryz.prog Rows.linkNoneRow.laid w) ∧ sizedMet enc Tryz.prog Tryz.f3 (OpenSpec.ofChange Rows.linkNoneSpec) false w args)
      (Rows.linkNoneSpec.post enc Tryz.prog Tryz.f3 false true false false)) : Rows.LinkNoneSaid :=
  OpenClaim.holds_of_wide 3 Tryz.f3 rfl rfl rfl rfl rfl rfl rfl ⟨rfl, rfl, rfl, rfl, rfl⟩ rfl rfl rfl rfl rfl linkNoneNamed Tryz.func3 linkNoneJoined linkNoneInst linkNoneWrap
    (fun os started H enc _ => h os started H enc)
theorem linkNone_card_of (h : Rows.LinkNoneSaid) : Rows.LinkNoneCardSaid :=
  Claim7.holds_tied_plain_at .later [] [.data, .data, .data, .data, .sentinel, .sentinel, .pinned] true (true, "c97cde244724dd329f2b399d2dac099d624c3212ddef85b562753614e98543dc") true
    h (fun _ h => by cases h) linkNoneByText (fun _ h => by cases h) linkNone_row_tie rfl ⟨rfl, rfl⟩ linkNoneMain rfl
    (fun f fn hf hfn => by
      obtain rfl : f = 3 := Option.some.inj (linkNoneNamed.symm.trans hf) |>.symm
      obtain rfl : fn = Tryz.f3 := (Option.some.inj (Tryz.func3.symm.trans hfn)).symm
      exact ⟨linkNoneLooks, fun j t ht => by
        rw [linkNoneParams] at ht
        have hm : t ∈ [] := by simpa using Array.mem_of_getElem? ht
        exact (show Tryz.prog.wantsStandIn t = false by simpa using List.all_eq_true.1 linkNoneStand t hm)⟩)
    linkNoneGoes
end Go.Proofs.YtnnfledihhiaiaaGreatDoor
