/- From the row of LinkShallow to its tied card; on no condition. -/
import Derived.Test.YtnnfledihhiaiaaGreatDoorZLsFa
import Derived.Test.YtnnfledihhiaiaaGreatDoorZLsFb
import Derived.Test.YtnnfledihhiaiaaGreatDoorZLsFc
set_option linter.unusedVariables false
set_option linter.unusedSimpArgs false
set_option linter.unusedSectionVars false
namespace Go.Proofs.YtnnfledihhiaiaaGreatDoor
open Go Go.Proofs
theorem linkShallowAnd {a b : Bool} (ha : a = true) (hb : b = true) : (a && b) = true := by rw [ha, hb]; rfl
set_option maxRecDepth 1000000 in
theorem linkShallowJoined : joinedFacts Tryz.prog 10 Tryz.f10 Rows.linkShallowSpec Rows.linkShallowRow = true := by
  unfold joinedFacts
  exact (linkShallowAnd (linkShallowAnd (linkShallowAnd (linkShallowAnd (linkShallowAnd (linkShallowAnd (linkShallowAnd (linkShallowAnd (linkShallowAnd (linkShallowAnd (linkShallowAnd (linkShallowAnd (linkShallowAnd (linkShallowAnd (linkShallowAnd (linkShallowAnd (linkShallowAnd (linkShallowAnd (linkShallowAnd (linkShallowAnd (linkShallowAnd (linkShallowAnd (linkShallowAnd (linkShallowAnd (linkShallowAnd (linkShallowAnd (linkShallowAnd (linkShallowAnd (linkShallowAnd (linkShallowAnd (linkShallowAnd linkShallowF0 linkShallowF1) linkShallowF2) linkShallowF3) linkShallowF4) linkShallowF5) linkShallowF6) linkShallowF7) linkShallowF8) linkShallowF9) linkShallowF10) linkShallowF11) linkShallowF12) linkShallowF13) linkShallowF14) linkShallowF15) linkShallowF16) linkShallowF17) linkShallowF18) linkShallowF19) linkShallowF20) linkShallowF21) linkShallowF22) linkShallowF23) linkShallowF24) linkShallowF25) linkShallowF26) linkShallowF27) linkShallowF28) linkShallowF29) linkShallowF30) linkShallowF31)
theorem linkShallow_row_of (h : ∀ os : Os, os.Started → ∀ (H : Type) (enc : TypeId × Value → H),
    ReturnsInHanded {} Tryz.checked os 10 .any (fun w args => (Rows.linkShallowSpec.pre enc Tryz.prog Tryz.f10 [] false w args ∧ laidMetH Tryz.prog Rows.linkShallowRow.laid w) ∧ sizedMet enc Tryz.prog Tryz.f10 (OpenSpec.ofChange Rows.linkShallowSpec) false w args)
      (Rows.linkShallowSpec.post enc Tryz.prog Tryz.f10 false true false false)) : Rows.LinkShallowSaid :=
  OpenClaim.holds_of_wide 10 Tryz.f10 rfl rfl rfl rfl rfl rfl rfl ⟨rfl, rfl, rfl, rfl, rfl⟩ rfl rfl rfl rfl rfl linkShallowNamed Tryz.func10 linkShallowJoined linkShallowInst linkShallowWrap
    (fun os started H enc _ => h os started H enc)
theorem linkShallow_card_of (h : Rows.LinkShallowSaid) : Rows.LinkShallowCardSaid :=
  Claim7.holds_tied_plain_at .later [] [.data, .data, .data, .data, .sentinel, .sentinel, .pinned] true (true, "c97cde244724dd329f2b399d2dac099d624c3212ddef85b562753614e98543dc") true
    h (fun _ h => by cases h) linkShallowByText (fun _ h => by cases h) linkShallow_row_tie rfl ⟨rfl, rfl⟩ linkShallowMain rfl
    (fun f fn hf hfn => by
      obtain rfl : f = 10 := Option.some.inj (linkShallowNamed.symm.trans hf) |>.symm
      obtain rfl : fn = Tryz.f10 := (Option.some.inj (Tryz.func10.symm.trans hfn)).symm
      exact ⟨linkShallowLooks, fun j t ht => by
        rw [linkShallowParams] at ht
        have hm : t ∈ [3, 4, 4] := by simpa using Array.mem_of_getElem? ht
        exact (show Tryz.prog.wantsStandIn t = false by simpa using List.all_eq_true.1 linkShallowStand t hm)⟩)
    linkShallowGoes
end Go.Proofs.YtnnfledihhiaiaaGreatDoor
