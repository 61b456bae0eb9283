/- The row and the card of ServeNone out of its lifted form; on that condition. -/
import Derived.Test.YtdimdhloklnkmaaGreatDoorSnFa
import Derived.Test.YtdimdhloklnkmaaGreatDoorSnFb
import Derived.Test.YtdimdhloklnkmaaGreatDoorSnFc
set_option linter.unusedVariables false
set_option linter.unusedSimpArgs false
set_option linter.unusedSectionVars false
namespace Go.Proofs.YtdimdhloklnkmaaGreatDoor
open Go Go.Proofs
theorem serveNoneAnd {a b : Bool} (ha : a = true) (hb : b = true) : (a && b) = true := by rw [ha, hb]; rfl
set_option maxRecDepth 1000000 in
theorem serveNoneJoined : joinedFacts Tryz.prog 3 Tryz.f3 Rows.serveNoneSpec Rows.serveNoneRow = true := by
  unfold joinedFacts
  exact (serveNoneAnd (serveNoneAnd (serveNoneAnd (serveNoneAnd (serveNoneAnd (serveNoneAnd (serveNoneAnd (serveNoneAnd (serveNoneAnd (serveNoneAnd (serveNoneAnd (serveNoneAnd (serveNoneAnd (serveNoneAnd (serveNoneAnd (serveNoneAnd (serveNoneAnd (serveNoneAnd (serveNoneAnd (serveNoneAnd (serveNoneAnd (serveNoneAnd (serveNoneAnd (serveNoneAnd (serveNoneAnd (serveNoneAnd (serveNoneAnd (serveNoneAnd (serveNoneAnd (serveNoneAnd (serveNoneAnd serveNoneF0 serveNoneF1) serveNoneF2) serveNoneF3) serveNoneF4) serveNoneF5) serveNoneF6) serveNoneF7) serveNoneF8) serveNoneF9) serveNoneF10) serveNoneF11) serveNoneF12) serveNoneF13) serveNoneF14) serveNoneF15) serveNoneF16) serveNoneF17) serveNoneF18) serveNoneF19) serveNoneF20) serveNoneF21) serveNoneF22) serveNoneF23) serveNoneF24) serveNoneF25) serveNoneF26) serveNoneF27) serveNoneF28) serveNoneF29) serveNoneF30) serveNoneF31)
theorem serveNone_row_of (h : ∀ os : Os, os.Started → ∀ (H : Type) (enc : TypeId × Value → H),
    ReturnsInHanded {} Tryz.checked os 3 .any (fun w args => (Rows.serveNoneSpec.pre enc Tryz.prog Tryz.f3 [] false w args ∧ laidMetH Tryz.prog Rows.serveNoneRow.laid w) ∧ sizedMet enc Tryz.prog Tryz.f3 (OpenSpec.ofChange Rows.serveNoneSpec) false w args)
      (Rows.serveNoneSpec.post enc Tryz.prog Tryz.f3 false true false false)) : Rows.ServeNoneSaid :=
  OpenClaim.holds_of_wide 3 Tryz.f3 rfl rfl rfl rfl rfl rfl rfl ⟨rfl, rfl, rfl, rfl, rfl⟩ rfl rfl rfl rfl rfl serveNoneNamed Tryz.func3 serveNoneJoined serveNoneInst serveNoneWrap
    (fun os started H enc _ => h os started H enc)
theorem serveNone_card_of (h : Rows.ServeNoneSaid) : Rows.ServeNoneCardSaid :=
  Claim7.holds_tied_plain_at .later [] [.data, .data, .data, .data, .sentinel, .sentinel, .pinned] true (true, "2de9ab4aebe3c4aef0ba2d3f3a7ae3c0feff89b317033773d02f4b0c4c5ea836") true
    h (fun _ h => by cases h) serveNoneByText (fun _ h => by cases h) serveNone_row_tie rfl ⟨rfl, rfl⟩ serveNoneMain rfl
    (fun f fn hf hfn => by
      obtain rfl : f = 3 := Option.some.inj (serveNoneNamed.symm.trans hf) |>.symm
      obtain rfl : fn = Tryz.f3 := (Option.some.inj (Tryz.func3.symm.trans hfn)).symm
      exact ⟨serveNoneLooks, fun j t ht => by
        rw [serveNoneParams] at ht
        have hm : t ∈ [] := by simpa using Array.mem_of_getElem? ht
        exact (show Tryz.prog.wantsStandIn t = false by simpa using List.all_eq_true.1 serveNoneStand t hm)⟩)
    serveNoneGoes
end Go.Proofs.YtdimdhloklnkmaaGreatDoor
