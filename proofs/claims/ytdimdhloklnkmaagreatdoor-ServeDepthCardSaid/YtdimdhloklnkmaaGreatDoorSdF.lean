/- The row and the card of ServeDepth out of its lifted form; on that condition. -/
import Derived.Test.YtdimdhloklnkmaaGreatDoorSdFa
import Derived.Test.YtdimdhloklnkmaaGreatDoorSdFb
import Derived.Test.YtdimdhloklnkmaaGreatDoorSdFc
set_option linter.unusedVariables false
set_option linter.unusedSimpArgs false
set_option linter.unusedSectionVars false
namespace Go.Proofs.YtdimdhloklnkmaaGreatDoor
open Go Go.Proofs
theorem serveDepthAnd {a b : Bool} (ha : a = true) (hb : b = true) : (a && b) = true := by rw [ha, hb]; rfl
set_option maxRecDepth 1000000 in
theorem serveDepthJoined : joinedFacts Tryz.prog 5 Tryz.f5 Rows.serveDepthSpec Rows.serveDepthRow = true := by
  unfold joinedFacts
  exact (serveDepthAnd (serveDepthAnd (serveDepthAnd (serveDepthAnd (serveDepthAnd (serveDepthAnd (serveDepthAnd (serveDepthAnd (serveDepthAnd (serveDepthAnd (serveDepthAnd (serveDepthAnd (serveDepthAnd (serveDepthAnd (serveDepthAnd (serveDepthAnd (serveDepthAnd (serveDepthAnd (serveDepthAnd (serveDepthAnd (serveDepthAnd (serveDepthAnd (serveDepthAnd (serveDepthAnd (serveDepthAnd (serveDepthAnd (serveDepthAnd (serveDepthAnd (serveDepthAnd (serveDepthAnd (serveDepthAnd serveDepthF0 serveDepthF1) serveDepthF2) serveDepthF3) serveDepthF4) serveDepthF5) serveDepthF6) serveDepthF7) serveDepthF8) serveDepthF9) serveDepthF10) serveDepthF11) serveDepthF12) serveDepthF13) serveDepthF14) serveDepthF15) serveDepthF16) serveDepthF17) serveDepthF18) serveDepthF19) serveDepthF20) serveDepthF21) serveDepthF22) serveDepthF23) serveDepthF24) serveDepthF25) serveDepthF26) serveDepthF27) serveDepthF28) serveDepthF29) serveDepthF30) serveDepthF31)
theorem serveDepth_row_of (h : ∀ os : Os, os.Started → ∀ (H : Type) (enc : TypeId × Value → H),
    ReturnsInHanded {} Tryz.checked os 5 .any (fun w args => (Rows.serveDepthSpec.pre enc Tryz.prog Tryz.f5 [] false w args ∧ laidMetH Tryz.prog Rows.serveDepthRow.laid w) ∧ sizedMet enc Tryz.prog Tryz.f5 (OpenSpec.ofChange Rows.serveDepthSpec) false w args)
      (Rows.serveDepthSpec.post enc Tryz.prog Tryz.f5 false true false false)) : Rows.ServeDepthSaid :=
  OpenClaim.holds_of_wide 5 Tryz.f5 rfl rfl rfl rfl rfl rfl rfl ⟨rfl, rfl, rfl, rfl, rfl⟩ rfl rfl rfl rfl rfl serveDepthNamed Tryz.func5 serveDepthJoined serveDepthInst serveDepthWrap
    (fun os started H enc _ => h os started H enc)
theorem serveDepth_card_of (h : Rows.ServeDepthSaid) : Rows.ServeDepthCardSaid :=
  Claim7.holds_tied_plain_at .later [] [.data, .data, .data, .data, .sentinel, .sentinel, .pinned] true (true, "2de9ab4aebe3c4aef0ba2d3f3a7ae3c0feff89b317033773d02f4b0c4c5ea836") true
    h (fun _ h => by cases h) serveDepthByText (fun _ h => by cases h) serveDepth_row_tie rfl ⟨rfl, rfl⟩ serveDepthMain rfl
    (fun f fn hf hfn => by
      obtain rfl : f = 5 := Option.some.inj (serveDepthNamed.symm.trans hf) |>.symm
      obtain rfl : fn = Tryz.f5 := (Option.some.inj (Tryz.func5.symm.trans hfn)).symm
      exact ⟨serveDepthLooks, fun j t ht => by
        rw [serveDepthParams] at ht
        have hm : t ∈ [3, 3, 4] := by simpa using Array.mem_of_getElem? ht
        exact (show Tryz.prog.wantsStandIn t = false by simpa using List.all_eq_true.1 serveDepthStand t hm)⟩)
    serveDepthGoes
end Go.Proofs.YtdimdhloklnkmaaGreatDoor
