/- The row and the card of WantMost out of its lifted form; on that condition. -/
import Derived.Test.YtdimdhloklnkmaaGreatDoorWmFa
import Derived.Test.YtdimdhloklnkmaaGreatDoorWmFb
import Derived.Test.YtdimdhloklnkmaaGreatDoorWmFc
set_option linter.unusedVariables false
set_option linter.unusedSimpArgs false
set_option linter.unusedSectionVars false
namespace Go.Proofs.YtdimdhloklnkmaaGreatDoor
open Go Go.Proofs
theorem wantMostAnd {a b : Bool} (ha : a = true) (hb : b = true) : (a && b) = true := by rw [ha, hb]; rfl
set_option maxRecDepth 1000000 in
theorem wantMostJoined : joinedFacts Tryz.prog 4 Tryz.f4 Rows.wantMostSpec Rows.wantMostRow = true := by
  unfold joinedFacts
  exact (wantMostAnd (wantMostAnd (wantMostAnd (wantMostAnd (wantMostAnd (wantMostAnd (wantMostAnd (wantMostAnd (wantMostAnd (wantMostAnd (wantMostAnd (wantMostAnd (wantMostAnd (wantMostAnd (wantMostAnd (wantMostAnd (wantMostAnd (wantMostAnd (wantMostAnd (wantMostAnd (wantMostAnd (wantMostAnd (wantMostAnd (wantMostAnd (wantMostAnd (wantMostAnd (wantMostAnd (wantMostAnd (wantMostAnd (wantMostAnd (wantMostAnd wantMostF0 wantMostF1) wantMostF2) wantMostF3) wantMostF4) wantMostF5) wantMostF6) wantMostF7) wantMostF8) wantMostF9) wantMostF10) wantMostF11) wantMostF12) wantMostF13) wantMostF14) wantMostF15) wantMostF16) wantMostF17) wantMostF18) wantMostF19) wantMostF20) wantMostF21) wantMostF22) wantMostF23) wantMostF24) wantMostF25) wantMostF26) wantMostF27) wantMostF28) wantMostF29) wantMostF30) wantMostF31)
theorem wantMost_row_of (h : ∀ os : Os, os.Started → ∀ (H : Type) (enc : TypeId × Value → H),
    ReturnsInHanded {} Tryz.checked os 4 .any (fun w args => (Rows.wantMostSpec.pre enc Tryz.prog Tryz.f4 [] false w args ∧ laidMetH Tryz.prog Rows.wantMostRow.laid w) ∧ sizedMet enc Tryz.prog Tryz.f4 (OpenSpec.ofChange Rows.wantMostSpec) false w args)
      (Rows.wantMostSpec.post enc Tryz.prog Tryz.f4 false true false false)) : Rows.WantMostSaid :=
  OpenClaim.holds_of_wide 4 Tryz.f4 rfl rfl rfl rfl rfl rfl rfl ⟨rfl, rfl, rfl, rfl, rfl⟩ rfl rfl rfl rfl rfl wantMostNamed Tryz.func4 wantMostJoined wantMostInst wantMostWrap
    (fun os started H enc _ => h os started H enc)
theorem wantMost_card_of (h : Rows.WantMostSaid) : Rows.WantMostCardSaid :=
  Claim7.holds_tied_plain_at .later [] [.data, .data, .data, .data, .sentinel, .sentinel, .pinned] true (true, "2de9ab4aebe3c4aef0ba2d3f3a7ae3c0feff89b317033773d02f4b0c4c5ea836") true
    h (fun _ h => by cases h) wantMostByText (fun _ h => by cases h) wantMost_row_tie rfl ⟨rfl, rfl⟩ wantMostMain rfl
    (fun f fn hf hfn => by
      obtain rfl : f = 4 := Option.some.inj (wantMostNamed.symm.trans hf) |>.symm
      obtain rfl : fn = Tryz.f4 := (Option.some.inj (Tryz.func4.symm.trans hfn)).symm
      exact ⟨wantMostLooks, fun j t ht => by
        rw [wantMostParams] at ht
        have hm : t ∈ [3, 3] := by simpa using Array.mem_of_getElem? ht
        exact (show Tryz.prog.wantsStandIn t = false by simpa using List.all_eq_true.1 wantMostStand t hm)⟩)
    wantMostGoes
end Go.Proofs.YtdimdhloklnkmaaGreatDoor
