/- From the row of StoreNone to its tied card; on no condition. -/
import Derived.Test.YtffbpmmagoiooaaGreatDoorNoneFa
import Derived.Test.YtffbpmmagoiooaaGreatDoorNoneFb
import Derived.Test.YtffbpmmagoiooaaGreatDoorNoneFc
set_option linter.unusedVariables false
set_option linter.unusedSimpArgs false
namespace Go.Proofs.YtffbpmmagoiooaaGreatDoor
open Go Go.Proofs
theorem storeNoneAnd {a b : Bool} (ha : a = true) (hb : b = true) : (a && b) = true := by rw [ha, hb]; rfl
set_option maxRecDepth 1000000 in
theorem storeNoneJoined : joinedFacts Tryz.prog 12 Tryz.f12 Rows.storeNoneSpec Rows.storeNoneRow = true := by
  unfold joinedFacts
  exact (storeNoneAnd (storeNoneAnd (storeNoneAnd (storeNoneAnd (storeNoneAnd (storeNoneAnd (storeNoneAnd (storeNoneAnd (storeNoneAnd (storeNoneAnd (storeNoneAnd (storeNoneAnd (storeNoneAnd (storeNoneAnd (storeNoneAnd (storeNoneAnd (storeNoneAnd (storeNoneAnd (storeNoneAnd (storeNoneAnd (storeNoneAnd (storeNoneAnd (storeNoneAnd (storeNoneAnd (storeNoneAnd (storeNoneAnd (storeNoneAnd (storeNoneAnd (storeNoneAnd (storeNoneAnd (storeNoneAnd storeNoneF0 storeNoneF1) storeNoneF2) storeNoneF3) storeNoneF4) storeNoneF5) storeNoneF6) storeNoneF7) storeNoneF8) storeNoneF9) storeNoneF10) storeNoneF11) storeNoneF12) storeNoneF13) storeNoneF14) storeNoneF15) storeNoneF16) storeNoneF17) storeNoneF18) storeNoneF19) storeNoneF20) storeNoneF21) storeNoneF22) storeNoneF23) storeNoneF24) storeNoneF25) storeNoneF26) storeNoneF27) storeNoneF28) storeNoneF29) storeNoneF30) storeNoneF31)
theorem storeNone_row_of (h : ∀ os : Os, os.Started → ∀ (H : Type) (enc : TypeId × Value → H),
    ReturnsInHanded {} Tryz.checked os 12 .any (fun w args => (Rows.storeNoneSpec.pre enc Tryz.prog Tryz.f12 [] false w args ∧ laidMetH Tryz.prog Rows.storeNoneRow.laid w) ∧ sizedMet enc Tryz.prog Tryz.f12 (OpenSpec.ofChange Rows.storeNoneSpec) false w args)
      (Rows.storeNoneSpec.post enc Tryz.prog Tryz.f12 false true false false)) : Rows.StoreNoneSaid :=
  OpenClaim.holds_of_wide 12 Tryz.f12 rfl rfl rfl rfl rfl rfl rfl ⟨rfl, rfl, rfl, rfl, rfl⟩ rfl rfl rfl rfl rfl storeNoneNamed Tryz.func12 storeNoneJoined storeNoneInst storeNoneWrap
    (fun os started H enc _ => h os started H enc)
theorem storeNone_card_of (h : Rows.StoreNoneSaid) : Rows.StoreNoneCardSaid :=
  Claim7.holds_tied_plain_at .later [] [.data, .data, .data, .data, .sentinel, .sentinel, .pinned] true (true, "941112d6d7ebf3c542a979e7b3133ea79e64cab5cbd4c30bfb913d0226db9ebf") true
    h (fun _ h => by cases h) storeNoneByText (fun _ h => by cases h) storeNone_row_tie rfl ⟨rfl, rfl⟩ storeNoneMain rfl
    (fun f fn hf hfn => by
      obtain rfl : f = 12 := Option.some.inj (storeNoneNamed.symm.trans hf) |>.symm
      obtain rfl : fn = Tryz.f12 := (Option.some.inj (Tryz.func12.symm.trans hfn)).symm
      exact ⟨storeNoneLooks, fun j t ht => by
        rw [storeNoneParams] at ht
        have hm : t ∈ [] := by simpa using Array.mem_of_getElem? ht
        exact (show Tryz.prog.wantsStandIn t = false by simpa using List.all_eq_true.1 storeNoneStand t hm)⟩)
    storeNoneGoes
end Go.Proofs.YtffbpmmagoiooaaGreatDoor
