/- The row and the card of DiskAll out of its lifted form; on that condition. -/
import Derived.Test.YtiikdbnblacbhaaGreatDoorAllFa
import Derived.Test.YtiikdbnblacbhaaGreatDoorAllFb
import Derived.Test.YtiikdbnblacbhaaGreatDoorAllFc
set_option linter.unusedVariables false
set_option linter.unusedSimpArgs false
set_option linter.unusedSectionVars false
namespace Go.Proofs.YtiikdbnblacbhaaGreatDoor
open Go Go.Proofs
theorem diskAllAnd {a b : Bool} (ha : a = true) (hb : b = true) : (a && b) = true := by rw [ha, hb]; rfl
set_option maxRecDepth 1000000 in
theorem diskAllJoined : joinedFacts Tryz.prog 6 Tryz.f6 Rows.diskAllSpec Rows.diskAllRow = true := by
  unfold joinedFacts
  exact (diskAllAnd (diskAllAnd (diskAllAnd (diskAllAnd (diskAllAnd (diskAllAnd (diskAllAnd (diskAllAnd (diskAllAnd (diskAllAnd (diskAllAnd (diskAllAnd (diskAllAnd (diskAllAnd (diskAllAnd (diskAllAnd (diskAllAnd (diskAllAnd (diskAllAnd (diskAllAnd (diskAllAnd (diskAllAnd (diskAllAnd (diskAllAnd (diskAllAnd (diskAllAnd (diskAllAnd (diskAllAnd (diskAllAnd (diskAllAnd (diskAllAnd diskAllF0 diskAllF1) diskAllF2) diskAllF3) diskAllF4) diskAllF5) diskAllF6) diskAllF7) diskAllF8) diskAllF9) diskAllF10) diskAllF11) diskAllF12) diskAllF13) diskAllF14) diskAllF15) diskAllF16) diskAllF17) diskAllF18) diskAllF19) diskAllF20) diskAllF21) diskAllF22) diskAllF23) diskAllF24) diskAllF25) diskAllF26) diskAllF27) diskAllF28) diskAllF29) diskAllF30) diskAllF31)
theorem diskAll_row_of (h : ∀ os : Os, os.Started → ∀ (H : Type) (enc : TypeId × Value → H),
    ReturnsInHanded {} Tryz.checked os 6 .any (fun w args => (Rows.diskAllSpec.pre enc Tryz.prog Tryz.f6 [] false w args ∧ laidMetH Tryz.prog Rows.diskAllRow.laid w) ∧ sizedMet enc Tryz.prog Tryz.f6 (OpenSpec.ofChange Rows.diskAllSpec) false w args)
      (Rows.diskAllSpec.post enc Tryz.prog Tryz.f6 false true false false)) : Rows.DiskAllSaid :=
  OpenClaim.holds_of_wide 6 Tryz.f6 rfl rfl rfl rfl rfl rfl rfl ⟨rfl, rfl, rfl, rfl, rfl⟩ rfl rfl rfl rfl rfl diskAllNamed Tryz.func6 diskAllJoined diskAllInst diskAllWrap
    (fun os started H enc _ => h os started H enc)
theorem diskAll_card_of (h : Rows.DiskAllSaid) : Rows.DiskAllCardSaid :=
  Claim7.holds_tied_plain_at .later [] [.data, .data, .data, .data, .sentinel, .sentinel, .pinned] true (true, "8254acd3c2aac087ad5703f659930b532e9eb6a40387222cfde0cc108e52f180") true
    h (fun _ h => by cases h) diskAllByText (fun _ h => by cases h) diskAll_row_tie rfl ⟨rfl, rfl⟩ diskAllMain rfl
    (fun f fn hf hfn => by
      obtain rfl : f = 6 := Option.some.inj (diskAllNamed.symm.trans hf) |>.symm
      obtain rfl : fn = Tryz.f6 := (Option.some.inj (Tryz.func6.symm.trans hfn)).symm
      exact ⟨diskAllLooks, fun j t ht => by
        rw [diskAllParams] at ht
        have hm : t ∈ [59] := by simpa using Array.mem_of_getElem? ht
        exact (show Tryz.prog.wantsStandIn t = false by simpa using List.all_eq_true.1 diskAllStand t hm)⟩)
    diskAllGoes
end Go.Proofs.YtiikdbnblacbhaaGreatDoor
