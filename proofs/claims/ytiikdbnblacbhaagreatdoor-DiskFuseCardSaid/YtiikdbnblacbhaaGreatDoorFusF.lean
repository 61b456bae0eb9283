/- From the row of DiskFuse to its tied card; on no condition. -/
import Derived.Test.YtiikdbnblacbhaaGreatDoorFusFa
import Derived.Test.YtiikdbnblacbhaaGreatDoorFusFb
import Derived.Test.YtiikdbnblacbhaaGreatDoorFusFc
set_option linter.unusedVariables false
set_option linter.unusedSimpArgs false
set_option linter.unusedSectionVars false
namespace Go.Proofs.YtiikdbnblacbhaaGreatDoor
open Go Go.Proofs
theorem diskFuseAnd {a b : Bool} (ha : a = true) (hb : b = true) : (a && b) = true := by rw [ha, hb]; rfl
set_option maxRecDepth 1000000 in
theorem diskFuseJoined : joinedFacts Tryz.prog 7 Tryz.f7 Rows.diskFuseSpec Rows.diskFuseRow = true := by
  unfold joinedFacts
  exact (diskFuseAnd (diskFuseAnd (diskFuseAnd (diskFuseAnd (diskFuseAnd (diskFuseAnd (diskFuseAnd (diskFuseAnd (diskFuseAnd (diskFuseAnd (diskFuseAnd (diskFuseAnd (diskFuseAnd (diskFuseAnd (diskFuseAnd (diskFuseAnd (diskFuseAnd (diskFuseAnd (diskFuseAnd (diskFuseAnd (diskFuseAnd (diskFuseAnd (diskFuseAnd (diskFuseAnd (diskFuseAnd (diskFuseAnd (diskFuseAnd (diskFuseAnd (diskFuseAnd (diskFuseAnd (diskFuseAnd diskFuseF0 diskFuseF1) diskFuseF2) diskFuseF3) diskFuseF4) diskFuseF5) diskFuseF6) diskFuseF7) diskFuseF8) diskFuseF9) diskFuseF10) diskFuseF11) diskFuseF12) diskFuseF13) diskFuseF14) diskFuseF15) diskFuseF16) diskFuseF17) diskFuseF18) diskFuseF19) diskFuseF20) diskFuseF21) diskFuseF22) diskFuseF23) diskFuseF24) diskFuseF25) diskFuseF26) diskFuseF27) diskFuseF28) diskFuseF29) diskFuseF30) diskFuseF31)
theorem diskFuse_row_of (h : ∀ os : Os, os.Started → ∀ (H : Type) (enc : TypeId × Value → H),
    ReturnsInHanded {} Tryz.checked os 7 .any (fun w args => (Rows.diskFuseSpec.pre enc Tryz.prog Tryz.f7 [] false w args ∧ laidMetH Tryz.prog Rows.diskFuseRow.laid w) ∧ sizedMet enc Tryz.prog Tryz.f7 (OpenSpec.ofChange Rows.diskFuseSpec) false w args)
      (Rows.diskFuseSpec.post enc Tryz.prog Tryz.f7 false true false false)) : Rows.DiskFuseSaid :=
  OpenClaim.holds_of_wide 7 Tryz.f7 rfl rfl rfl rfl rfl rfl rfl ⟨rfl, rfl, rfl, rfl, rfl⟩ rfl rfl rfl rfl rfl diskFuseNamed Tryz.func7 diskFuseJoined diskFuseInst diskFuseWrap
    (fun os started H enc _ => h os started H enc)
theorem diskFuse_card_of (h : Rows.DiskFuseSaid) : Rows.DiskFuseCardSaid :=
  Claim7.holds_tied_plain_at .later [] [.data, .data, .data, .data, .sentinel, .sentinel, .pinned] true (true, "8254acd3c2aac087ad5703f659930b532e9eb6a40387222cfde0cc108e52f180") true
    h (fun _ h => by cases h) diskFuseByText (fun _ h => by cases h) diskFuse_row_tie rfl ⟨rfl, rfl⟩ diskFuseMain rfl
    (fun f fn hf hfn => by
      obtain rfl : f = 7 := Option.some.inj (diskFuseNamed.symm.trans hf) |>.symm
      obtain rfl : fn = Tryz.f7 := (Option.some.inj (Tryz.func7.symm.trans hfn)).symm
      exact ⟨diskFuseLooks, fun j t ht => by
        rw [diskFuseParams] at ht
        have hm : t ∈ [3, 3, 25] := by simpa using Array.mem_of_getElem? ht
        exact (show Tryz.prog.wantsStandIn t = false by simpa using List.all_eq_true.1 diskFuseStand t hm)⟩)
    diskFuseGoes
end Go.Proofs.YtiikdbnblacbhaaGreatDoor
