/- The row and the card of DepthMerge out of its lifted form; on that condition. -/
import Derived.Test.YtcbogemnimpkcaaGreatDoorMeFa
import Derived.Test.YtcbogemnimpkcaaGreatDoorMeFb
import Derived.Test.YtcbogemnimpkcaaGreatDoorMeFc
set_option linter.unusedVariables false
set_option linter.unusedSimpArgs false
set_option linter.unusedSectionVars false
namespace Go.Proofs.YtcbogemnimpkcaaGreatDoor
open Go Go.Proofs
theorem depthMergeAnd {a b : Bool} (ha : a = true) (hb : b = true) : (a && b) = true := by rw [ha, hb]; rfl
set_option maxRecDepth 1000000 in
theorem depthMergeJoined : joinedFacts Tryz.prog 3 Tryz.f3 Rows.depthMergeSpec Rows.depthMergeRow = true := by
  unfold joinedFacts
  exact (depthMergeAnd (depthMergeAnd (depthMergeAnd (depthMergeAnd (depthMergeAnd (depthMergeAnd (depthMergeAnd (depthMergeAnd (depthMergeAnd (depthMergeAnd (depthMergeAnd (depthMergeAnd (depthMergeAnd (depthMergeAnd (depthMergeAnd (depthMergeAnd (depthMergeAnd (depthMergeAnd (depthMergeAnd (depthMergeAnd (depthMergeAnd (depthMergeAnd (depthMergeAnd (depthMergeAnd (depthMergeAnd (depthMergeAnd (depthMergeAnd (depthMergeAnd (depthMergeAnd (depthMergeAnd (depthMergeAnd depthMergeF0 depthMergeF1) depthMergeF2) depthMergeF3) depthMergeF4) depthMergeF5) depthMergeF6) depthMergeF7) depthMergeF8) depthMergeF9) depthMergeF10) depthMergeF11) depthMergeF12) depthMergeF13) depthMergeF14) depthMergeF15) depthMergeF16) depthMergeF17) depthMergeF18) depthMergeF19) depthMergeF20) depthMergeF21) depthMergeF22) depthMergeF23) depthMergeF24) depthMergeF25) depthMergeF26) depthMergeF27) depthMergeF28) depthMergeF29) depthMergeF30) depthMergeF31)
theorem depthMerge_row_of (h : ∀ os : Os, os.Started → ∀ (H : Type) (enc : TypeId × Value → H),
    ReturnsInHanded {} Tryz.checked os 3 .any (fun w args => (Rows.depthMergeSpec.pre enc Tryz.prog Tryz.f3 [] false w args ∧ laidMetH Tryz.prog Rows.depthMergeRow.laid w) ∧ sizedMet enc Tryz.prog Tryz.f3 (OpenSpec.ofChange Rows.depthMergeSpec) false w args)
      (Rows.depthMergeSpec.post enc Tryz.prog Tryz.f3 false true false false)) : Rows.DepthMergeSaid :=
  OpenClaim.holds_of_wide 3 Tryz.f3 rfl rfl rfl rfl rfl rfl rfl ⟨rfl, rfl, rfl, rfl, rfl⟩ rfl rfl rfl rfl rfl depthMergeNamed Tryz.func3 depthMergeJoined depthMergeInst depthMergeWrap
    (fun os started H enc _ => h os started H enc)
theorem depthMerge_card_of (h : Rows.DepthMergeSaid) : Rows.DepthMergeCardSaid :=
  Claim7.holds_tied_plain_at .later [] [.data, .data, .data, .data, .sentinel, .sentinel, .pinned] true (true, "bd43c771b12b21bb6795c21970a66704708a86a13902edf781deeb3a13416ef4") true
    h (fun _ h => by cases h) depthMergeByText (fun _ h => by cases h) depthMerge_row_tie rfl ⟨rfl, rfl⟩ depthMergeMain rfl
    (fun f fn hf hfn => by
      obtain rfl : f = 3 := Option.some.inj (depthMergeNamed.symm.trans hf) |>.symm
      obtain rfl : fn = Tryz.f3 := (Option.some.inj (Tryz.func3.symm.trans hfn)).symm
      exact ⟨depthMergeLooks, fun j t ht => by
        rw [depthMergeParams] at ht
        have hm : t ∈ [22, 22, 23] := by simpa using Array.mem_of_getElem? ht
        exact (show Tryz.prog.wantsStandIn t = false by simpa using List.all_eq_true.1 depthMergeStand t hm)⟩)
    depthMergeGoes
end Go.Proofs.YtcbogemnimpkcaaGreatDoor
