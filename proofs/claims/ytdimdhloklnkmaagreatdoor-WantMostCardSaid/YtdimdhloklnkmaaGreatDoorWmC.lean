/- WantMost answers true at every argument, as its tied card says; on no condition. -/
import Derived.Test.YtdimdhloklnkmaaGreatDoorWmR
import Derived.Test.YtdimdhloklnkmaaGreatDoorLift
import Derived.Test.YtdimdhloklnkmaaGreatDoorWmF
import Derived.Test.YtdimdhloklnkmaaGreatDoorTie
import Derived.Test.YtdimdhloklnkmaaGreatDoorCards
set_option linter.unusedVariables false
set_option linter.unusedSimpArgs false
set_option linter.unusedSectionVars false
namespace Go.Proofs.YtdimdhloklnkmaaGreatDoor
open Go Go.RowKit Go.ChangeShapes Go.WideShapes Go.ChangeAt Go.Proofs

theorem wantMost_calls {W : World} (n0 : Int) (n1 : Int) (hL : laidMet Tryz.prog Rows.wantMostRow.laid W) (hsh : W.ShapedOpen Tryz.prog) :
    Calls Tryz.prog 4 #[.int .i64 n0, .int .i64 n1] W fun e w' => e = .returned (.bool true) ∧ Below W.heap.size W w' := by
  letI : Ax.Sy := { str := fun _ => [] }
  obtain ⟨m, hR⟩ := Tz.rel_of hL hsh (by simp [Rows.wantMostRow]) (by simp [Rows.wantMostRow]) (by simp [Rows.wantMostRow]) (by simp [Rows.wantMostRow])
  have h0 : Ax.g (fun _ => none) (.sint .i64 n0 [(-5, n0 % 5)]) = some (.int .i64 n0) := by
    have : Ax.hintOk n0 [(-5, n0 % 5)] = true := by simp [Ax.hintOk, Ax.hint1]
    simp only [Ax.g, this, if_true]
  have h1 : Ax.g (fun _ => none) (.sint .i64 n1 [(-6, n1 % 6)]) = some (.int .i64 n1) := by
    have : Ax.hintOk n1 [(-6, n1 % 6)] = true := by simp [Ax.hintOk, Ax.hint1]
    simp only [Ax.g, this, if_true]
  exact Tz.args_below (E := Tz.EG m (Tz.orcWb m)) (Tz.EG_ok m 8 (Tz.orcWb_ok m 8)) (Tz.runWantMost m n0 n1) (by simp only [Ax.gL, h0, h1, Option.bind_some, Option.map_some]) hR

set_option maxRecDepth 100000 in
theorem wantMost_lifted (os : Os) (started : os.Started) (H : Type) (enc : TypeId × Value → H) :
    ReturnsInHanded {} Tryz.checked os 4 .any (fun w args => (Rows.wantMostSpec.pre enc Tryz.prog Tryz.f4 [] false w args ∧ laidMetH Tryz.prog Rows.wantMostRow.laid w) ∧ sizedMet enc Tryz.prog Tryz.f4 (OpenSpec.ofChange Rows.wantMostSpec) false w args)
      (Rows.wantMostSpec.post enc Tryz.prog Tryz.f4 false true false false) := by
  refine Tz.lift_shaped (C := Tryz.checked) (X := fun w _ => laidMetH Tryz.prog Rows.wantMostRow.laid w) (fun _ _ _ hh h => h.of_heap hh) Tz.own started (by kernel_rfl) Tryz.func4
    (ChangeSpec.witness_shaped (enc := enc) (C := Tryz.checked) (os := os) (X := fun w _ => laidMetH Tryz.prog Rows.wantMostRow.laid w) false (World.laidAll Tryz.prog os Rows.wantMostRow.laid) #[.int .i64 0, .int .i64 0] 8 (World.laidAll_os _ _ _)
      (World.shaped_of_ZipB (by kernel_rfl) (by kernel_rfl)) (by kernel_rfl) (by kernel_rfl) (by kernel_rfl)
      (by rw [MakeChecks.laidMetH_plain _ _ _ (by kernel_rfl)]; exact laidMet_laidAll _ (by kernel_rfl) (by kernel_rfl))) ?_
  intro W base args ds gs before hval0 hW hL hsh
  have hval : ∀ (j : Nat) t v, Tryz.f4.params[j]? = some t → args[j]? = some v → Value.okWide Tryz.prog W .any base t v := hval0
  have hW' := hW
  obtain ⟨p, q, hA0, hV, rfl, _, _⟩ := hW
  have hA : DataW.TrodAll enc Tryz.prog W 0 (fun _ => true) true Tryz.f4.params.toList args.toList ds p := hA0
  rw [Tryz.params4] at hA hval
  obtain ⟨v0, v1, d0, d1, p0, p1, rfl, rfl, rfl, h0, h1⟩ := trodAll_two hA
  obtain ⟨rfl, rfl⟩ := trodVars_none hV
  obtain ⟨x, rfl, rfl, rfl, wx⟩ := open_int Tryz.underlying3 (hval 0 3 v0 rfl rfl) h0
  obtain ⟨y, rfl, rfl, rfl, wy⟩ := open_int Tryz.underlying3 (hval 1 3 v1 rfl rfl) h1
  simp only [List.append_nil] at hW'
  rw [MakeChecks.laidMetH_plain _ _ _ (by kernel_rfl)] at hL
  refine (wantMost_calls x y hL hsh).mono fun e W' ⟨he, hb⟩ => ?_
  subst he
  exact ⟨_, rfl, _, _, _, [], [], [], hW', trodAll_mk1 (shut_bool Tryz.underlying4 _), trodAll_mk2 (shut_int Tryz.underlying3 wx) (shut_int Tryz.underlying3 wy), rfl, hb.frame _, fun h => by cases h⟩

theorem wantMost_holds : Rows.WantMostCardSaid := wantMost_card_of (wantMost_row_of wantMost_lifted)
#print axioms wantMost_holds
end Go.Proofs.YtdimdhloklnkmaaGreatDoor
