/- ServeDepth answers true at every argument, as its tied card says; on no condition. -/
import Derived.Test.YtdimdhloklnkmaaGreatDoorSdR
import Derived.Test.YtdimdhloklnkmaaGreatDoorLift
import Derived.Test.YtdimdhloklnkmaaGreatDoorSdF
import Derived.Test.YtdimdhloklnkmaaGreatDoorTie
import Derived.Test.YtdimdhloklnkmaaGreatDoorCards
set_option linter.unusedVariables false
set_option linter.unusedSimpArgs false
set_option linter.unusedSectionVars false
namespace Go.Proofs.YtdimdhloklnkmaaGreatDoor
open Go Go.RowKit Go.ChangeShapes Go.WideShapes Go.ChangeAt Go.Proofs

theorem serveDepth_calls {W : World} (n0 : Int) (n1 : Int) (n2 : Bool) (hL : laidMet Tryz.prog Rows.serveDepthRow.laid W) (hsh : W.ShapedOpen Tryz.prog) :
    Calls Tryz.prog 5 #[.int .i64 n0, .int .i64 n1, .bool n2] W fun e w' => e = .returned (.bool true) ∧ Below W.heap.size W w' := by
  letI : Ax.Sy := { str := fun _ => [] }
  obtain ⟨m, hR⟩ := Tz.rel_of hL hsh (by simp [Rows.serveDepthRow]) (by simp [Rows.serveDepthRow]) (by simp [Rows.serveDepthRow]) (by simp [Rows.serveDepthRow])
  have h0 : Ax.g (fun _ => none) (.sint .i64 n0 [(-9, n0 % 9)]) = some (.int .i64 n0) := by
    have : Ax.hintOk n0 [(-9, n0 % 9)] = true := by simp [Ax.hintOk, Ax.hint1]
    simp only [Ax.g, this, if_true]
  have h1 : Ax.g (fun _ => none) (.sint .i64 n1 [(-11, n1 % 11)]) = some (.int .i64 n1) := by
    have : Ax.hintOk n1 [(-11, n1 % 11)] = true := by simp [Ax.hintOk, Ax.hint1]
    simp only [Ax.g, this, if_true]
  have h2 : Ax.g (fun _ => none) (.bool n2) = some (.bool n2) := rfl
  exact Tz.args_below (E := Tz.EG m (Tz.orcPush m)) (Tz.EG_ok m 8 (Tz.orcPush_ok m 8)) (Tz.runServeDepth m n0 n1 n2) (by simp only [Ax.gL, h0, h1, h2, Option.bind_some, Option.map_some]) hR

set_option maxRecDepth 100000 in
theorem serveDepth_lifted (os : Os) (started : os.Started) (H : Type) (enc : TypeId × Value → H) :
    ReturnsInHanded {} Tryz.checked os 5 .any (fun w args => (Rows.serveDepthSpec.pre enc Tryz.prog Tryz.f5 [] false w args ∧ laidMetH Tryz.prog Rows.serveDepthRow.laid w) ∧ sizedMet enc Tryz.prog Tryz.f5 (OpenSpec.ofChange Rows.serveDepthSpec) false w args)
      (Rows.serveDepthSpec.post enc Tryz.prog Tryz.f5 false true false false) := by
  refine Tz.lift_shaped (C := Tryz.checked) (X := fun w _ => laidMetH Tryz.prog Rows.serveDepthRow.laid w) (fun _ _ _ hh h => h.of_heap hh) Tz.own started (by kernel_rfl) Tryz.func5
    (ChangeSpec.witness_shaped (enc := enc) (C := Tryz.checked) (os := os) (X := fun w _ => laidMetH Tryz.prog Rows.serveDepthRow.laid w) false (World.laidAll Tryz.prog os Rows.serveDepthRow.laid) #[.int .i64 0, .int .i64 0, .bool false] 8 (World.laidAll_os _ _ _)
      (World.shaped_of_ZipB (by kernel_rfl) (by kernel_rfl)) (by kernel_rfl) (by kernel_rfl) (by kernel_rfl)
      (by rw [MakeChecks.laidMetH_plain _ _ _ (by kernel_rfl)]; exact laidMet_laidAll _ (by kernel_rfl) (by kernel_rfl))) ?_
  intro W base args ds gs before hval0 hW hL hsh
  have hval : ∀ (j : Nat) t v, Tryz.f5.params[j]? = some t → args[j]? = some v → Value.okWide Tryz.prog W .any base t v := hval0
  have hW' := hW
  obtain ⟨p, q, hA0, hV, rfl, _, _⟩ := hW
  have hA : DataW.TrodAll enc Tryz.prog W 0 (fun _ => true) true Tryz.f5.params.toList args.toList ds p := hA0
  rw [Tryz.params5] at hA hval
  obtain ⟨v0, v1, v2, d0, d1, d2, p0, p1, p2, rfl, rfl, rfl, h0, h1, h2⟩ := trodAll_three hA
  obtain ⟨rfl, rfl⟩ := trodVars_none hV
  obtain ⟨x, rfl, rfl, rfl, wx⟩ := open_int Tryz.underlying3 (hval 0 3 v0 rfl rfl) h0
  obtain ⟨y, rfl, rfl, rfl, wy⟩ := open_int Tryz.underlying3 (hval 1 3 v1 rfl rfl) h1
  obtain ⟨z, rfl, rfl, rfl⟩ := open_bool Tryz.underlying4 (hval 2 4 v2 rfl rfl) h2
  simp only [List.append_nil] at hW'
  rw [MakeChecks.laidMetH_plain _ _ _ (by kernel_rfl)] at hL
  refine (serveDepth_calls x y z hL hsh).mono fun e W' ⟨he, hb⟩ => ?_
  subst he
  exact ⟨_, rfl, _, _, _, [], [], [], hW', trodAll_mk1 (shut_bool Tryz.underlying4 _), trodAll_mk3 (shut_int Tryz.underlying3 wx) (shut_int Tryz.underlying3 wy) (shut_bool Tryz.underlying4 _), rfl, hb.frame _, fun h => by cases h⟩

theorem serveDepth_holds : Rows.ServeDepthCardSaid := serveDepth_card_of (serveDepth_row_of serveDepth_lifted)
#print axioms serveDepth_holds
end Go.Proofs.YtdimdhloklnkmaaGreatDoor
