/- DepthMerge answers true at every argument, as its tied card says; on no condition. -/
import Derived.Test.YtcbogemnimpkcaaGreatDoorBege
import Derived.Test.YtcbogemnimpkcaaGreatDoorCmp
import Derived.Test.YtcbogemnimpkcaaGreatDoorMgg
import Derived.Test.YtcbogemnimpkcaaGreatDoorMgh
import Derived.Test.YtcbogemnimpkcaaGreatDoorLift
import Derived.Test.YtcbogemnimpkcaaGreatDoorMeF
import Derived.Test.YtcbogemnimpkcaaGreatDoorTie
import Derived.Test.YtcbogemnimpkcaaGreatDoorCards
set_option linter.unusedVariables false
set_option linter.unusedSimpArgs false
set_option linter.unusedSectionVars false
namespace Go.Proofs.YtcbogemnimpkcaaGreatDoor
open Go Go.RowKit Go.ChangeShapes Go.WideShapes Go.ChangeAt Go.Proofs

set_option maxRecDepth 100000 in
theorem merge_begun {W : World} (hL : laidMet Tryz.prog Rows.depthMergeRow.laid W) (hsh : W.ShapedOpen Tryz.prog) :
    Calls Tryz.prog 4 #[] W fun e w' => e = .returned (.bool true) ∧ Below W.heap.size W w' := by
  letI : Ax.Sy := { str := fun _ => [] }
  obtain ⟨m, hR⟩ := Tz.rel_of hL hsh (by simp [Rows.depthMergeRow]) (by simp [Rows.depthMergeRow]) (by simp [Rows.depthMergeRow]) (by simp [Rows.depthMergeRow])
  have hrun := Tz.run15 m
  rw [Ax.callF_eq] at hrun
  obtain ⟨h', hc⟩ := Tz.isTrue_ok hrun
  exact Ax.closed_below (E := Tz.EG m (Tz.orcM15 m)) (Tz.plain m) (Tz.EG_ok m 9 (Tz.orcM15_ok m 9)) hc hR
theorem sort_nil : Mg.SortNil := fun w => AnyF.slices_SortFunc_none Tryz.sortIds none 0 _ w
theorem sort_ids : Ax.SortLaw Tryz.prog 65 66 := by
  letI : Ax.Sy := { str := fun _ => [] }
  exact Tz.sortIds_law
theorem clone_ids : Ax.CloneLaw Tryz.prog 29 Mg.TI := by
  letI : Ax.Sy := { str := fun _ => [] }
  exact Tz.cloneIds_law

set_option maxRecDepth 100000 in
theorem depthMerge_lifted (os : Os) (started : os.Started) (H : Type) (enc : TypeId × Value → H) :
    ReturnsInHanded {} Tryz.checked os 3 .any (fun w args => (Rows.depthMergeSpec.pre enc Tryz.prog Tryz.f3 [] false w args ∧ laidMetH Tryz.prog Rows.depthMergeRow.laid w) ∧ sizedMet enc Tryz.prog Tryz.f3 (OpenSpec.ofChange Rows.depthMergeSpec) false w args)
      (Rows.depthMergeSpec.post enc Tryz.prog Tryz.f3 false true false false) := by
  refine Tz.lift_shaped (C := Tryz.checked) (X := fun w _ => laidMetH Tryz.prog Rows.depthMergeRow.laid w) (fun _ _ _ hh h => h.of_heap hh) Tz.own started (by kernel_rfl) Tryz.func3
    (ChangeSpec.witness_shaped (enc := enc) (C := Tryz.checked) (os := os) (X := fun w _ => laidMetH Tryz.prog Rows.depthMergeRow.laid w) false (World.laidAll Tryz.prog os Rows.depthMergeRow.laid) #[.slice none 0 0, .slice none 0 0, .slice none 0 0] 8 (World.laidAll_os _ _ _)
      (World.shaped_of_ZipB (by kernel_rfl) (by kernel_rfl)) (by kernel_rfl) (by kernel_rfl) (by kernel_rfl)
      (by rw [MakeChecks.laidMetH_plain _ _ _ (by kernel_rfl)]; exact laidMet_laidAll _ (by kernel_rfl) (by kernel_rfl))) ?_
  intro W base args ds gs before hval0 hW hL hsh
  have hval : ∀ (j : Nat) t v, Tryz.f3.params[j]? = some t → args[j]? = some v → Value.okWide Tryz.prog W .any base t v := hval0
  have hW' := hW
  have hlt := hW.lt
  obtain ⟨p, q, hA0, hV, rfl, _, _⟩ := hW
  have hA : DataW.TrodAll enc Tryz.prog W 0 (fun _ => true) true Tryz.f3.params.toList args.toList ds p := hA0
  rw [Tryz.params3] at hA hval
  obtain ⟨v0, v1, v2, d0, d1, d2, p0, p1, p2, rfl, rfl, rfl, h0, h1, h2⟩ := trodAll_three hA
  obtain ⟨rfl, rfl⟩ := trodVars_none hV
  simp only [List.append_nil] at hW' hlt
  rw [MakeChecks.laidMetH_plain _ _ _ (by kernel_rfl)] at hL
  have l0 : ∀ x ∈ p0, x.block < W.heap.size := fun x hx => hlt x (by simp [hx])
  have l1 : ∀ x ∈ p1, x.block < W.heap.size := fun x hx => hlt x (by simp [hx])
  have l2 : ∀ x ∈ p2, x.block < W.heap.size := fun x hx => hlt x (by simp [hx])
  obtain ⟨o, ho⟩ := Mg.ids_args h0 l0 (okWide_slice Tryz.underlying22 (hval 0 22 v0 rfl rfl))
  obtain ⟨i, hi⟩ := Mg.ids_args h1 l1 (okWide_slice Tryz.underlying22 (hval 1 22 v1 rfl rfl))
  obtain ⟨ao, len, cap, rfl, hlen, hns⟩ := Mg.ints_args h2 l2 (okWide_slice Tryz.underlying23 (hval 2 23 v2 rfl rfl))
  refine (Mg.merge_law sort_ids sort_nil clone_ids v0 v1 o i ao len cap W ho hi hlen hns (merge_begun hL hsh)).mono fun e W' ⟨he, hb⟩ => ?_
  subst he
  refine ⟨_, rfl, _, _, _, [], _, [], hW', trodAll_mk1 (shut_bool Tryz.underlying4 _), trodAll_mk3 (Below.trod (by kernel_rfl) (by kernel_rfl) (of_decide_eq_true (by kernel_rfl)) h0 hb l0) (Below.trod (by kernel_rfl) (by kernel_rfl) (of_decide_eq_true (by kernel_rfl)) h1 hb l1) (Below.trod (by kernel_rfl) (by kernel_rfl) (of_decide_eq_true (by kernel_rfl)) h2 hb l2), rfl, hb.frame _, fun h => by cases h⟩

theorem depthMerge_holds : Rows.DepthMergeCardSaid := depthMerge_card_of (depthMerge_row_of depthMerge_lifted)
#print axioms depthMerge_holds
end Go.Proofs.YtcbogemnimpkcaaGreatDoor
