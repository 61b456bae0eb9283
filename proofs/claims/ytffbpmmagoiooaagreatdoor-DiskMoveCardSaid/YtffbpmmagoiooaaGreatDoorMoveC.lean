/- DiskMove answers true at every two texts and every number: the tied card; on no condition but what the row itself lists. -/
import Derived.Test.YtffbpmmagoiooaaGreatDoorMoveR
import Derived.Test.YtffbpmmagoiooaaGreatDoorMoveF
import Derived.ChangeMaps5
import Derived.Test.YtffbpmmagoiooaaGreatDoorTie
import Derived.Test.YtffbpmmagoiooaaGreatDoorCards
set_option linter.unusedVariables false
set_option linter.unusedSimpArgs false
set_option linter.unusedSectionVars false
namespace Go.Proofs.YtffbpmmagoiooaaGreatDoor
open Go Go.RowKit Go.ChangeShapes Go.WideShapes Go.ChangeAt Go.Proofs

theorem move_calls {W : World} (a b : ByteArray) (n : Nat) (hL : laidMet Tryz.prog Rows.diskMoveRow.laid W) (hsh : W.ShapedOpen Tryz.prog) :
    Calls Tryz.prog 4 #[.string a, .string b, .int .u64 (n : Int)] W fun e w' => e = .returned (.bool true) ∧ Below W.heap.size W w' := by
  letI : Ax.Sy := ⟨fun i => if i = 0 then a.data.toList else if i = 1 then b.data.toList else if i = 10 then a.data.toList.take 30 else if i = 11 then b.data.toList.take 30 else []⟩
  obtain ⟨m, hR⟩ := Tz.rel_of hL hsh (by simp [Rows.diskMoveRow]) (by simp [Rows.diskMoveRow]) (by simp [Rows.diskMoveRow]) (by simp [Rows.diskMoveRow])
  have hT : ∀ i, i < 2 → Ax.Sy.str (i + 10) = (Ax.Sy.str i).take 30 := fun i hi => by
    rcases (by omega : i = 0 ∨ i = 1) with rfl | rfl <;> rfl
  have hrun : Tz.isTrue (Ax.call (Tz.EG m (Tz.orcM m)) 100000 4 [.tstr 0, .tstr 1, .sbit n [n % 2 == 1]] Ax.Hp.empty) = true := by
    cases h : (n % 2 == 1) with
    | false => exact Tz.runMove0 m n
    | true => exact Tz.runMove1 m n
  refine Tz.args_below (E := Tz.EG m (Tz.orcM m)) (Tz.EG_ok m 8 (Tz.orcM_ok m 8 hT)) hrun ?_ hR
  have ha : Ax.g (fun _ => none) (.tstr 0) = some (.string a) := by
    show some (Value.string ⟨a.data.toList.toArray⟩) = _
    cases a; simp
  have hb : Ax.g (fun _ => none) (.tstr 1) = some (.string b) := by
    show some (Value.string ⟨b.data.toList.toArray⟩) = _
    cases b; simp
  have hn : Ax.g (fun _ => none) (.sbit n [n % 2 == 1]) = some (.int .u64 (n : Int)) := by
    have : Ax.bitsOk n [n % 2 == 1] = true := by
      rcases Nat.mod_two_eq_zero_or_one n with h | h <;> simp [Ax.bitsOk, h]
    simp only [Ax.g, this, if_true]
  simp only [Ax.gL, ha, hb, hn, Option.bind_some, Option.map_some]

set_option maxRecDepth 100000 in
theorem move_lifted (os : Os) (started : os.Started) (H : Type) (enc : TypeId × Value → H) :
    ReturnsInHanded {} Tryz.checked os 4 .any (fun w args => (Rows.diskMoveSpec.pre enc Tryz.prog Tryz.f4 [] false w args ∧ laidMetH Tryz.prog Rows.diskMoveRow.laid w) ∧ sizedMet enc Tryz.prog Tryz.f4 (OpenSpec.ofChange Rows.diskMoveSpec) false w args)
      (Rows.diskMoveSpec.post enc Tryz.prog Tryz.f4 false true false false) := by
  refine Tz.lift_shaped (C := Tryz.checked) (X := fun w _ => laidMetH Tryz.prog Rows.diskMoveRow.laid w) (fun _ _ _ hh h => h.of_heap hh) Tz.own started (by kernel_rfl) Tryz.func4
    (ChangeSpec.witness_shaped (enc := enc) (C := Tryz.checked) (os := os) (X := fun w _ => laidMetH Tryz.prog Rows.diskMoveRow.laid w) false (World.laidAll Tryz.prog os Rows.diskMoveRow.laid) #[.string ⟨#[]⟩, .string ⟨#[]⟩, .int .u64 0] 8 (World.laidAll_os _ _ _)
      (World.shaped_of_ZipB (by kernel_rfl) (by kernel_rfl)) (by kernel_rfl) (by kernel_rfl) (by kernel_rfl)
      (by rw [MakeChecks.laidMetH_plain _ _ _ (by kernel_rfl)]; exact laidMet_laidAll _ (by kernel_rfl) (by kernel_rfl))) ?_
  intro W base args ds gs before hval0 hW hL hsh
  have hval : ∀ (j : Nat) t v, Tryz.f4.params[j]? = some t → args[j]? = some v → Value.okWide Tryz.prog W .any base t v := hval0
  have hW' := hW
  obtain ⟨p, q, hA0, hV, rfl, _, _⟩ := hW
  have hA : DataW.TrodAll enc Tryz.prog W 0 (fun _ => true) true Tryz.f4.params.toList args.toList ds p := hA0
  rw [Tryz.params4] at hA hval
  obtain ⟨v0, v1, v2, d0, d1, d2, p0, p1, p2, rfl, rfl, rfl, h0, h1, h2⟩ := trodAll_three hA
  obtain ⟨rfl, rfl⟩ := trodVars_none hV
  obtain ⟨x, rfl, rfl, rfl, wx⟩ := Go.ChangeMaps.open_string Tryz.underlying9 (hval 0 9 v0 rfl rfl) h0
  obtain ⟨y, rfl, rfl, rfl, wy⟩ := Go.ChangeMaps.open_string Tryz.underlying9 (hval 1 9 v1 rfl rfl) h1
  obtain ⟨z, rfl, rfl, rfl, wz⟩ := open_int Tryz.underlying32 (hval 2 32 v2 rfl rfl) h2
  simp only [List.append_nil] at hW'
  rw [MakeChecks.laidMetH_plain _ _ _ (by kernel_rfl)] at hL
  obtain ⟨n, rfl⟩ : ∃ n : Nat, z = (n : Int) := by
    have h0 : 0 ≤ z := by
      have := wz
      simp [Lit.wf, IntKind.min, IntKind.max, IntKind.signed, IntKind.bits] at this
      omega
    exact ⟨z.toNat, by omega⟩
  refine (move_calls x y n hL hsh).mono fun e W' ⟨he, hb⟩ => ?_
  subst he
  exact ⟨_, rfl, _, _, _, [], [], [], hW', trodAll_mk1 (shut_bool Tryz.underlying4 _), trodAll_mk3 (Go.ChangeMaps.shut_string Tryz.underlying9 wx) (Go.ChangeMaps.shut_string Tryz.underlying9 wy) (shut_int Tryz.underlying32 wz), rfl, hb.frame _, fun h => by cases h⟩

theorem diskMove_holds : Rows.DiskMoveCardSaid := diskMove_card_of (diskMove_row_of move_lifted)
#print axioms diskMove_holds
end Go.Proofs.YtffbpmmagoiooaaGreatDoor
