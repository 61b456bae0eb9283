/- DiskAll answers true at every argument, as its tied card says; on no condition. -/
import Derived.Test.YtiikdbnblacbhaaGreatDoorRi
import Derived.Test.YtiikdbnblacbhaaGreatDoorBegc
import Derived.Test.YtiikdbnblacbhaaGreatDoorLift
import Derived.Test.YtiikdbnblacbhaaGreatDoorAllF
import Derived.ChangeMaps5
import Derived.Carry
import Derived.Deep.Slices
import Derived.Deep.Fields
import Derived.ChangeSame
import Derived.Test.YtiikdbnblacbhaaGreatDoorTie
import Derived.Test.YtiikdbnblacbhaaGreatDoorCards
set_option linter.unusedVariables false
set_option linter.unusedSimpArgs false
set_option linter.unusedSectionVars false
namespace Go.Proofs.YtiikdbnblacbhaaGreatDoor
open Go Go.RowKit Go.ChangeShapes Go.WideShapes Go.ChangeAt Go.Proofs Go.Deep

section
variable {H : Type} {enc : TypeId × Value → H} {P : Program} {w : World} {base : Nat} {spare : Nat → Bool} {held : Bool}
theorem open_slice_fields {t e : TypeId} {fs : Array Field} {fuel : Nat} {cs : List Value} {x : DataW H × List MemPlace} (ht : P.underlying t = some (.slice e)) (he : P.underlying e = some (.struct fs))
    (hone : oneCellFields P fs = true) (hC : P.cellsOf e = fs.size) (h : DataW.trod enc P w base spare held fuel t cs = some x) :
    (cs = [.slice none 0 0] ∧ x = (.nil, [])) ∨
    ∃ (a : Addr) (len cap m : Nat) (D : Nat → DataW H) (Pl : Nat → List MemPlace), cs = [.slice (some a) len cap] ∧ base ≤ a.block ∧ len ≤ cap ∧ cap ≤ maxLen ∧ m = (if spare a.block then cap else len) ∧
      x = (.slice ((List.range len).map D) ((List.range (m - len)).map fun j => D (len + j)), MemPlace.row a (m * fs.size) ++ (List.range m).flatMap Pl) ∧
      ∀ i, i < m → ∃ (ys : List (DataW H × List MemPlace)) (n : Nat), D i = .agg (ys.map (·.1)) ∧ Pl i = ys.flatMap (·.2) ∧ ys.length = fs.size ∧
        ∀ (j : Nat) (f : Field), fs[j]? = some f → ∃ (v : Value) (y : DataW H × List MemPlace), w.cell? (a.add (i * fs.size + j)) = some v ∧ ys[j]? = some y ∧ DataW.trod enc P w base spare held n f.type [v] = some y := by
  rcases open_slice ht h with h0 | ⟨a, len, cap, m, n, D, Pl, hcs, hb, hl, hm, hmm, hx, hi⟩
  · exact .inl h0
  · refine .inr ⟨a, len, cap, m, D, Pl, hcs, hb, hl, hm, hmm, by rw [hC] at hx; exact hx, fun i him => ?_⟩
    obtain ⟨cs', hc, ht'⟩ := hi i him
    rw [hC] at hc
    obtain ⟨ys, n', hn', hy, hlen, hyl, hf⟩ := DataW.trod_struct he ht'
    obtain ⟨_, hcl, hat⟩ := World.cells?_some hc
    simp only [Prod.mk.injEq] at hy
    refine ⟨ys, n', hy.1, hy.2, hyl, fun j f hj => ?_⟩
    obtain ⟨ho, hk⟩ := hone_of hone j f hj
    have hjl : j < fs.size := (Array.getElem?_eq_some_iff.1 hj).1
    have hcell := hat j hjl
    have hv : cs'[j]? = some (cs'[j]'(by omega)) := List.getElem?_eq_getElem (by omega)
    have h1 := hf j f hj
    rw [ho, hk] at h1
    have hone' : (cs'.drop j).take 1 = [cs'[j]'(by omega)] := by
      rw [List.drop_eq_getElem_cons (by omega)]
      rfl
    rw [hone'] at h1
    have hys : ys[j]? = some (ys[j]'(by omega)) := List.getElem?_eq_getElem (by omega)
    refine ⟨_, _, ?_, hys, h1.trans hys⟩
    rw [← Go.Deep.add_add, hcell, hv]
end

theorem all_begun {W : World} (hL : laidMet Tryz.prog Rows.diskAllRow.laid W) (hsh : W.ShapedOpen Tryz.prog) :
    Calls Tryz.prog 8 #[] W fun e w' => e = .returned (.bool true) ∧ Below W.heap.size W w' := by
  letI : Ax.Sy := { str := fun _ => [] }
  obtain ⟨m, hR⟩ := Tz.rel_of hL hsh (by simp [Rows.diskAllRow]) (by simp [Rows.diskAllRow]) (by simp [Rows.diskAllRow]) (by simp [Rows.diskAllRow])
  have hrun := Tz.run13 m
  rw [Ax.callF_eq] at hrun
  obtain ⟨h', hc⟩ := Tz.isTrue_ok hrun
  exact Ax.closed_below (E := Tz.EG m (Tz.orcS m)) (Tz.plain m) (Tz.EG_ok m 8 (Tz.orcS_ok m 8)) hc hR

/-- The elements of the argument lie in its row. -/
theorem all_args {H : Type} {enc : TypeId × Value → H} {W : World} {v : Value} {d : DataW H} {p : List MemPlace} (h : DataW.Trod enc Tryz.prog W 0 (fun _ => true) true 59 v d p) (hp : ∀ x ∈ p, x.block < W.heap.size) (hv : ∃ ao len cap, v = .slice ao len cap) :
    ∃ ao len cap, v = .slice ao len cap ∧ (len = 0 ∨ ∃ a, ao = some a ∧ a.block < W.heap.size ∧ ∀ i, i < len → ∃ o : Dk.OpA, o.Ok ∧ Dk.OpAt a i o W) ∧ len ≤ maxLen := by
  obtain ⟨fuel, hf⟩ := h
  obtain ⟨ao, len, cap, rfl⟩ := hv
  rcases open_slice_fields (e := Dk.TB) (fs := _) Tryz.underlying59 Tryz.underlying63 (by kernel_rfl) (by kernel_rfl) hf with ⟨hcs, _⟩ | ⟨a, len', cap', m, D, Pl, hcs, _, hle, hmax, hm, hx, hi⟩
  · simp [Value.cells] at hcs
    obtain ⟨rfl, rfl, rfl⟩ := hcs
    exact ⟨_, _, _, rfl, .inl rfl, by unfold maxLen; omega⟩
  · simp [Value.cells] at hcs
    obtain ⟨rfl, rfl, rfl⟩ := hcs
    rw [if_pos rfl] at hm
    refine ⟨_, _, _, rfl, ?_, by omega⟩
    by_cases h0 : len = 0
    · exact .inl h0
    · right
      refine ⟨a, rfl, ?_, fun i hil => ?_⟩
      · have hpx := congrArg Prod.snd hx
        simp only at hpx
        refine hp (.cell a.block (a.off + 0)) ?_
        rw [hpx, List.mem_append]
        left
        exact MemPlace.mem_row.2 ⟨0, by subst hm; simp; omega, rfl⟩
      · obtain ⟨ys, n, _, _, _, hc⟩ := hi i (by omega)
        obtain ⟨v0, y0, k0, _, t0⟩ := hc 0 _ rfl
        obtain ⟨v1, y1, k1, _, t1⟩ := hc 1 _ rfl
        obtain ⟨v2, y2, k2, _, t2⟩ := hc 2 _ rfl
        obtain ⟨v3, y3, k3, _, t3⟩ := hc 3 _ rfl
        obtain ⟨v4, y4, k4, _, t4⟩ := hc 4 _ rfl
        obtain ⟨v5, y5, k5, _, t5⟩ := hc 5 _ rfl
        obtain ⟨x0, e0, _, w0⟩ := DataW.trod_int Tryz.underlying3 t0
        obtain ⟨x1, e1, _, w1⟩ := DataW.trod_int Tryz.underlying3 t1
        obtain ⟨x2, e2, _, w2⟩ := DataW.trod_string Tryz.underlying9 t2
        obtain ⟨x3, e3, _, w3⟩ := DataW.trod_string Tryz.underlying9 t3
        obtain ⟨x4, e4, _, w4⟩ := DataW.trod_string Tryz.underlying9 t4
        obtain ⟨x5, e5, _, w5⟩ := DataW.trod_int Tryz.underlying25 t5
        simp only [List.cons.injEq, and_true] at e0 e1 e2 e3 e4 e5
        subst e0 e1 e2 e3 e4 e5
        simp [Lit.wf, IntKind.min, IntKind.max, IntKind.signed, IntKind.bits] at w1 w5
        refine ⟨⟨x0, x1, x2, x3, x4, x5⟩, ⟨by show x1 ≤ _; omega, w2, w3, w4, by show 0 ≤ x5; omega, by show x5 < _; omega⟩, ?_⟩
        refine ⟨?_, ?_, ?_, ?_, ?_, ?_⟩ <;> (rw [Go.Deep.add_add]; assumption)

set_option maxRecDepth 100000 in
theorem diskAll_lifted (os : Os) (started : os.Started) (H : Type) (enc : TypeId × Value → H) :
    ReturnsInHanded {} Tryz.checked os 6 .any (fun w args => (Rows.diskAllSpec.pre enc Tryz.prog Tryz.f6 [] false w args ∧ laidMetH Tryz.prog Rows.diskAllRow.laid w) ∧ sizedMet enc Tryz.prog Tryz.f6 (OpenSpec.ofChange Rows.diskAllSpec) false w args)
      (Rows.diskAllSpec.post enc Tryz.prog Tryz.f6 false true false false) := by
  refine Tz.lift_shaped (C := Tryz.checked) (X := fun w _ => laidMetH Tryz.prog Rows.diskAllRow.laid w) (fun _ _ _ hh h => h.of_heap hh) Tz.own started (by kernel_rfl) Tryz.func6
    (ChangeSpec.witness_shaped (enc := enc) (C := Tryz.checked) (os := os) (X := fun w _ => laidMetH Tryz.prog Rows.diskAllRow.laid w) false (World.laidAll Tryz.prog os Rows.diskAllRow.laid) #[.slice none 0 0] 8 (World.laidAll_os _ _ _)
      (World.shaped_of_ZipB (by kernel_rfl) (by kernel_rfl)) (by kernel_rfl) (by kernel_rfl) (by kernel_rfl)
      (by rw [MakeChecks.laidMetH_plain _ _ _ (by kernel_rfl)]; exact laidMet_laidAll _ (by kernel_rfl) (by kernel_rfl))) ?_
  intro W base args ds gs before hval0 hW hL hsh
  have hval : ∀ (j : Nat) t v, Tryz.f6.params[j]? = some t → args[j]? = some v → Value.okWide Tryz.prog W .any base t v := hval0
  have hW' := hW
  have hlt := hW.lt
  obtain ⟨p, q, hA0, hV, rfl, _, _⟩ := hW
  have hA : DataW.TrodAll enc Tryz.prog W 0 (fun _ => true) true Tryz.f6.params.toList args.toList ds p := hA0
  rw [Tryz.params6] at hA hval
  obtain ⟨v0, d0, rfl, rfl, h0⟩ := trodAll_one hA
  obtain ⟨rfl, rfl⟩ := trodVars_none hV
  simp only [List.append_nil] at hW' hlt
  rw [MakeChecks.laidMetH_plain _ _ _ (by kernel_rfl)] at hL
  have hv0 : ∃ ao len cap, v0 = .slice ao len cap := okWide_slice Tryz.underlying59 (hval 0 59 v0 rfl rfl)
  obtain ⟨ao, len, cap, rfl, hao, hlen⟩ := all_args h0 hlt hv0
  refine (Dk.all_law ao len cap W hao hlen (all_begun hL hsh)).mono fun e W' ⟨he, hb⟩ => ?_
  subst he
  exact ⟨_, rfl, _, _, _, [], p, [], hW', trodAll_mk1 (shut_bool Tryz.underlying4 _), trodAll_mk1 (Below.trod (by kernel_rfl) (by kernel_rfl) (of_decide_eq_true (by kernel_rfl)) h0 hb hlt), rfl, hb.frame _, fun h => by cases h⟩

theorem diskAll_holds : Rows.DiskAllCardSaid := diskAll_card_of (diskAll_row_of diskAll_lifted)
#print axioms diskAll_holds
end Go.Proofs.YtiikdbnblacbhaaGreatDoor
