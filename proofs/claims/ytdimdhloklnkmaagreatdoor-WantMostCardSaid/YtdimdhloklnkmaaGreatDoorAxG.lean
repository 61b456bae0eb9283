/- An oracle for sorting; its conditions stand in the statement. -/
import Derived.Test.YtdimdhloklnkmaaGreatDoorAxE
import Derived.Shelf.SlSortCmp.NoneTotal
set_option linter.unusedVariables false
set_option linter.unusedSimpArgs false
set_option linter.unusedSectionVars false
namespace Ax
open Go Go.Maps Go.Proofs Go.Sort Go.Shelf Go.RowKit
variable [Sy]

noncomputable def cmpL (a b : List Nat) : Int := bif ltL a b then -1 else bif ltL b a then 1 else 0
noncomputable def cfB (x y : B32) : Int := cmpL x.l y.l
theorem ltOf_cfB (x y : B32) : ltOf cfB x y = ltL x.l y.l := by
  unfold ltOf cfB cmpL
  cases h : ltL x.l y.l with
  | true => rfl
  | false => cases ltL y.l x.l <;> rfl
theorem swoB : SWO (ltOf cfB) where
  irrefl x := by rw [ltOf_cfB, ltL_false]; exact List.le_refl _
  trans x y z h1 h2 := by rw [ltOf_cfB] at *; rw [ltL_lt] at *; exact List.lt_trans h1 h2
  ntrans x y z h1 h2 := by rw [ltOf_cfB] at *; rw [ltL_false] at *; exact List.le_trans h2 h1
theorem totB (x y : B32) (h1 : ltOf cfB x y = false) (h2 : ltOf cfB y x = false) : x = y := by
  rw [ltOf_cfB, ltL_false] at *
  exact B32.ext (List.le_antisymm h2 h1)

theorem flat_getB : ∀ (xs : List B32) (t : Nat), t < xs.length * 32 → (xs.map encB).flatten[t]? = some ((encB xs[t / 32]!)[t % 32]!)
  | [], t, h => by simp at h
  | x :: xs, t, h => by
    have hx := encB_len x
    simp only [List.map_cons, List.flatten_cons]
    by_cases h1 : t < 32
    · rw [List.getElem?_append_left (by omega), show t / 32 = 0 by omega, show t % 32 = t by omega]
      simp [hx, h1]
    · rw [List.getElem?_append_right (by omega), hx, flat_getB xs (t - 32) (by simp at h; omega), show t / 32 = (t - 32) / 32 + 1 by omega, show (t - 32) % 32 = t % 32 by omega]
      simp
theorem flatK_get (xs : List B32) (t : Nat) (h : t < xs.length * 32) : (xs.map encB).flatten[t]? = some ((flatK encB 32 xs.toArray)[t]!) := by
  rw [flat_getB xs t h, get_flatK _ _ _ _ (by simpa using h)]
  simp

theorem sortLaw {P : Program} {ρ : Ren} {c : Nat} (L : SlLaysF0.n6 P ρ) (aE : ∀ w, (isAgg (ρ.t 24)).run P w = .ok true w) (zE : ∀ w, (Go.sizeOf (ρ.t 24)).run P w = .ok 32 w) (eg : ∀ args w, (callFunc c args).run P w = .ok (.enter c args) w)
    (cmp : ∀ (x y : B32) (W : World), Calls P c #[.agg (encB x).toArray, .agg (encB y).toArray] W fun e w' => e = .returned (.int .i64 (cfB x y)) ∧ ∃ q os', w' = grow (W.drewN q) os') : SortLaw P (ρ.f 6) c := by
  intro blk off cap xs w cs el lo hi hh hfz hle hcell hn
  have hblk : blk < w.heap.size := (Array.getElem?_eq_some_iff.1 hh).1
  have hH : HoldsK encB 32 w blk off xs.toArray := by
    intro j hj
    rw [size_flatK, List.size_toArray] at hj
    constructor
    · simp only [World.cell?, hh, Option.isSome_none, Bool.false_eq_true, if_false, id]
      rw [hcell j hj, flatK_get xs j hj]
    · simp only [World.frozen?, hh]
      rw [Bool.and_eq_false_iff]
      rcases hfz with h | h
      · by_cases h2 : lo ≤ off + j
        · right; simp; omega
        · left; simp; omega
      · left; simp; omega
  have h1 : ∀ x : B32, ∀ v ∈ encB x, v.oneCell' = true := fun x v hv => by
    obtain ⟨n, _, rfl⟩ := List.mem_map.1 hv; rfl
  have := AnyQ.slices_SortFunc_total L 32 aE zE encB encB_len h1 cfB swoB c #[] blk off cap xs.toArray w eg (fun m os dk _ x y => cmp x y _) hH hblk (by simpa using hn) totB
  rw [List.size_toArray] at this
  refine this.mono ?_
  rintro e w' ⟨rfl, n, os, rfl⟩
  generalize hys : (xs.toArray.toList.mergeSort fun x y => !(ltOf cfB) y x) = ys
  have hyp : ys.Perm xs := by rw [← hys]; exact List.mergeSort_perm _ _
  have hyl : ys.length = xs.length := hyp.length_eq
  have hys2 : (ys.map (·.l)).Pairwise (fun a b => ltL b a = false) := by
    have : ys.Pairwise fun a b => (!(ltOf cfB) b a) = true := by
      rw [← hys]
      refine List.pairwise_mergeSort ?_ ?_ _
      · intro a b c hab hbc
        simp only [ltOf_cfB, Bool.not_eq_true', ltL_false] at *
        exact List.le_trans hab hbc
      · intro a b
        simp only [ltOf_cfB, Bool.or_eq_true, Bool.not_eq_true', ltL_false]
        exact List.le_total _ _
    exact List.Pairwise.map _ (fun a b hab => by simpa [ltOf_cfB] using hab) this
  refine ⟨rfl, ys, Go.Sort.putCells id off (flatK encB 32 ys.toArray) cs, hyp, hys2, rfl, rfl, rfl, ?_, ?_, ?_, ?_, ?_, ?_⟩
  · unfold sortWorldK putRowK; simp
  · intro b hb hne
    show ((w.heap.modify blk _) ++ os)[b]? = _
    rw [Array.getElem?_append_left (by simpa using hb), Array.getElem?_modify, if_neg (Ne.symm hne)]
  · show ((w.heap.modify blk _) ++ os)[blk]? = _
    rw [Array.getElem?_append_left (by simpa using hblk), Array.getElem?_modify, if_pos rfl, hh]
    rfl
  · simp [Go.Sort.putCells]
  · intro i hi
    rw [flatK_get ys i (by omega)]
    simp only [Go.Sort.putCells, Array.getElem?_mapIdx]
    have hlt : off + i < cs.size := by omega
    rw [Array.getElem?_eq_getElem hlt, Option.map_some, if_pos ⟨by omega, by rw [size_flatK, List.size_toArray, hyl]; omega⟩]
    simp
  · intro o ho
    simp only [Go.Sort.putCells, Array.getElem?_mapIdx]
    rw [size_flatK, List.size_toArray, hyl]
    cases hc : cs[o]? with
    | none => rfl
    | some v => simp only [Option.map_some]; rw [if_neg ho]
end Ax
