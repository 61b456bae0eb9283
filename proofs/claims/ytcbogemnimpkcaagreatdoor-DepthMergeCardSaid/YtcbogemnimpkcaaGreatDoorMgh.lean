/- Arguments that are rows of names or of numbers; the conditions stand in each statement. -/
import Derived.Test.YtcbogemnimpkcaaGreatDoorMga
import Derived.OpenShut
import Derived.Deep.Slices
import Derived.ChangeMaps5
import Derived.Carry
set_option linter.unusedVariables false
set_option linter.unusedSimpArgs false
set_option linter.unusedSectionVars false
namespace Mg
open Go Go.Proofs Go.RowKit Ax Go.ChangeShapes Go.WideShapes Go.Deep

section
variable {H : Type} {enc : TypeId × Value → H} {W : World} {v : Value} {d : DataW H} {p : List MemPlace}
theorem ids_args (h : DataW.Trod enc Tryz.prog W 0 (fun _ => true) true 22 v d p) (hp : ∀ x ∈ p, x.block < W.heap.size) (hv : ∃ ao len cap, v = .slice ao len cap) : ∃ l, RdI v l W := by
  obtain ⟨fuel, hf⟩ := h
  obtain ⟨ao, len, cap, rfl⟩ := hv
  have hcI : Tryz.prog.cellsOf TI = 32 := by kernel_rfl
  have hcb : Tryz.prog.cellsOf 5 = 1 := by kernel_rfl
  rcases open_slice (e := TI) Tryz.underlying22 hf with ⟨hcs, _⟩ | ⟨a, len', cap', m, n, D, Pl, hcs, _, hle, hmax, hm, hx, hi⟩
  · simp [Value.cells] at hcs
    obtain ⟨rfl, rfl, rfl⟩ := hcs
    exact ⟨[], none, 0, rfl, Nat.le_refl _, Nat.zero_le _, .inl rfl⟩
  · simp [Value.cells] at hcs
    obtain ⟨rfl, rfl, rfl⟩ := hcs
    rw [if_pos rfl] at hm
    have hid : ∀ i, i < len → ∃ x : B32, IdAt (a.add (i * 32)) x W := fun i hil => by
      obtain ⟨cs', hc, ht⟩ := hi i (by omega)
      rw [hcI] at hc
      obtain ⟨_, hcl, hat⟩ := World.cells?_some hc
      obtain ⟨xs, m', _, _, _, hxl, hel⟩ := DataW.trod_array uI ht
      have key : ∀ j (hj : j < cs'.length), ∃ k : Nat, k < 256 ∧ cs'[j] = Value.int .u8 (Int.ofNat k) := fun j hj => by
        have h1 := hel j (by omega)
        rw [hcb, Nat.mul_one] at h1
        have h2 : (cs'.drop j).take 1 = [cs'[j]] := by rw [List.drop_eq_getElem_cons hj]; rfl
        rw [h2, List.getElem?_eq_getElem (by omega)] at h1
        obtain ⟨k, e1, _, hw⟩ := DataW.trod_int Tryz.underlying5 h1
        simp only [List.cons.injEq, and_true] at e1
        simp [Lit.wf, IntKind.min, IntKind.max, IntKind.signed, IntKind.bits] at hw
        have hk0 : 0 ≤ k := by omega
        have hk1 : k.toNat < 256 := by omega
        have hk2 : Int.ofNat k.toNat = k := Int.toNat_of_nonneg hk0
        exact ⟨k.toNat, hk1, by rw [e1, hk2]⟩
      refine ⟨⟨cs'.map (fun v => match v with | .int _ k => k.toNat | _ => 0), by rw [List.length_map, hcl], fun k hk => ?_⟩, ?_⟩
      · obtain ⟨u, hu, rfl⟩ := List.mem_map.1 hk
        obtain ⟨j, hj, rfl⟩ := List.mem_iff_getElem.1 hu
        obtain ⟨k, h1, h2⟩ := key j hj
        rw [h2]
        exact h1
      · intro j u hj
        have hjl : j < cs'.length := by
          have := (List.getElem?_eq_some_iff.1 hj).1
          simpa [encB] using this
        obtain ⟨k, h1, h2⟩ := key j hjl
        rw [hat j (by omega), List.getElem?_eq_getElem hjl, ← hj]
        simp only [encB, List.getElem?_map, List.getElem?_eq_getElem hjl, Option.map_some, h2, bV]
        rfl
    by_cases h0 : len = 0
    · subst h0
      exact ⟨[], _, cap, rfl, by simp, hmax, .inl rfl⟩
    · have hab : a.block < W.heap.size := by
        have hpx := congrArg Prod.snd hx
        simp only at hpx
        refine hp (.cell a.block (a.off + 0)) ?_
        rw [hpx, List.mem_append]
        left
        exact MemPlace.mem_row.2 ⟨0, by subst hm; rw [hcI]; omega, rfl⟩
      refine ⟨(List.range len).map fun i => if hi : i < len then Classical.choose (hid i hi) else default, some a, cap, by simp, by simpa using hle, hmax, .inr ⟨a, rfl, hab, fun k hk => ?_⟩⟩
      have hk' : k < len := by simpa using hk
      simp only [List.getElem_map, List.getElem_range, dif_pos hk']
      exact Classical.choose_spec (hid k hk')
theorem ints_args (h : DataW.Trod enc Tryz.prog W 0 (fun _ => true) true 23 v d p) (hp : ∀ x ∈ p, x.block < W.heap.size) (hv : ∃ ao len cap, v = .slice ao len cap) :
    ∃ ao len cap, v = .slice ao len cap ∧ len ≤ maxLen ∧ (len = 0 ∨ ∃ a, ao = some a ∧ a.block < W.heap.size ∧ ∀ i, i < len → ∃ n : Int, W.cell? (a.add i) = some (.int .i64 n)) := by
  obtain ⟨fuel, hf⟩ := h
  obtain ⟨ao, len, cap, rfl⟩ := hv
  have hcI : Tryz.prog.cellsOf 3 = 1 := by kernel_rfl
  rcases open_slice (e := 3) Tryz.underlying23 hf with ⟨hcs, _⟩ | ⟨a, len', cap', m, n, D, Pl, hcs, _, hle, hmax, hm, hx, hi⟩
  · simp [Value.cells] at hcs
    obtain ⟨rfl, rfl, rfl⟩ := hcs
    exact ⟨_, _, _, rfl, Nat.zero_le _, .inl rfl⟩
  · simp [Value.cells] at hcs
    obtain ⟨rfl, rfl, rfl⟩ := hcs
    rw [if_pos rfl] at hm
    refine ⟨_, _, _, rfl, by omega, ?_⟩
    by_cases h0 : len = 0
    · exact .inl h0
    · right
      refine ⟨a, rfl, ?_, fun i hil => ?_⟩
      · have hpx := congrArg Prod.snd hx
        simp only at hpx
        refine hp (.cell a.block (a.off + 0)) ?_
        rw [hpx, List.mem_append]
        left
        exact MemPlace.mem_row.2 ⟨0, by subst hm; rw [hcI]; omega, rfl⟩
      · obtain ⟨cs', hc, ht⟩ := hi i (by omega)
        rw [hcI, Nat.mul_one] at hc
        obtain ⟨_, hcl, hat⟩ := World.cells?_some hc
        obtain ⟨k, e1, _, _⟩ := DataW.trod_int Tryz.underlying3 ht
        subst e1
        have := hat 0 (by omega)
        rw [show (a.add i).add 0 = a.add i by unfold Addr.add; simp] at this
        exact ⟨k, this⟩
end
end Mg
