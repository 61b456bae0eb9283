/- Names are sorted, walked; the law of merging in plain words; the conditions stand in each statement. -/
import Derived.Test.YtcbogemnimpkcaaGreatDoorMgb
import Derived.Lib.SliceRun
set_option linter.unusedVariables false
set_option linter.unusedSimpArgs false
set_option linter.unusedSectionVars false
namespace Mg
open Go Go.Proofs Go.RowKit Ax Go.Sort Go.Lib

theorem flat_getI : ∀ (xs : List B32) (t : Nat), t < xs.length * 32 → (xs.map encB).flatten[t]? = some ((encB xs[t / 32]!)[t % 32]!)
  | [], t, h => by simp at h
  | x :: xs, t, h => by
    have hx := encL x
    simp only [List.map_cons, List.flatten_cons]
    by_cases h1 : t < 32
    · rw [List.getElem?_append_left (by omega), show t / 32 = 0 by omega, show t % 32 = t by omega]
      simp [hx, h1]
    · rw [List.getElem?_append_right (by omega), hx, flat_getI xs (t - 32) (by simp at h; omega), show t / 32 = (t - 32) / 32 + 1 by omega, show (t - 32) % 32 = t % 32 by omega]
      simp
theorem flatI_get (xs : List B32) (t : Nat) (h : t < xs.length * 32) : (xs.map encB).flatten[t]? = some ((flatK encB 32 xs.toArray)[t]!) := by
  rw [flat_getI xs t h, get_flatK _ _ _ _ (by simpa using h)]
  simp
theorem flatI_len (xs : List B32) : (xs.map encB).flatten.length = xs.length * 32 := by
  induction xs with
  | nil => rfl
  | cons x xs ih => rw [List.map_cons, List.flatten_cons, List.length_append, ih, encL, List.length_cons]; omega
theorem flatI_one (xs : List B32) : ∀ u ∈ (xs.map encB).flatten, u.oneCell' = true := by
  intro u hu
  obtain ⟨r, hr, hu'⟩ := List.mem_flatten.1 hu
  obtain ⟨x, _, rfl⟩ := List.mem_map.1 hr
  exact one_enc x u hu'
theorem row_of {w : World} {blk : Nat} {cs : Array Value} {el : TypeId} {xs : List B32} (hh : w.heap[blk]? = some (.cells cs el (0, 0))) (hc : ∀ i, i < xs.length * 32 → cs[i]? = (xs.map encB).flatten[i]?) : RowB w blk 0 xs.toArray := by
  intro j hj
  rw [size_flatK, List.size_toArray] at hj
  constructor
  · rw [Nat.zero_add, Lib.cell_of_heap hh, hc j hj, flatI_get xs j hj]
    rfl
  · exact Lib.frozen_of_heap hh _
/-- A row of names of one's own. -/
def OI (B : Nat) (v : Value) (l : List B32) (w : World) : Prop := w.ownsRow B TI 32 v l.length (l.map encB).flatten
theorem OI.nil (B : Nat) (w : World) : OI B (.slice none 0 0) [] w := ⟨rfl, .inl ⟨rfl, rfl⟩⟩
theorem OI.form {B : Nat} {v : Value} {l : List B32} {w : World} (h : OI B v l w) : (v = .slice none 0 0 ∧ l = []) ∨ ∃ g cap cs, v = .slice (some ⟨g, 0, none⟩) l.length cap ∧ B ≤ g ∧ w.heap[g]? = some (.cells cs TI (0, 0)) ∧ l.length ≤ cap ∧ cap ≤ maxLen ∧ cs.size = cap * 32 ∧ ∀ i, i < l.length * 32 → cs[i]? = (l.map encB).flatten[i]? := by
  rcases h.2 with ⟨hv, h0⟩ | ⟨g, cap, cur, hv, hB, hg, hle, hmax, hcs, htake⟩
  · exact .inl ⟨hv, List.eq_nil_of_length_eq_zero h0⟩
  · refine .inr ⟨g, cap, cur, hv, hB, hg, hle, hmax, hcs, fun i hi => ?_⟩
    rw [← htake, List.getElem?_take_of_lt hi]
    simp
theorem OI.rd {B : Nat} {v : Value} {l : List B32} {w : World} (h : OI B v l w) : RdI v l w := by
  rcases h.form with ⟨rfl, rfl⟩ | ⟨g, cap, cs, rfl, _, hg, hle, hmax, _, hc⟩
  · exact ⟨none, 0, rfl, Nat.le_refl _, Nat.zero_le _, .inl rfl⟩
  · refine ⟨_, cap, rfl, hle, hmax, .inr ⟨_, rfl, (Array.getElem?_eq_some_iff.1 hg).1, fun k hk => ?_⟩⟩
    have := RowB.at_ (row_of hg hc) (i := k) (by simpa using hk)
    rw [getElem!_pos _ k (by simpa using hk)] at this
    rw [Addr.add_mid]
    simpa using this
theorem OI.mono {B B' : Nat} {v : Value} {l : List B32} {w : World} (h : OI B v l w) (hB : B' ≤ B) : OI B' v l w := by
  unfold OI World.ownsRow at h ⊢
  refine ⟨h.1, h.2.imp id ?_⟩
  rintro ⟨g, cap, cur, h1, h2, r⟩
  exact ⟨g, cap, cur, h1, Nat.le_trans hB h2, r⟩
theorem OI.below {B : Nat} {v : Value} {l : List B32} {w w' : World} (h : OI B v l w) (hb : Below w.heap.size w w') : OI B v l w' := by
  unfold OI World.ownsRow at h ⊢
  refine ⟨h.1, h.2.imp id ?_⟩
  rintro ⟨g, cap, cur, h1, h2, hg, r⟩
  exact ⟨g, cap, cur, h1, h2, (hb.block g (Array.getElem?_eq_some_iff.1 hg).1).trans hg, r⟩

set_option maxRecDepth 100000 in
theorem clone_nil (w : World) : Calls Tryz.prog 29 #[.slice none 0 0] w fun e w' => e = .returned (.slice none 0 0) ∧ w' = w := by
  have hq : ∀ w, (binOp .eql 22 (.slice none 0 0) (.slice none 0 0)).run Tryz.prog w = .ok (.bool true) w := fun w => Lib.run_eql_slice_nil w _ TI none 0 0 0 0 (by kernel_rfl)
  go_enter Tryz.func29, Tryz.ntmps29
  go_wp2
  go_ret
  exact ⟨rfl, rfl⟩
set_option maxRecDepth 100000 in
theorem compact_nil (w : World) : Calls Tryz.prog 67 #[.slice none 0 0] w fun e w' => e = .returned (.slice none 0 0) ∧ w' = w := by
  go_enter Tryz.func67, Tryz.ntmps67
  go_wp2
  go_ret
  exact ⟨rfl, rfl⟩
theorem heap_putRowK {w : World} {g : Nat} {cs : Array Value} {T : TypeId} {fz : Nat × Nat} (h : w.heap[g]? = some (.cells cs T fz)) (q off : Nat) (d : Array B32) :
    (putRowK encB 32 (Sort.ahead w q) g off d).heap[g]? = some (.cells (Go.Sort.putCells id off (flatK encB 32 d) cs) T fz) := by
  show (w.heap.modify g (onCells _))[g]? = _
  rw [Array.getElem?_modify, if_pos rfl, h]
  rfl
theorem heap_putRowK_other {w : World} {g k : Nat} (hk : k ≠ g) (q off : Nat) (d : Array B32) : (putRowK encB 32 (Sort.ahead w q) g off d).heap[k]? = w.heap[k]? := by
  show (w.heap.modify g (onCells _))[k]? = _
  rw [Array.getElem?_modify, if_neg (fun h => hk h.symm)]
  try rfl
/-- The law of the library's sort at a nil row. -/
def SortNil : Prop := ∀ w : World, Calls Tryz.prog 65 #[.slice none 0 0, .func (.func 66) #[] #[]] w fun e w' => e = .returned (.tuple #[]) ∧ w' = w
theorem compact_own {w0 w w' : World} {g cap q : Nat} {cs : Array Value} {d dk : Array B32} (hg0 : w0.heap.size ≤ g) (hg : w.heap[g]? = some (.cells cs TI (0, 0))) (hcs : cs.size = cap * 32) (hn : d.size ≤ cap) (hmax : cap ≤ maxLen) (hb : Below w0.heap.size w0 w)
    (hw : w' = putRowK encB 32 (Sort.ahead w q) g 0 dk) (hs : dk.size = d.size) (hk : ∀ j, j < (compactUpTo d d.size).length → (compactUpTo d d.size)[j]? = some dk[j]!) (hle : (compactUpTo d d.size).length ≤ d.size) :
    OI w0.heap.size (.slice (some ⟨g, 0, none⟩) (compactUpTo d d.size).length cap) (compactUpTo d d.size) w' ∧ Below w0.heap.size w0 w' := by
  subst hw
  constructor
  · refine ⟨flatI_len _, .inr ⟨g, cap, _, rfl, hg0, heap_putRowK hg q 0 dk, by omega, hmax, by simp [Go.Sort.putCells, hcs], ?_⟩⟩
    apply List.ext_getElem?
    intro i
    by_cases hi : i < (compactUpTo d d.size).length * 32
    · have hq : i / 32 < (compactUpTo d d.size).length := by rw [Nat.div_lt_iff_lt_mul (by decide)]; exact hi
      rw [List.getElem?_take_of_lt hi, flat_getI _ i hi]
      have hic : i < cs.size := by rw [hcs]; omega
      have hid : i < dk.size * 32 := by rw [hs]; omega
      have e1 : (Go.Sort.putCells id 0 (flatK encB 32 dk) cs).toList[i]? = some ((flatK encB 32 dk)[i]!) := by
        simp only [Go.Sort.putCells, Array.getElem?_toList, Array.getElem?_mapIdx, Array.getElem?_eq_getElem hic, Option.map_some]
        rw [if_pos ⟨Nat.zero_le _, by rw [size_flatK]; omega⟩]
        rfl
      rw [e1, get_flatK _ _ _ _ hid]
      have e2 := hk (i / 32) hq
      rw [List.getElem?_eq_getElem hq, Option.some.injEq] at e2
      rw [← e2, getElem!_pos _ (i / 32) hq]
    · rw [List.getElem?_eq_none (by simp; omega), List.getElem?_eq_none (by rw [flatI_len]; omega)]
  · refine ⟨hb.os, hb.tape, hb.output, ?_, fun k hk' => ?_⟩
    · have : (putRowK encB 32 (Sort.ahead w q) g 0 dk).heap.size = w.heap.size := by
        show (w.heap.modify g (onCells _)).size = _
        simp
        try rfl
      rw [this]; exact hb.size
    · rw [heap_putRowK_other (by omega)]
      exact hb.block k hk'
theorem compact_le (d : Array B32) : ∀ m, (compactUpTo d m).length ≤ m
  | 0 => by simp [compactUpTo]
  | m + 1 => by
    have := compact_le d m
    rw [compactUpTo_succ]
    split <;> simp <;> omega
set_option maxRecDepth 100000 in
set_option maxHeartbeats 1000000 in
theorem oidsort_any (hS : SortLaw Tryz.prog 65 66) (hS0 : SortNil) (hC : CloneLaw Tryz.prog 29 TI)
    (v : Value) (l : List B32) (w : World) (h : OI 0 v l w) (hl : l.length ≤ 1000000) :
    Calls Tryz.prog 31 #[v] w fun e w' => ∃ v' r, e = .returned v' ∧ SortsTo l r ∧ OI w.heap.size v' r w' ∧ Below w.heap.size w w' := by
  rcases h.form with ⟨rfl, rfl⟩ | ⟨g, cap, cs, rfl, _, hg, hle, hmax, hcs, hc⟩
  · go_enter Tryz.func31, Tryz.ntmps31
    go_wp2_with (first
      | (go_at_call 29; refine (clone_nil _).mono ?_; rintro e w1 ⟨rfl, rfl⟩)
      | (go_at_call 65; refine (hS0 _).mono ?_; rintro e w1 ⟨rfl, rfl⟩)
      | (go_at_call 67; refine (compact_nil _).mono ?_; rintro e w1 ⟨rfl, rfl⟩)
      | fail)
    go_ret
    exact ⟨_, [], rfl, ⟨.nil, fun x => Iff.rfl⟩, OI.nil _ _, Below.refl _ _⟩
  · have hrow := row_of hg hc
    have hcell : ∀ j u, (l.map encB).flatten[j]? = some u → w.cell? ⟨g, 0 + j, none⟩ = some u := fun j u hj => by
      have hj' : j < l.length * 32 := by rw [← flatI_len]; exact (List.getElem?_eq_some_iff.1 hj).1
      rw [Nat.zero_add, Lib.cell_of_heap hg, hc j hj', hj]
    have hcl := hC g 0 l.length cap _ w (flatI_len l) (by unfold maxLen; omega) (by omega) hcell (flatI_one l)
    clear hrow hcell hc hcs hmax hle hg h
    go_enter Tryz.func31, Tryz.ntmps31
    go_wp2_with (first
      | (go_at_call 29; refine hcl.mono ?_; rintro e w1 ⟨v1, rfl, ho1, hne, hb1⟩; obtain ⟨g1, c1, cs1, rfl, hB1, hg1, hle1, hmax1, hcs1, hc1⟩ := (OI.form ho1).resolve_left (fun h => hne h.1))
      | (go_at_call 65; refine (hS g1 0 c1 l w1 cs1 TI 0 0 hg1 (.inl rfl) (by omega) (by simpa using hc1) (by omega)).mono ?_; rintro e w2 ⟨rfl, ys, cs2, hp, hpw, ho, ht, hou, hsz, hoth, hg2, hcs2, hc2, _⟩; have hyl := hp.length_eq)
      | (go_at_call 67; rw [← hyl]; refine (compact_any g1 0 c1 ys.toArray w2 (row_of hg2 (fun i hi => by have := hc2 i (by rw [← hyl]; exact hi); simpa using this)) (by simp; omega) (by simp; omega)).mono ?_; rintro e w3 ⟨rfl, q, dk, hw3, hs3, hk3⟩; have HW3 := Lib.hid hw3; clear hw3)
      | fail)
    go_ret
    have hb2 : Below w.heap.size w w2 := ⟨ho.trans hb1.os, ht.trans hb1.tape, hou.trans hb1.output, Nat.le_trans hb1.size hsz, fun k hk => (hoth k (Nat.lt_of_lt_of_le hk hb1.size) (by omega)).trans (hb1.block k hk)⟩
    obtain ⟨r1, r2⟩ := compact_own hB1 hg2 (hcs2.trans hcs1) (by simp; omega) hmax1 hb2 HW3.out hs3 hk3 (compact_le _ _)
    have hst := sorts_to hp hpw
    have e : ys.toArray.size = l.length := by simpa using hyl
    rw [e] at r1 hst
    exact ⟨_, _, rfl, hst, r1, r2⟩
end Mg
namespace Mg
open Go Go.Proofs Go.RowKit Ax Go.Sort Go.Lib

/-- Those that are not among some. -/
def notIn (old i : List B32) : List B32 := old.filter fun x => !hasI i x
/-- Those that are among some and not among others. -/
def goneI (old i c : List B32) : List B32 := old.filter fun x => hasI i x && !hasI c x
theorem hasI_false {l : List B32} {x : B32} : hasI l x = false ↔ x ∉ l := by
  rw [← Bool.not_eq_true, hasI_iff]
theorem mem_notIn {old i : List B32} {x : B32} : x ∈ notIn old i ↔ x ∈ old ∧ x ∉ i := by
  unfold notIn
  rw [List.mem_filter, Bool.not_eq_true', hasI_false]
theorem mem_goneI {old i c : List B32} {x : B32} : x ∈ goneI old i c ↔ x ∈ old ∧ x ∈ i ∧ x ∉ c := by
  unfold goneI
  rw [List.mem_filter, Bool.and_eq_true, hasI_iff, Bool.not_eq_true', hasI_false]
section
variable {old i c s g : List B32}
/-- What the first loop asks. -/
theorem law_old (hc : ∀ x, x ∈ c → x ∈ i) (hs : SortsTo (c ++ notIn old i) s) (hg : SortsTo (goneI old i c) g) {x : B32} (hx : x ∈ old) :
    hasI s x = !(hasI g x) ∧ hasI g x = (hasI i x && !hasI c x) := by
  have h1 : x ∈ s ↔ x ∈ c ∨ x ∉ i := by
    rw [hs.mem, List.mem_append, mem_notIn]
    exact ⟨fun h => h.imp id (fun h => h.2), fun h => h.imp id (fun h => ⟨hx, h⟩)⟩
  have h2 : x ∈ g ↔ x ∈ i ∧ x ∉ c := by
    rw [hg.mem, mem_goneI]
    exact ⟨fun h => h.2, fun h => ⟨hx, h⟩⟩
  constructor
  · rw [Bool.eq_iff_iff, hasI_iff, Bool.not_eq_true', hasI_false, h1, h2]
    by_cases hi : x ∈ i
    · by_cases hc' : x ∈ c <;> simp [hi, hc']
    · have hc' : x ∉ c := fun h => hi (hc x h)
      simp [hi, hc']
  · rw [Bool.eq_iff_iff, hasI_iff, h2, Bool.and_eq_true, hasI_iff, Bool.not_eq_true', hasI_false]
/-- What the second loop asks. -/
theorem law_cut (hs : SortsTo (c ++ notIn old i) s) {x : B32} (hx : x ∈ c) : hasI s x = true := by
  rw [hasI_iff, hs.mem, List.mem_append]
  exact .inl hx
/-- Once more: the same, and none is gone. -/
theorem law_again (hc : ∀ x, x ∈ c → x ∈ i) (hs : SortsTo (c ++ notIn old i) s) {t n : List B32} (ht : SortsTo (c ++ notIn s i) t) (hn : SortsTo (goneI s i c) n) : t = s ∧ n = [] := by
  constructor
  · refine up_unique ht.up hs.up fun x => ?_
    rw [ht.mem, List.mem_append, mem_notIn]
    have h1 := hs.mem x
    rw [List.mem_append, mem_notIn] at h1
    constructor
    · rintro (h | h)
      · exact h1.2 (.inl h)
      · exact h.1
    · intro h
      rcases h1.1 h with h' | h'
      · exact .inl h'
      · exact .inr ⟨h, h'.2⟩
  · apply List.eq_nil_iff_forall_not_mem.2
    intro x hx
    rw [hn.mem, mem_goneI] at hx
    obtain ⟨h1, h2, h3⟩ := hx
    rw [hs.mem, List.mem_append, mem_notIn] at h1
    rcases h1 with h | h
    · exact h3 h
    · exact h.2 h2
theorem SortsTo.len {l r : List B32} (h : SortsTo l r) : r.length ≤ l.length := by
  have hn : r.Nodup := h.up.imp (fun {a b} hab e => by subst e; exact ltI_irrefl a hab)
  exact List.Nodup.length_le_of_subset hn (fun x hx => (h.mem x).1 hx)
end
end Mg
