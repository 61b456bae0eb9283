/- Names are appended; two names are told apart, walked; the conditions stand in each statement. -/
import Derived.Test.YtcbogemnimpkcaaGreatDoorMgc
import Derived.Deep.RegionLaw
import Derived.Deep.AppendLies
import Derived.BigRegion
import Derived.Deep.RegionHeld3
import Derived.Laws.AppendOwn
import Derived.Laws.AppendOwnNone
import Derived.OwnWalk
import Derived.Great.BuildSlice
import Derived.Deep.QuietTactic
set_option linter.unusedVariables false
set_option linter.unusedSimpArgs false
set_option linter.unusedSectionVars false
namespace Mg
open Go Go.Proofs Go.RowKit Ax

theorem infoI : (Tryz.prog.info? TI).map (fun i => (i.zero, i.size, i.bytes)) = some (some (idV zeroB), 32, 32) := by
  have e : idV zeroB = .agg (List.replicate 32 (Value.int .u8 0)).toArray := by
    unfold idV
    rw [encZs]
  have h : (Tryz.prog.info? TI).map (fun i => (i.zero, i.size, i.bytes)) = some (some (.agg (List.replicate 32 (Value.int .u8 0)).toArray), 32, 32) := by kernel_rfl
  rw [e]
  exact h
theorem zeroB_cells : (idV zeroB).cells.size = 32 := by show (encB zeroB).toArray.size = 32; rw [List.size_toArray, encL]
section
variable {ops : Array Oper} {rest : List Oper} {o : Oper} {a : Act} {w : World} {Q : Exit → Act → World → Prop}
/-- Some names are appended. -/
theorem list_app (hgd : o.guard = none) (s x : Operand) (ho : o.op = .call { callee := .builtin .append, args := #[s, x], argTypes := #[22, 22] })
    (B : Nat) (v : Value) (l : List B32) (hs : a.eval s = v) (hown : OI B v l w) (hB : B ≤ w.heap.size) (ad : Addr) (m c : Nat) (news : List B32) (hx : a.eval x = .slice (some ad) m c) (hm : news.length = m)
    (hnews : ∀ j u, (news.map encB).flatten[j]? = some u → w.cell? (ad.add j) = some u) (hn : l.length + m ≤ 1000000)
    (h : ∀ v' w', OI B v' (l ++ news) w' → w.grownBy w' v.ownBlock → wpList Tryz.prog ops Q rest (a.put o.dst v') w') : wpList Tryz.prog ops Q (o :: rest) a w := by
  obtain ⟨i0, hi0, hz0, hz1, hz2⟩ := info_parts infoI
  refine wpList_append_own w hgd _ _ _ ho B TI i0 _ 32 32 Tryz.underlying22 hi0 hz0 hz1 hz2 zeroB_cells (by omega) v l.length (l.map encB).flatten hs hown ad m c (news.map encB).flatten hx
    (by rw [flatI_len, hm]) hnews (flatI_one _) (by unfold maxLen; omega) (by omega) hB (fun v' w' h1 h2 _ => h v' w' ?_ h2)
  unfold OI
  rw [List.length_append, List.map_append, List.flatten_append, hm]
  exact h1
/-- .. in a region that draws its order. -/
theorem reg_app {K : Act → World → Prop} {E : Prop} (hgd : o.guard = none) (s x : Operand) (ho : o.op = .call { callee := .builtin .append, args := #[s, x], argTypes := #[22, 22] })
    (B : Nat) (v : Value) (l : List B32) (hs : a.eval s = v) (hown : OI B v l w) (hB : B ≤ w.heap.size) (ad : Addr) (m c : Nat) (news : List B32) (hx : a.eval x = .slice (some ad) m c) (hm : news.length = m)
    (hnews : ∀ j u, (news.map encB).flatten[j]? = some u → w.cell? (ad.add j) = some u) (hn : l.length + m ≤ 1000000)
    (h : ∀ v' w', OI B v' (l ++ news) w' → w.grownBy w' v.ownBlock → K (a.put o.dst v') w') : if Region.wanted o (yielded ops a.tmps) = true then Oper.wp Tryz.prog o a w K Q else E := by
  obtain ⟨i0, hi0, hz0, hz1, hz2⟩ := info_parts infoI
  have hw : Region.wanted o (yielded ops a.tmps) = true := by simp [Region.wanted, hgd]
  rw [if_pos hw]
  refine wp_append_own w s x 22 ho B TI i0 _ 32 32 Tryz.underlying22 hi0 hz0 hz1 hz2 zeroB_cells (by omega) v l.length (l.map encB).flatten hs hown ad m c (news.map encB).flatten hx
    (by rw [flatI_len, hm]) hnews (flatI_one _) (by unfold maxLen; omega) (by omega) hB (fun v' w' h1 h2 _ => h v' w' ?_ h2)
  unfold OI
  rw [List.length_append, List.map_append, List.flatten_append, hm]
  exact h1
theorem reg_none {K : Act → World → Prop} {E : Prop} (hgd : o.guard = none) (s x : Operand) (ho : o.op = .call { callee := .builtin .append, args := #[s, x], argTypes := #[22, 22] })
    (B : Nat) (v : Value) (l : List B32) (hs : a.eval s = v) (hown : OI B v l w) (hx : a.eval x = .slice none 0 0) (h : K (a.put o.dst v) w) : if Region.wanted o (yielded ops a.tmps) = true then Oper.wp Tryz.prog o a w K Q else E := by
  obtain ⟨i0, hi0, hz0, hz1, hz2⟩ := info_parts infoI
  have hw : Region.wanted o (yielded ops a.tmps) = true := by simp [Region.wanted, hgd]
  rw [if_pos hw]
  have hrun := run_append_owned_none (P := Tryz.prog) (w := w) B 22 o.type TI i0 32 Tryz.underlying22 hi0 v l.length (l.map encB).flatten hown
  unfold Oper.wp
  simp [execOp, ho, resolve, invoke, builtin, hs, hx, hrun, Result.andThen]
  exact h
end
theorem flat_take (l : List B32) (k j : Nat) (u : Value) (h : ((l.take k).map encB).flatten[j]? = some u) : (l.map encB).flatten[j]? = some u := by
  have e : (l.map encB).flatten = ((l.take k).map encB).flatten ++ ((l.drop k).map encB).flatten := by rw [← List.flatten_append, ← List.map_append, List.take_append_drop]
  rw [e, List.getElem?_append_left (List.getElem?_eq_some_iff.1 h).1]
  exact h
theorem flat_drop (l : List B32) (k j : Nat) (hk : k ≤ l.length) (u : Value) (h : ((l.drop k).map encB).flatten[j]? = some u) : (l.map encB).flatten[k * 32 + j]? = some u := by
  have e : (l.map encB).flatten = ((l.take k).map encB).flatten ++ ((l.drop k).map encB).flatten := by rw [← List.flatten_append, ← List.map_append, List.take_append_drop]
  have hl : ((l.take k).map encB).flatten.length = k * 32 := by rw [flatI_len, List.length_take, Nat.min_eq_left hk]
  rw [e, List.getElem?_append_right (by omega), hl, show k * 32 + j - k * 32 = j by omega]
  exact h
theorem OI.cells {B g n cap : Nat} {l : List B32} {w : World} (h : OI B (.slice (some ⟨g, 0, none⟩) n cap) l w) : ∀ j u, (l.map encB).flatten[j]? = some u → w.cell? ⟨g, j, none⟩ = some u := fun j u hj => by
  have := World.ownsRow.cells h rfl j u hj
  rw [Addr.add_mid, Nat.zero_add] at this
  exact this
theorem OI.lt {B : Nat} {v : Value} {l : List B32} {w : World} (h : OI B v l w) {g : Nat} (hg : v.ownBlock = some g) : B ≤ g ∧ g < w.heap.size := World.ownsRow.lt h g hg
theorem range_id {b o : Nat} {x : B32} {w : World} (h : IdAt ⟨b, o, none⟩ x w) : w.rangeAt b o (encB x) := fun j v hv => by
  have := h j v hv
  rwa [Addr.add_mid] at this
theorem box_new {w : World} {x : B32} {g : Nat} {T : TypeId} (h : w.heap[g]? = some (.cells (encB x).toArray T (0, 0))) : ∀ j u, ([x].map encB).flatten[j]? = some u → w.cell? ((⟨g, 0, none⟩ : Addr).add j) = some u := fun j u hj => by
  refine IdAt.box h j u ?_
  simpa using hj
theorem run_build_id (x : B32) (w : World) : (Instr.buildSlice 22 1 #[(0, .agg (encB x).toArray)]).run Tryz.prog w = .ok (.slice (some ⟨w.heap.size, 0, none⟩) 1 1) (w.alloc (.cells (encB x).toArray TI)) := by
  obtain ⟨i0, hi0, hz0, hz1, hz2⟩ := info_parts infoI
  refine run_buildSlice w _ TI 1 _ (encB x).toArray i0 _ Tryz.underlying22 hi0 hz0 (by rw [hz1]; decide) (by rw [hz1]; decide) ?_
  rw [hz1]
  have h := Go.Great.fill_whole (s := 32) (by decide) [Value.agg (encB x).toArray] ((Array.range (1 * 32)).map ((idV zeroB).cells[· % (idV zeroB).cells.size]!)) (fun v hv => by
    obtain rfl := List.mem_singleton.1 hv
    show (encB x).toArray.size = 32
    rw [List.size_toArray, encL]) (by simp)
  have e : ([Value.agg (encB x).toArray].flatMap fun v => v.cells.toList).toArray = (encB x).toArray := by
    simp [Value.cells]
  rw [e] at h
  exact h
section
variable {ops : Array Oper} {rest : List Oper} {o : Oper} {a : Act} {w : World} {Q : Exit → Act → World → Prop}
theorem list_build (hg : o.guard = none) (x : Operand) (ho : o.op = .buildSlice 22 1 #[(0, x)]) (y : B32) (hx : a.eval x = .agg (encB y).toArray)
    (hn : wpList Tryz.prog ops Q rest (a.put o.dst (.slice (some ⟨w.heap.size, 0, none⟩) 1 1)) (w.alloc (.cells (encB y).toArray TI))) : wpList Tryz.prog ops Q (o :: rest) a w :=
  wpList_plain hg fun K hK => by
    unfold Oper.wp execOp
    simp only [ho, Sem.run_bind, List.map_toArray, List.map_cons, List.map_nil, hx, run_build_id y w, Result.andThen_ok, Sem.run_pure]
    exact hK _ _ hn
/-- One name is appended, out of its box. -/
theorem list_app1 (hgd : o.guard = none) (s x : Operand) (ho : o.op = .call { callee := .builtin .append, args := #[s, x], argTypes := #[22, 22] })
    (B : Nat) (v : Value) (l : List B32) (hs : a.eval s = v) (hown : OI B v l w) (hB : B ≤ w.heap.size) (bb : Nat) (y : B32) (hx : a.eval x = .slice (some ⟨bb, 0, none⟩) 1 1) (hbox : w.heap[bb]? = some (.cells (encB y).toArray TI (0, 0))) (hn : l.length + 1 ≤ 1000000)
    (h : ∀ g cap w', OI B (.slice (some ⟨g, 0, none⟩) (l.length + 1) cap) (l ++ [y]) w' → w.grownBy w' v.ownBlock → (v.ownBlock = some g ∨ g = w.heap.size) → wpList Tryz.prog ops Q rest (a.put o.dst (.slice (some ⟨g, 0, none⟩) (l.length + 1) cap)) w') : wpList Tryz.prog ops Q (o :: rest) a w := by
  obtain ⟨i0, hi0, hz0, hz1, hz2⟩ := info_parts infoI
  refine wpList_append_lies w hgd _ _ _ ho B TI i0 _ 32 32 Tryz.underlying22 hi0 hz0 hz1 hz2 zeroB_cells (by omega) v l.length (l.map encB).flatten hs hown ⟨bb, 0, none⟩ 1 1 ([y].map encB).flatten hx
    (by rw [flatI_len]; rfl) (box_new hbox) (flatI_one _) (by omega) (by unfold maxLen; omega) (by omega) hB _ rfl (fun g cap w' h1 h2 h3 _ => h g cap w' ?_ h2 h3)
  unfold OI
  rw [List.length_append, List.map_append, List.flatten_append]
  exact h1
/-- A name goes into a box that was just made. -/
theorem list_store_new {w0 : World} {c : Array Value} (hgd : o.guard = none) (x y : Operand) (ho : o.op = .store TI x y) (hc : c.size = 32) (hx : a.eval x = .pointer (some ⟨w0.heap.size, 0, none⟩)) (z : B32) (hy : a.eval y = .agg (encB z).toArray)
    (hn : wpList Tryz.prog ops Q rest (a.put o.dst undef) (w0.alloc (.cells (encB z).toArray TI))) : wpList Tryz.prog ops Q (o :: rest) a (w0.alloc (.cells c TI)) :=
  wpList_plain hgd fun K hK => by
    have hst := run_storeAt_new (P := Tryz.prog) w0 TI c (encB z).toArray (by rw [List.size_toArray, encL]; exact iI) (by rw [hc, List.size_toArray, encL]) (all_oneCell_toArray (one_enc z))
    unfold Oper.wp execOp
    simp only [ho, hx, hy, Sem.run_bind, hst, Result.andThen_ok, Sem.run_pure]
    exact hK _ _ hn
end
end Mg
namespace Mg
open Go Go.Proofs Go.RowKit Ax

theorem lt_at : ∀ (k : Nat) (p q : List Nat) (_ : p.take k = q.take k) (h1 : k < p.length) (h2 : k < q.length), p[k] ≠ q[k] → (p < q ↔ p[k] < q[k])
  | _, [], _, _, h1, _, _ => by simp at h1
  | _, _ :: _, [], _, _, h2, _ => by simp at h2
  | 0, a :: p, b :: q, _, _, _, hn => by
    have hn' : a ≠ b := hn
    rw [List.cons_lt_cons_iff]
    exact ⟨fun h => h.resolve_right (fun h => hn' h.1), fun h => .inl h⟩
  | k + 1, a :: p, b :: q, ht, h1, h2, hn => by
    simp only [List.take_succ_cons, List.cons.injEq] at ht
    obtain ⟨rfl, ht⟩ := ht
    rw [List.cons_lt_cons_iff]
    have := lt_at k p q ht (by simpa using h1) (by simpa using h2) hn
    simp only [List.getElem_cons_succ]
    rw [← this]
    exact ⟨fun h => (h.resolve_left (Nat.lt_irrefl a)).2, fun h => .inr ⟨by first | rfl | trivial, h⟩⟩
theorem cell_id {w : World} {g : Nat} {x : B32} {T : TypeId} (h : w.heap[g]? = some (.cells (encB x).toArray T (0, 0))) (k : Nat) (hk : k < x.l.length) : w.cell? ⟨g, k, none⟩ = some (.int .u8 (Int.ofNat x.l[k])) := by
  rw [Lib.cell_of_heap h]
  simp [encB, bV, hk]
set_option maxRecDepth 100000 in
set_option maxHeartbeats 1000000 in
theorem less_any (x y : B32) (w : World) : Calls Tryz.prog 28 #[.agg (encB x).toArray, .agg (encB y).toArray] w fun e w' => e = .returned (.bool (ltL x.l y.l)) ∧ Below w.heap.size w w' := by
  have r2 : ((w.alloc (Obj.cells (encB x).toArray TI)).alloc (Obj.cells (encB y).toArray TI)).heap[w.heap.size + 1]? = some (.cells (encB y).toArray TI (0, 0)) := by
    have := heap_alloc_new (w.alloc (Obj.cells (encB x).toArray TI)) (Obj.cells (encB y).toArray TI)
    rwa [show (w.alloc (Obj.cells (encB x).toArray TI)).heap.size = w.heap.size + 1 from Array.size_push ..] at this
  have r1 : ((w.alloc (Obj.cells (encB x).toArray TI)).alloc (Obj.cells (encB y).toArray TI)).heap[w.heap.size]? = some (.cells (encB x).toArray TI (0, 0)) := by
    rw [heap_alloc_old _ _ (by show w.heap.size < (w.heap.push _).size; rw [Array.size_push]; omega)]
    exact heap_alloc_new w _
  have hbl : Below w.heap.size w ((w.alloc (Obj.cells (encB x).toArray TI)).alloc (Obj.cells (encB y).toArray TI)) := ((Below.refl _ _).alloc (Nat.le_refl _) _).alloc (by rw [Deep.nblk_alloc]; omega) _
  go_enter Tryz.func28, Tryz.ntmps28
  go_wp2
  generalize (w.alloc (Obj.cells (encB x).toArray TI)).alloc (Obj.cells (encB y).toArray TI) = W at *
  go_loopw [5] (fun i wr => ∃ k n : Nat, k ≤ 32 ∧ i = .int .i64 k ∧ wr = W.drewN n ∧ Hid (x.l.take k = y.l.take k)) (fun i _ => 32 - (RowKit.intOf i).toNat)
  case atStart => exact ⟨0, 0, Nat.zero_le _, rfl, rfl, Lib.hid rfl⟩
  case round =>
    obtain ⟨k, n, hk, rfl, rfl, hno⟩ := hrel
    by_cases hlt : k < 32
    · have hx : k < x.l.length := by rw [x.len]; exact hlt
      have hy : k < y.l.length := by rw [y.len]; exact hlt
      have c1 := cell_id r1 k hx
      have c2 := cell_id r2 k hy
      have hT : Hid (x.l[k] = y.l[k] → x.l.take (k + 1) = y.l.take (k + 1)) := Lib.hid (fun h => by rw [List.take_succ_eq_append_getElem hx, List.take_succ_eq_append_getElem hy, hno.out, h])
      have hF : Hid (x.l[k] ≠ y.l[k] → ltL x.l y.l = decide (x.l[k] < y.l[k])) := Lib.hid (fun h => by
        rw [Bool.eq_iff_iff, ltL_iff, decide_eq_true_eq]
        exact lt_at k x.l y.l hno.out hx hy h)
      generalize x.l[k] = a at *
      generalize y.l[k] = b at *
      have i1 : (0 : Int) ≤ (k : Int) := Int.natCast_nonneg _
      have i2 : (k : Int) < 32 := by omega
      by_cases hab : a = b
      · subst hab
        go_wp2
        go_quiet (fail)
        go_wp2
        go_roundw
        case rel => exact ⟨k + 1, n + nq, by omega, by go_num, by first | rfl | rw [World.drewN_drewN], Lib.hid (hT.out (by first | rfl | trivial))⟩
        case measure => simp [RowKit.intOf]; omega
      · have hab' : ¬ (Int.ofNat a) = (Int.ofNat b) := fun h => hab (Int.ofNat.inj h)
        have hab2 : ((Int.ofNat a) == (Int.ofNat b)) = false := by simpa using hab'
        go_wp2
        go_quiet (fail)
        go_wp2
        go_quiet (fail)
        go_wp2
        go_ret
        refine ⟨?_, by first | exact hbl.drewNm | exact hbl.drewNm.drewNm | exact hbl.drewNm.drewNm.drewNm⟩
        rw [hF.out hab]
        congr 2 <;> first | rfl | simp
    · obtain rfl : k = 32 := by omega
      have he : x.l = y.l := by
        have h := hno.out
        rw [List.take_of_length_le (by rw [x.len]; omega), List.take_of_length_le (by rw [y.len]; omega)] at h
        exact h
      have hF : ltL x.l y.l = false := by rw [he, ltL_no]; exact List.le_refl _
      go_wp2
      go_ret
      rw [hF]
      exact ⟨rfl, hbl.drewNm⟩
end Mg
