/- The statement on the merge, walked; the conditions stand in each statement. -/
import Derived.Test.YtcbogemnimpkcaaGreatDoorMge
import Derived.Test.YtcbogemnimpkcaaGreatDoorMgf
import Derived.Test.YtcbogemnimpkcaaGreatDoorMga
set_option linter.unusedVariables false
set_option linter.unusedSimpArgs false
set_option linter.unusedSectionVars false
namespace Mg
open Go Go.Proofs Go.RowKit Ax

section
variable {ops : Array Oper} {rest : List Oper} {o : Oper} {a : Act} {w : World} {Q : Exit → Act → World → Prop}
/-- A name is loaded, under a guard that lets it. -/
theorem list_loadg (x : Operand) (ho : o.op = .load TI x) (hw : Region.wanted o (yielded ops a.tmps) = true) (p : Addr) (hx : a.eval x = .pointer (some p)) (y : B32) (h : IdAt p y w)
    (hn : wpList Tryz.prog ops Q rest (a.put o.dst (idV y)) w) : wpList Tryz.prog ops Q (o :: rest) a w := by
  refine wpList_step (fun K hK => ?_)
  rw [if_pos hw]
  unfold Oper.wp execOp
  simp only [ho, hx, load_id h, Sem.run_bind, Result.andThen_ok, Sem.run_pure]
  exact hK _ _ hn
end
theorem RdI.take {ao : Option Addr} {cap : Nat} {l : List B32} {w : World} (h : RdI (.slice ao l.length cap) l w) (n : Nat) : RdI (.slice ao (l.take n).length cap) (l.take n) w := by
  obtain ⟨ao', cap', hv, h2, h3, h4⟩ := h
  simp only [Value.slice.injEq] at hv
  obtain ⟨rfl, _, rfl⟩ := hv
  refine ⟨_, _, rfl, by rw [List.length_take]; omega, h3, ?_⟩
  rcases h4 with rfl | ⟨a, ha, hb, hc⟩
  · exact .inl (by simp)
  · right
    refine ⟨a, ha, hb, fun k hk => ?_⟩
    rw [List.length_take] at hk
    rw [List.getElem_take]
    exact hc k (by omega)
theorem RdI.out_form {v : Value} {l : List B32} {w : World} (h : RdI v l w) : ∃ ao cap, v = .slice ao l.length cap ∧ l.length ≤ cap ∧ cap ≤ maxLen ∧ True := by
  obtain ⟨ao, cap, h1, h2, h3, _⟩ := h
  exact ⟨ao, cap, h1, h2, h3, trivial⟩
theorem RdI.spot {ao : Option Addr} {n cap : Nat} {l : List B32} {w : World} (h : RdI (.slice ao n cap) l w) (hl : 0 < l.length) : ∃ b off, ao = some ⟨b, off, none⟩ ∧ b < w.heap.size ∧ ∀ k (hk : k < l.length), IdAt ⟨b, off + k * 32, none⟩ l[k] w := by
  obtain ⟨ao', cap', hv, h2, h3, h4⟩ := h
  simp only [Value.slice.injEq] at hv
  obtain ⟨rfl, _, rfl⟩ := hv
  rcases h4 with rfl | ⟨a, rfl, hb, hc⟩
  · simp at hl
  · obtain ⟨b, off, sp⟩ := a
    have h0 := hc 0 hl 0 ((encB l[0])[0]'(by rw [encL]; decide)) (List.getElem?_eq_getElem _)
    rw [show ((⟨b, off, sp⟩ : Addr).add (0 * 32)).add 0 = ⟨b, off, sp⟩ by unfold Addr.add; simp] at h0
    cases sp with
    | none => exact ⟨b, off, rfl, hb, fun k hk => by have := hc k hk; rwa [Addr.add_mid] at this⟩
    | some s =>
      unfold World.cell? at h0
      split at h0 <;> simp_all
/-- All that the statement holds. -/
structure MB (vo vi vc vs vg : Value) (old i c s g : List B32) (w0 w : World) : Prop where
  o : RdI vo old w
  i : RdI vi i w
  c : OI 0 vc c w
  s : OI 0 vs s w
  g : RdI vg g w
  bel : Below w0.heap.size w0 w
theorem MB.below {vo vi vc vs vg : Value} {old i c s g : List B32} {w0 w w' : World} (h : MB vo vi vc vs vg old i c s g w0 w) (hb : Below w.heap.size w w') : MB vo vi vc vs vg old i c s g w0 w' :=
  ⟨h.o.below hb, h.i.below hb, h.c.below hb, h.s.below hb, h.g.below hb, h.bel.trans (hb.mono h.bel.size)⟩
theorem min_letter (n : Nat) : (if (10 : Int) < (n : Int) then (10 : Int) else (n : Int)) = ((min n 10 : Nat) : Int) := by split <;> omega
/-- What is picked. -/
structure Cut0 (B : Nat) (i c0 : List B32) (k : Nat) (cu : Value) (w0 w : World) : Prop where
  row : OI B cu c0 w
  sub : ∀ x, x ∈ c0 → x ∈ i
  len : c0.length ≤ k
  bel : Below w0.heap.size w0 w
theorem Cut0.snoc {i c0 : List B32} {k g cap : Nat} {cu : Value} {w0 w w' : World} {y : B32} (h : Cut0 w0.heap.size i c0 k cu w0 w) (hy : y ∈ i) (ho : OI w0.heap.size (.slice (some ⟨g, 0, none⟩) (c0.length + 1) cap) (c0 ++ [y]) w') {x : Array Value}
    (hg : (w.alloc (.cells x TI)).grownBy w' cu.ownBlock) : Cut0 w0.heap.size i (c0 ++ [y]) (k + 1) (.slice (some ⟨g, 0, none⟩) (c0.length + 1) cap) w0 w' := by
  have hb : Below w.heap.size w (w.alloc (.cells x TI)) := (Below.refl _ _).alloc (Nat.le_refl _) _
  have h1 := h.row.below hb
  have h2 := h.bel.trans (hb.mono h.bel.size)
  refine ⟨ho, fun z hz => ?_, ?_, h2.grown hg h2.size (fun q hq => (h1.lt hq).1)⟩
  · rcases List.mem_append.1 hz with hz | hz
    · exact h.sub z hz
    · obtain rfl := List.mem_singleton.1 hz
      exact hy
  · rw [List.length_append]
    have := h.len
    simp
    exact this
theorem rem_at {q : Int} {L : Nat} (hL : 0 < L) (h : -(L : Int) < q ∧ q < L) : ∃ j : Nat, j < L ∧ (q + (L : Int)).tmod (L : Int) = (j : Int) := by
  have h1 : (q + (L : Int)).tmod (L : Int) = (q + L) % L := Int.tmod_eq_emod_of_nonneg (by omega)
  have h2 : 0 ≤ (q + L) % (L : Int) := Int.emod_nonneg _ (by omega)
  have h3 : (q + L) % (L : Int) < L := Int.emod_lt_of_pos _ (by omega)
  exact ⟨((q + L) % (L : Int)).toNat, by omega, by rw [h1]; omega⟩
theorem wrap_small {x : Int} (h : -2000 ≤ x ∧ x ≤ 2000) : IntKind.i64.wrap x = x := by
  have e : (2 : Int) ^ 64 = 18446744073709551616 := by decide
  have e2 : (2 : Int) ^ 63 = 9223372036854775808 := by decide
  simp only [IntKind.wrap, IntKind.bits, IntKind.signed, e, e2]
  split <;> rename_i hc <;> simp at hc <;> omega

set_option maxRecDepth 100000 in
set_option maxHeartbeats 8000000 in
theorem merge_law (hS : SortLaw Tryz.prog 65 66) (hS0 : SortNil) (hC : CloneLaw Tryz.prog 29 TI)
    (vo vi : Value) (lo li : List B32) (ao : Option Addr) (nlen ncap : Nat) (W : World) (ho : RdI vo lo W) (hi : RdI vi li W) (hnl : nlen ≤ maxLen)
    (hns : nlen = 0 ∨ ∃ a, ao = some a ∧ a.block < W.heap.size ∧ ∀ i, i < nlen → ∃ n : Int, W.cell? (a.add i) = some (.int .i64 n))
    (hB : Calls Tryz.prog 4 #[] W fun e w' => e = .returned (.bool true) ∧ Below W.heap.size W w') :
    Calls Tryz.prog 3 #[vo, vi, .slice ao nlen ncap] W fun e w' => e = .returned (.bool true) ∧ Below W.heap.size W w' := by
  have HNS := Lib.hid hns
  clear hns
  unfold maxLen at hnl
  obtain ⟨a1, cap1, rfl, hle1, hmax1, _⟩ := ho.out_form
  obtain ⟨a2, cap2, rfl, hle2, hmax2, _⟩ := hi.out_form
  have ho1 := ho.take 10
  have hi1 := hi.take 10
  have m1 : min (lo.length : Int) 10 = ((lo.take 10).length : Int) := by rw [List.length_take]; omega
  have m2 : min (li.length : Int) 10 = ((li.take 10).length : Int) := by rw [List.length_take]; omega
  have z1 : (lo.take 10).length ≤ lo.length := by rw [List.length_take]; omega
  have z2 : (li.take 10).length ≤ li.length := by rw [List.length_take]; omega
  have t1 : (lo.take 10).length ≤ 10 := by rw [List.length_take]; omega
  have t2 : (li.take 10).length ≤ 10 := by rw [List.length_take]; omega
  clear ho hi
  generalize lo.take 10 = l1 at *
  generalize li.take 10 = l2 at *
  have y1 : (0 : Int) ≤ (l1.length : Int) := Int.natCast_nonneg _
  have y2 : (0 : Int) ≤ (l2.length : Int) := Int.natCast_nonneg _
  have x1 : (l1.length : Int) ≤ (cap1 : Int) := by omega
  have x2 : (l2.length : Int) ≤ (cap2 : Int) := by omega
  unfold maxLen at hmax1 hmax2
  go_enter Tryz.func3, Tryz.ntmps3
  go_wp2_with (first
    | (go_at_call 4; refine hB.mono ?_; rintro e w1 ⟨rfl, hb1⟩)
    | fail)
  have ho2 := ho1.below hb1
  have hi2 := hi1.below hb1
  have hi2d : RdI _ l2 w1.drew := hi2
  rename_i K hK
  refine Code.wp_mono (Q := fun e a w => e = .normal ∧ ∃ vI r, SortsTo l2 r ∧ OI w1.drew.heap.size vI r w ∧ Below w1.drew.heap.size w1.drew w ∧ a = { tmps := #[Value.slice a1 l1.length cap1, vI, Value.slice ao nlen ncap, undef, undef, undef, Value.bool false, Value.bool true, undef, undef, undef, undef, undef, undef, undef, undef, undef, undef, Value.bool true, Value.bool true, Value.bool false, Value.slice a1 lo.length cap1, Value.slice a1 lo.length cap1, Value.int IntKind.i64 lo.length, Value.int IntKind.i64 l1.length, Value.slice a1 l1.length cap1, Value.slice a2 li.length cap2, Value.slice a2 li.length cap2, Value.int IntKind.i64 li.length, Value.int IntKind.i64 l2.length, Value.slice a2 l2.length cap2, vI, undef, undef, undef, undef, undef, undef, undef, undef, undef, undef, undef, undef, undef, undef, undef, undef, undef, undef, undef, undef, undef, undef, undef, undef, undef, undef, undef, undef, undef, undef, undef, undef, undef, undef, undef, undef, undef, undef, undef, undef, undef, undef, undef, undef, undef, undef, undef, undef, undef, undef, undef, undef, undef, undef, undef, undef, undef, undef, undef, undef, undef, undef, undef, undef, undef, undef, undef, undef, undef, undef, undef, undef, undef, undef, undef, undef, undef, undef, undef, undef, undef, undef, undef, undef, undef, undef, undef, undef, undef, undef, undef, undef, undef, undef, undef, undef, undef, undef, undef, undef, undef, undef, undef, undef, undef, undef, undef, undef, undef, undef, undef], defers := [] }) ?_ ?_
  rotate_left
  · go_region_held3 (fun w' => Below w1.heap.size w1 w')
      (first
        | exact (Below.refl _ _).drew
        | (go_split_ands; assumption)
        | assumption
        | exact (Below.refl _ _).drew.trans (hbI.mono (Nat.le_refl _)))
      (first
        | (go_at_call 5; refine (rsort_any _ l2 _ hi2d (by omega)).mono ?_; rintro e w2 ⟨vI, r, rfl, hsI, hoI, hbI⟩))
    all_goals exact ⟨rfl, _, _, hsI, hoI, hbI, rfl⟩
  rintro e a w2 ⟨rfl, vI, r, hsI, hoI, hbI, rfl⟩
  have hbb : Below w1.heap.size w1 w2 := (Below.refl w1.heap.size w1).drew.trans (hbI.mono (Nat.le_refl _))
  have hb2 : Below W.heap.size W w2 := hb1.trans (hbb.mono hb1.size)
  have ho3 := ho2.below hbb
  have hI3 := hoI.rd
  have hrl := hsI.len
  obtain ⟨aI, capI, rfl, hleI, hmaxI, _⟩ := hoI.rd.out_form
  unfold maxLen at hmaxI
  clear hi1 hi2 hi2d ho1 ho2 hb1 hbI hbb hoI m1 m2
  refine hK _ _ ?_
  clear hK K
  refine wp_seq ?_
  refine Code.wp_mono (Q := fun e a w => e = .normal ∧ w = w2 ∧ a = { tmps := #[Value.slice a1 l1.length cap1, Value.slice aI r.length capI, Value.slice ao nlen ncap, undef, undef, undef, Value.bool false, Value.bool true, Value.slice none 0 0, undef, undef, undef, undef, undef, undef, undef, undef, undef, Value.bool true, Value.bool true, Value.bool false, Value.slice a1 lo.length cap1, Value.slice a1 lo.length cap1, Value.int IntKind.i64 lo.length, Value.int IntKind.i64 l1.length, Value.slice a1 l1.length cap1, Value.slice a2 li.length cap2, Value.slice a2 li.length cap2, Value.int IntKind.i64 li.length, Value.int IntKind.i64 l2.length, Value.slice a2 l2.length cap2, Value.slice aI r.length capI, undef, undef, undef, undef, undef, undef, undef, undef, undef, undef, undef, undef, undef, undef, undef, undef, undef, undef, undef, undef, undef, undef, undef, undef, undef, undef, undef, undef, undef, undef, undef, undef, undef, undef, undef, undef, undef, undef, undef, undef, undef, undef, undef, undef, undef, undef, undef, undef, undef, undef, undef, undef, undef, undef, undef, undef, undef, undef, undef, undef, undef, undef, undef, undef, undef, undef, undef, undef, undef, undef, undef, undef, undef, undef, undef, undef, undef, undef, undef, undef, undef, undef, undef, undef, undef, undef, undef, undef, undef, undef, undef, undef, undef, undef, undef, undef, undef, undef, undef, undef, undef, undef, undef, undef, undef, undef, undef, undef, undef, undef, undef], defers := [] }) ?_ ?_
  rotate_left
  · go_wp2
  rintro e a w ⟨rfl, rfl, rfl⟩
  refine wp_seq ?_
  refine Code.wp_mono (Q := fun e a w' => e = .normal ∧ ∃ (k : Nat) (c0 : List B32) (u8 : Value), k ≤ 4 ∧ Cut0 w.heap.size r c0 k u8 w w' ∧ ∃ u9 u32 u33 u34 u35 u36 u37 u38 u39 u40 u41 u42 u43 u44 u45 u46 u47 u48 u49 u50 u51 u52 u53 u54 u55 u56 u57 u58 u59 u60 u61 u62 u63 u64 u65 : Value, a = { tmps := #[Value.slice a1 l1.length cap1, Value.slice aI r.length capI, Value.slice ao nlen ncap, undef, undef, undef, Value.bool false, Value.bool true, u8, u9, undef, undef, undef, undef, undef, undef, undef, undef, Value.bool true, Value.bool true, Value.bool false, Value.slice a1 lo.length cap1, Value.slice a1 lo.length cap1, Value.int IntKind.i64 lo.length, Value.int IntKind.i64 l1.length, Value.slice a1 l1.length cap1, Value.slice a2 li.length cap2, Value.slice a2 li.length cap2, Value.int IntKind.i64 li.length, Value.int IntKind.i64 l2.length, Value.slice a2 l2.length cap2, Value.slice aI r.length capI, u32, u33, u34, u35, u36, u37, u38, u39, u40, u41, u42, u43, u44, u45, u46, u47, u48, u49, u50, u51, u52, u53, u54, u55, u56, u57, u58, u59, u60, u61, u62, u63, u64, u65, undef, undef, undef, undef, undef, undef, undef, undef, undef, undef, undef, undef, undef, undef, undef, undef, undef, undef, undef, undef, undef, undef, undef, undef, undef, undef, undef, undef, undef, undef, undef, undef, undef, undef, undef, undef, undef, undef, undef, undef, undef, undef, undef, undef, undef, undef, undef, undef, undef, undef, undef, undef, undef, undef, undef, undef, undef, undef, undef, undef, undef, undef, undef, undef, undef, undef, undef, undef, undef, undef, undef, undef, undef, undef, undef, undef, undef], defers := [] }) ?_ ?_
  rotate_left
  · go_wp2
    go_loopw [8, 9] (fun cu iv wr => ∃ (k : Nat) (c0 : List B32), k ≤ nlen ∧ k ≤ 4 ∧ iv = .int .i64 k ∧ Cut0 w.heap.size r c0 k cu w wr) (fun _ iv _ => 4 - (RowKit.intOf iv).toNat)
    case atStart => exact ⟨0, [], Nat.zero_le _, Nat.zero_le _, rfl, ⟨OI.nil _ _, fun x hx => (by simp at hx), Nat.le_refl _, Below.refl _ _⟩⟩
    case round =>
      obtain ⟨k, c0, hk, hk4, rfl, hC0⟩ := hrel
      rename World => wc
      have kk0 : (0 : Int) ≤ (k : Int) := Int.natCast_nonneg _
      by_cases hgo : k < nlen ∧ k < 4 ∧ 0 < r.length
      · obtain ⟨hlt, h4, hr⟩ := hgo
        have kk1 : (k : Int) < (nlen : Int) := by omega
        have kk4 : (k : Int) < 4 := by omega
        have L0 : (0 : Int) < (r.length : Int) := by omega
        have L1 : ¬ (r.length : Int) = 0 := by omega
        obtain ⟨a, rfl, ha, hn⟩ := HNS.out.resolve_left (by omega)
        obtain ⟨n, hcell⟩ := hn k hlt
        have hcw : wc.cell? (a.add k) = some (.int .i64 n) := ((hb2.trans (hC0.bel.mono hb2.size)).cell (by rw [blk_add]; exact ha)).trans hcell
        have q1 : n.tmod (r.length : Int) < r.length := Int.tmod_lt_of_pos n L0
        have q2 : -(r.length : Int) < n.tmod (r.length : Int) := Int.lt_tmod_of_pos n L0
        have hrl10 : r.length ≤ 10 := by omega
        obtain ⟨j, hj, hje⟩ := rem_at hr ⟨q2, q1⟩
        have v1 : IntKind.i64.wrap (n.tmod (r.length : Int)) = n.tmod (r.length : Int) := wrap_small (by omega)
        have v2 : IntKind.i64.wrap (n.tmod (r.length : Int) + (r.length : Int)) = n.tmod (r.length : Int) + (r.length : Int) := wrap_small (by omega)
        have v3 : IntKind.i64.wrap (j : Int) = (j : Int) := wrap_small (by omega)
        obtain ⟨b, off, rfl, hbs, hcc⟩ := hI3.spot hr
        have hyc := (hcc j hj).below hC0.bel hbs
        have hyi : r[j] ∈ r := List.getElem_mem hj
        clear hcc hn hcell
        generalize r[j] = y at *
        have j0 : (0 : Int) ≤ (j : Int) := Int.natCast_nonneg _
        have j1 : (j : Int) < (r.length : Int) := by omega
        have hln0 : c0.length + 1 ≤ 1000000 := by have := hC0.len; omega
        go_wp2_with (first
          | (refine list_load rfl (.tmp 62) rfl ⟨b, off + j * 32, none⟩ (by rfl) y hyc ?_; unfold idV)
          | (refine list_build rfl (.tmp 63) rfl y (by rfl) ?_)
          | (at_builtin; refine list_app1 rfl (.tmp 47) (.tmp 64) (by rfl) w.heap.size _ c0 (by rfl) (hC0.row.below ((Below.refl _ _).alloc (Nat.le_refl _) _)) (hC0.bel.trans (((Below.refl _ _).alloc (Nat.le_refl _) _).mono hC0.bel.size)).size wc.heap.size y (by rfl) (Deep.blk_alloc_new wc _) hln0 ?_; intro g5 cap5 w5 ho5 hg5 hat5)
          | fail)
        go_roundw
        case rel => exact ⟨k + 1, c0 ++ [y], by omega, by omega, by go_num, hC0.snoc hyi ho5 hg5⟩
        case measure => simp [RowKit.intOf]; omega
      · by_cases h1 : k < nlen
        · have h1' : (k : Int) < (nlen : Int) := by omega
          by_cases h2 : k < 4
          · have h2' : (k : Int) < 4 := by omega
            have h3 : ¬ (0 : Int) < (r.length : Int) := fun h => hgo ⟨h1, h2, by omega⟩
            go_wp2
            exact ⟨k, hk4, c0, hC0⟩
          · have h2' : ¬ (k : Int) < 4 := by omega
            go_wp2
            exact ⟨k, hk4, c0, hC0⟩
        · have h1' : ¬ (k : Int) < (nlen : Int) := by omega
          go_wp2
          exact ⟨k, hk4, c0, hC0⟩
  rintro e a w3 ⟨rfl, k, c0, u8, hk4, hC0, u9, u32, u33, u34, u35, u36, u37, u38, u39, u40, u41, u42, u43, u44, u45, u46, u47, u48, u49, u50, u51, u52, u53, u54, u55, u56, u57, u58, u59, u60, u61, u62, u63, u64, u65, rfl⟩
  go_wp2_with (first
    | (go_at_call 5; refine (rsort_any _ c0 _ hC0.row.rd (by have := hC0.len; omega)).mono ?_; rintro e w4 ⟨vC, c, rfl, hsC, hoC, hbC⟩; obtain ⟨aC, capC, rfl, hleC, hmaxC, _⟩ := hoC.rd.out_form; have hlC := hsC.len; have ho4 := (ho3.below hC0.bel).below hbC; have hi4 := (hI3.below hC0.bel).below hbC)
    | (go_at_call 6; refine (merge_any hS hS0 hC _ _ _ l1 r c _ ho4 hi4 (hoC.mono (Nat.zero_le _)) (by omega) (by have := hC0.len; omega)).mono ?_; rintro e w5 ⟨vs, vg, rs, rg, rfl, hsS, hsG, hoS, hoG, hbM⟩)
    | fail)
  have hcr : ∀ x, x ∈ c → x ∈ r := fun x hx => hC0.sub x ((hsC.mem x).1 hx)
  have hM0 : MB (.slice a1 l1.length cap1) (.slice aI r.length capI) (.slice aC c.length capC) vs vg l1 r c rs rg W w5 :=
    ⟨ho4.below hbM, hi4.below hbM, (hoC.below hbM).mono (Nat.zero_le _), hoS.mono (Nat.zero_le _), hoG.rd, ((hb2.trans (hC0.bel.mono hb2.size)).trans (hbC.mono (Nat.le_trans hb2.size hC0.bel.size))).trans (hbM.mono (Nat.le_trans (Nat.le_trans hb2.size hC0.bel.size) hbC.size))⟩
  have lc10 : c.length ≤ 4 := by have := hC0.len; omega
  have ls10 : rs.length ≤ 20 := by have h1 := hsS.len; have h2 := notIn_len l1 r; rw [List.length_append] at h1; omega
  unfold maxLen at hmaxC
  clear ho4 hi4 hbM hoC hbC hoS hoG hC0
  go_loopw [77] (fun iv wr => ∃ k : Nat, k ≤ l1.length ∧ iv = .int .i64 k ∧ MB (.slice a1 l1.length cap1) (.slice aI r.length capI) (.slice aC c.length capC) vs vg l1 r c rs rg W wr) (fun iv _ => l1.length - (RowKit.intOf iv).toNat)
  case atStart => exact ⟨0, Nat.zero_le _, rfl, hM0⟩
  case round =>
    obtain ⟨k, hk, rfl, hM⟩ := hrel
    clear hM0
    rename World => wr
    have kk0 : (0 : Int) ≤ (k : Int) := Int.natCast_nonneg _
    by_cases hlt : k < l1.length
    · obtain ⟨b, off, rfl, hbs, hcc⟩ := hM.o.spot (by omega)
      have hxr := hcc k hlt
      have hlaw := law_old hcr hsS hsG (List.getElem_mem hlt)
      clear hcc
      generalize l1[k] = x at *
      have kk1 : (k : Int) < (l1.length : Int) := by omega
      obtain ⟨hl1, hl2⟩ := hlaw
      have hu := uI
      have hiz : (Tryz.prog.info? TI).map (·.size) = some (encB x).length := by rw [encL]; exact iI
      have hrg : ∀ w', Below wr.heap.size wr w' → w'.rangeAt b (off + k * 32) (encB x) := fun w' hb' => range_id (hxr.below hb' hbs)
      have hMd := hM.below (Below.refl wr.heap.size wr).drew
      have hA1 : ∀ w', Below wr.heap.size wr w' → Calls Tryz.prog 7 #[vs, .agg (encB x).toArray] w' fun e w'' => e = .returned (.bool (hasI rs x)) ∧ Below w'.heap.size w' w'' := fun w' hb' => has_any vs rs x w' (hM.s.rd.below hb')
      have hA2 : ∀ w', Below wr.heap.size wr w' → Calls Tryz.prog 7 #[vg, .agg (encB x).toArray] w' fun e w'' => e = .returned (.bool (hasI rg x)) ∧ Below w'.heap.size w' w'' := fun w' hb' => has_any vg rg x w' (hM.g.below hb')
      have hA3 : ∀ w', Below wr.heap.size wr w' → Calls Tryz.prog 7 #[.slice aI r.length capI, .agg (encB x).toArray] w' fun e w'' => e = .returned (.bool (hasI r x)) ∧ Below w'.heap.size w' w'' := fun w' hb' => has_any _ r x w' (hM.i.below hb')
      have hA4 : ∀ w', Below wr.heap.size wr w' → Calls Tryz.prog 7 #[.slice aC c.length capC, .agg (encB x).toArray] w' fun e w'' => e = .returned (.bool (hasI c x)) ∧ Below w'.heap.size w' w'' := fun w' hb' => has_any _ c x w' (hM.c.rd.below hb')
      rw [hl1] at hA1
      rw [hl2] at hA1 hA2
      clear hl1 hl2
      go_wp2
      refine wp_region_held_drew (S := fun w' => Below wr.heap.size wr w') (by kernel_rfl) (Below.refl _ _).drew (fun hHeld => ?_)
      refine wpAnyH_take (i := 0) (oi := { dst := some 80, op := Op.move (Operand.tmp 10), type := 22, pos := "more.go:214", after := #[], guard := none }) (v := vs) rfl (by kernel_rfl) (by kernel_rfl) (by kernel_rfl) (fun _ _ _ h => h) (Or.inl ⟨by rfl, by intro w hSw; go_simp⟩) (by assumption) ?_
      try simp only [Act.put, List.setIfInBounds_toArray, List.set_cons_zero, List.set_cons_succ]
      refine wpAnyH_take (i := 1) (oi := { dst := some 81, op := Op.move (Operand.tmp 0), type := 22, pos := "more.go:214", after := #[], guard := none }) (v := .slice (some ⟨b, off, none⟩) l1.length cap1) rfl (by kernel_rfl) (by kernel_rfl) (by kernel_rfl) (fun _ _ _ h => h) (Or.inl ⟨by rfl, by intro w hSw; go_simp⟩) (by assumption) ?_
      try simp only [Act.put, List.setIfInBounds_toArray, List.set_cons_zero, List.set_cons_succ]
      refine wpAnyH_take (i := 2) (oi := { dst := some 82, op := Op.move (Operand.tmp 12), type := 3, pos := "more.go:214", after := #[], guard := none }) (v := .int .i64 k) rfl (by kernel_rfl) (by kernel_rfl) (by kernel_rfl) (fun _ _ _ h => h) (Or.inl ⟨by rfl, by intro w hSw; go_simp⟩) (by assumption) ?_
      try simp only [Act.put, List.setIfInBounds_toArray, List.set_cons_zero, List.set_cons_succ]
      refine wpAnyH_take (i := 3) (oi := { dst := some 83, op := Op.indexAddr 22 (Operand.tmp 81) (Operand.tmp 82), type := 0, pos := "more.go:214", after := #[{ on := 1, ground := Ground.data }, { on := 2, ground := Ground.data }], guard := none }) (v := .pointer (some ⟨b, off + k * 32, none⟩)) rfl (by kernel_rfl) (by kernel_rfl) (by kernel_rfl) (fun _ _ _ h => h) (Or.inl ⟨by rfl, by intro w hSw; go_simp⟩) (by assumption) ?_
      try simp only [Act.put, List.setIfInBounds_toArray, List.set_cons_zero, List.set_cons_succ]
      refine wpAnyH_take (i := 4) (oi := { dst := some 84, op := Op.load 27 (Operand.tmp 83), type := 27, pos := "more.go:214", after := #[{ on := 3, ground := Ground.data }], guard := none }) rfl (by kernel_rfl) (by kernel_rfl) (by kernel_rfl) (fun _ _ _ h => h) (yieldsIf_load_mid (by rfl) _ _ rfl b (off + k * 32) (by rfl) _ _ hrg hu rfl hiz) (by assumption) ?_
      try simp only [Act.put, List.setIfInBounds_toArray, List.set_cons_zero, List.set_cons_succ]
      refine wpAnyH_take (i := 6) (oi := { dst := some 86, op := Op.move (Operand.tmp 11), type := 22, pos := "more.go:214", after := #[], guard := none }) (v := vg) rfl (by kernel_rfl) (by kernel_rfl) (by kernel_rfl) (fun _ _ _ h => h) (Or.inl ⟨by rfl, by intro w hSw; go_simp⟩) (by assumption) ?_
      try simp only [Act.put, List.setIfInBounds_toArray, List.set_cons_zero, List.set_cons_succ]
      refine wpAnyH_take (i := 7) (oi := { dst := some 87, op := Op.move (Operand.tmp 0), type := 22, pos := "more.go:214", after := #[], guard := none }) (v := .slice (some ⟨b, off, none⟩) l1.length cap1) rfl (by kernel_rfl) (by kernel_rfl) (by kernel_rfl) (fun _ _ _ h => h) (Or.inl ⟨by rfl, by intro w hSw; go_simp⟩) (by assumption) ?_
      try simp only [Act.put, List.setIfInBounds_toArray, List.set_cons_zero, List.set_cons_succ]
      refine wpAnyH_take (i := 8) (oi := { dst := some 88, op := Op.move (Operand.tmp 12), type := 3, pos := "more.go:214", after := #[], guard := none }) (v := .int .i64 k) rfl (by kernel_rfl) (by kernel_rfl) (by kernel_rfl) (fun _ _ _ h => h) (Or.inl ⟨by rfl, by intro w hSw; go_simp⟩) (by assumption) ?_
      try simp only [Act.put, List.setIfInBounds_toArray, List.set_cons_zero, List.set_cons_succ]
      refine wpAnyH_take (i := 9) (oi := { dst := some 89, op := Op.indexAddr 22 (Operand.tmp 87) (Operand.tmp 88), type := 0, pos := "more.go:214", after := #[{ on := 7, ground := Ground.data }, { on := 8, ground := Ground.data }], guard := none }) (v := .pointer (some ⟨b, off + k * 32, none⟩)) rfl (by kernel_rfl) (by kernel_rfl) (by kernel_rfl) (fun _ _ _ h => h) (Or.inl ⟨by rfl, by intro w hSw; go_simp⟩) (by assumption) ?_
      try simp only [Act.put, List.setIfInBounds_toArray, List.set_cons_zero, List.set_cons_succ]
      refine wpAnyH_take (i := 10) (oi := { dst := some 90, op := Op.load 27 (Operand.tmp 89), type := 27, pos := "more.go:214", after := #[{ on := 9, ground := Ground.data }], guard := none }) rfl (by kernel_rfl) (by kernel_rfl) (by kernel_rfl) (fun _ _ _ h => h) (yieldsIf_load_mid (by rfl) _ _ rfl b (off + k * 32) (by rfl) _ _ hrg hu rfl hiz) (by assumption) ?_
      try simp only [Act.put, List.setIfInBounds_toArray, List.set_cons_zero, List.set_cons_succ]
      refine wpAnyH_ready (rs := [5]) (by kernel_rfl) (by simp) ?_
      refine AllReadyH.cons (o := { dst := some 85, op := Op.call { callee := Callee.value (Operand.func 7), args := #[Operand.tmp 80, Operand.tmp 84], argTypes := #[22, 27] }, type := 4, pos := "more.go:214", after := #[{ on := 0, ground := Ground.data }, { on := 4, ground := Ground.data }], guard := none }) rfl (fun K hK => ?_) AllReadyH.nil
      go_simp
      (go_at_call 7; refine (hA1 _ (Below.refl _ _).drew).mono ?_; rintro e w6 ⟨rfl, hb6⟩; have hq1 : Below wr.heap.size wr w6 := (Below.refl wr.heap.size wr).drew.trans (hb6.mono (Nat.le_refl _)))
      refine hK.out _ _ hq1 (fun hHeld => ?_)
      clear hK K
      try simp only [Act.put, List.setIfInBounds_toArray, List.set_cons_zero, List.set_cons_succ]
      refine wpAnyH_ready (rs := [11]) (by kernel_rfl) (by simp) ?_
      refine AllReadyH.cons (o := { dst := some 91, op := Op.call { callee := Callee.value (Operand.func 7), args := #[Operand.tmp 86, Operand.tmp 90], argTypes := #[22, 27] }, type := 4, pos := "more.go:214", after := #[{ on := 6, ground := Ground.data }, { on := 10, ground := Ground.data }, { on := 5, ground := Ground.chain }], guard := none }) rfl (fun K hK => ?_) AllReadyH.nil
      go_simp
      (go_at_call 7; refine (hA2 _ hq1).mono ?_; rintro e w7 ⟨rfl, hb7⟩; have hq2 : Below wr.heap.size wr w7 := hq1.trans (hb7.mono hq1.size))
      refine hK.out _ _ hq2 (fun hHeld => ?_)
      clear hK K
      try simp only [Act.put, List.setIfInBounds_toArray, List.set_cons_zero, List.set_cons_succ]
      refine wpAnyH_take (i := 12) (oi := { dst := some 13, op := Op.assign (Operand.tmp 85), type := 4, pos := "more.go:214", after := #[{ on := 5, ground := Ground.data }, { on := 11, ground := Ground.chain }, { on := 0, ground := Ground.phase }, { on := 1, ground := Ground.phase }, { on := 2, ground := Ground.phase }, { on := 3, ground := Ground.phase }, { on := 4, ground := Ground.phase }, { on := 5, ground := Ground.phase }, { on := 6, ground := Ground.textOnly Departure.lateStores }, { on := 7, ground := Ground.textOnly Departure.lateStores }, { on := 8, ground := Ground.textOnly Departure.lateStores }, { on := 9, ground := Ground.textOnly Departure.lateStores }, { on := 10, ground := Ground.textOnly Departure.lateStores }, { on := 11, ground := Ground.textOnly Departure.lateStoresUnsure }], guard := none }) (v := .bool (!(hasI r x && !hasI c x))) rfl (by kernel_rfl) (by kernel_rfl) (by kernel_rfl) (fun _ _ _ h => h) (Or.inl ⟨by rfl, by intro w hSw; go_simp⟩) (by assumption) ?_
      try simp only [Act.put, List.setIfInBounds_toArray, List.set_cons_zero, List.set_cons_succ]
      refine wpAnyH_take (i := 13) (oi := { dst := some 14, op := Op.assign (Operand.tmp 91), type := 4, pos := "more.go:214", after := #[{ on := 11, ground := Ground.data }, { on := 12, ground := Ground.chain }, { on := 0, ground := Ground.phase }, { on := 1, ground := Ground.phase }, { on := 2, ground := Ground.phase }, { on := 3, ground := Ground.phase }, { on := 4, ground := Ground.phase }, { on := 5, ground := Ground.phase }, { on := 6, ground := Ground.phase }, { on := 7, ground := Ground.phase }, { on := 8, ground := Ground.phase }, { on := 9, ground := Ground.phase }, { on := 10, ground := Ground.phase }, { on := 11, ground := Ground.phase }, { on := 12, ground := Ground.phase }], guard := none }) (v := .bool (hasI r x && !hasI c x)) rfl (by kernel_rfl) (by kernel_rfl) (by kernel_rfl) (fun _ _ _ h => h) (Or.inl ⟨by rfl, by intro w hSw; go_simp⟩) (by assumption) ?_
      try simp only [Act.put, List.setIfInBounds_toArray, List.set_cons_zero, List.set_cons_succ]
      refine wpAnyH_done (by kernel_rfl) ?_ _
      have hx7 : IdAt ⟨b, off + k * 32, none⟩ x w7 := hxr.below hq2 hbs
      clear hA1 hA2
      generalize hasI r x = p at *
      generalize hasI c x = q at *
      cases p with
      | false =>
        clear hA4
        go_wp2_with (first
          | (refine list_loadg (.tmp 100) rfl (by rfl) ⟨b, off + k * 32, none⟩ (by rfl) x hx7 ?_; unfold idV)
          | (go_at_call 7; refine (hA3 _ hq2).mono ?_; rintro e w8 ⟨rfl, hb8⟩; have hq3 : Below wr.heap.size wr w8 := hq2.trans (hb8.mono hq2.size))
          | fail)
        go_roundw
        case rel => exact ⟨k + 1, by omega, by go_num, hM.below hq3⟩
        case measure => simp [RowKit.intOf]; omega
      | true =>
        cases q with
        | false =>
          go_wp2_with (first
            | (refine list_loadg (.tmp 100) rfl (by rfl) ⟨b, off + k * 32, none⟩ (by rfl) x hx7 ?_; unfold idV)
            | (refine list_loadg (.tmp 107) rfl (by rfl) ⟨b, off + k * 32, none⟩ (by rfl) x (hxr.below hq3 hbs) ?_; unfold idV)
            | (go_at_call 7; refine (hA4 _ hq3).mono ?_; rintro e w9 ⟨rfl, hb9⟩; have hq4 : Below wr.heap.size wr w9 := hq3.trans (hb9.mono hq3.size))
            | (go_at_call 7; refine (hA3 _ hq2).mono ?_; rintro e w8 ⟨rfl, hb8⟩; have hq3 : Below wr.heap.size wr w8 := hq2.trans (hb8.mono hq2.size))
            | fail)
          go_roundw
          case rel => exact ⟨k + 1, by omega, by go_num, hM.below hq4⟩
          case measure => simp [RowKit.intOf]; omega
        | true =>
          go_wp2_with (first
            | (refine list_loadg (.tmp 100) rfl (by rfl) ⟨b, off + k * 32, none⟩ (by rfl) x hx7 ?_; unfold idV)
            | (refine list_loadg (.tmp 107) rfl (by rfl) ⟨b, off + k * 32, none⟩ (by rfl) x (hxr.below hq3 hbs) ?_; unfold idV)
            | (go_at_call 7; refine (hA4 _ hq3).mono ?_; rintro e w9 ⟨rfl, hb9⟩; have hq4 : Below wr.heap.size wr w9 := hq3.trans (hb9.mono hq3.size))
            | (go_at_call 7; refine (hA3 _ hq2).mono ?_; rintro e w8 ⟨rfl, hb8⟩; have hq3 : Below wr.heap.size wr w8 := hq2.trans (hb8.mono hq2.size))
            | fail)
          go_roundw
          case rel => exact ⟨k + 1, by omega, by go_num, hM.below hq4⟩
          case measure => simp [RowKit.intOf]; omega
    · obtain rfl : k = l1.length := by omega
      go_wp2
      go_loopw [117] (fun iv wr => ∃ j : Nat, j ≤ c.length ∧ iv = .int .i64 j ∧ MB (.slice a1 l1.length cap1) (.slice aI r.length capI) (.slice aC c.length capC) vs vg l1 r c rs rg W wr) (fun iv _ => c.length - (RowKit.intOf iv).toNat)
      case atStart => exact ⟨0, Nat.zero_le _, rfl, hM⟩
      case round =>
        obtain ⟨j, hj, rfl, hMj⟩ := hrel
        clear hM
        rename World => wj
        have jj0 : (0 : Int) ≤ (j : Int) := Int.natCast_nonneg _
        by_cases hjl : j < c.length
        · obtain ⟨b, off, rfl, hbs, hcc⟩ := hMj.c.rd.spot (by omega)
          have hxr := hcc j hjl
          have hlaw := law_cut hsS (List.getElem_mem hjl)
          clear hcc
          generalize c[j] = x at *
          have jj1 : (j : Int) < (c.length : Int) := by omega
          have hA1 := has_any vs rs x wj hMj.s.rd
          rw [hlaw] at hA1
          go_wp2_with (first
            | (refine list_load rfl (.tmp 123) rfl ⟨b, off + j * 32, none⟩ (by rfl) x hxr ?_; unfold idV)
            | (go_at_call 7; refine hA1.mono ?_; rintro e w8 ⟨rfl, hb8⟩)
            | fail)
          go_roundw
          case rel => exact ⟨j + 1, by omega, by go_num, hMj.below hb8⟩
          case measure => simp [RowKit.intOf]; omega
        · obtain rfl : j = c.length := by omega
          go_wp2_with (first
            | (go_at_call 6; refine (merge_any hS hS0 hC _ _ _ rs r c _ hMj.s.rd hMj.i hMj.c (by omega) (by omega)).mono ?_; rintro e w8 ⟨vt, vn, rt, rn, rfl, hsT, hsN, hoT, hoN, hbM⟩; obtain ⟨eT, eN⟩ := law_again hcr hsS hsT hsN; subst eT; subst eN; have hoS := hMj.s.rd.below hbM; obtain ⟨aN, capN, rfl, _, _, _⟩ := hoN.rd.out_form; have hEq := eqI_iff.2 (rfl : rt = rt))
            | (go_at_call 8; refine (eq_any _ _ rt rt _ hoT.rd hoS).mono ?_; rw [hEq]; rintro e w9 ⟨rfl, dn, rfl⟩)
            | fail)
          go_ret
          exact ⟨rfl, (hMj.bel.trans (hbM.mono hMj.bel.size)).drewNm⟩
end Mg
