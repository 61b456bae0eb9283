/- The merge of names, walked; the conditions stand in each statement. -/
import Derived.Test.YtcbogemnimpkcaaGreatDoorMgd
set_option linter.unusedVariables false
set_option linter.unusedSimpArgs false
set_option linter.unusedSectionVars false
namespace Mg
open Go Go.Proofs Go.RowKit Ax

/-- Where a name is; -1: nowhere. -/
def idxI (l : List B32) (x : B32) : Int := match l.findIdx? (fun y => eqB x y) with | some k => k | none => -1
theorem eqB_comm (x y : B32) : eqB x y = eqB y x := by
  rw [Bool.eq_iff_iff, eqB_iff, eqB_iff]
  exact ⟨fun h => h.symm, fun h => h.symm⟩
theorem idx_has (l : List B32) (x : B32) : decide (idxI l x ≥ 0) = hasI l x := by
  unfold idxI hasI
  cases h : l.findIdx? (fun y => eqB x y) with
  | none =>
    rw [List.findIdx?_eq_none_iff] at h
    have : l.any (fun y => eqB y x) = false := by
      rw [List.any_eq_false]
      intro y hy
      rw [eqB_comm, h y hy]; simp
    rw [this]; simp
  | some k =>
    have hs : (l.findIdx? (fun y => eqB x y)).isSome = true := by rw [h]; rfl
    rw [List.findIdx?_isSome] at hs
    have : l.any (fun y => eqB y x) = true := by
      rw [List.any_eq_true] at hs ⊢
      obtain ⟨y, hy, he⟩ := hs
      exact ⟨y, hy, by rw [eqB_comm]; exact he⟩
    rw [this]; simp
theorem idx_at {l : List B32} {x : B32} {k : Nat} (hk : k < l.length) (hno : ∀ j (hj : j < l.length), j < k → eqB x l[j] = false) (he : eqB x l[k] = true) : idxI l x = k := by
  unfold idxI
  have : l.findIdx? (fun y => eqB x y) = some k := by
    rw [List.findIdx?_eq_some_iff_getElem]
    exact ⟨hk, he, fun j hj => by rw [hno j (by omega) hj]; simp⟩
  rw [this]
theorem idx_none {l : List B32} {x : B32} (hno : ∀ j (hj : j < l.length), eqB x l[j] = false) : idxI l x = -1 := by
  unfold idxI
  have : l.findIdx? (fun y => eqB x y) = none := by
    rw [List.findIdx?_eq_none_iff]
    intro y hy
    obtain ⟨j, hj, rfl⟩ := List.mem_iff_getElem.1 hy
    exact hno j hj
  rw [this]

set_option maxRecDepth 100000 in
set_option maxHeartbeats 1000000 in
theorem index_any (v : Value) (l : List B32) (x : B32) (w : World) (h : RdI v l w) :
    Calls Tryz.prog 110 #[v, .agg (encB x).toArray] w fun e w' => e = .returned (.int .i64 (idxI l x)) ∧ Below w.heap.size w w' := by
  obtain ⟨ao, cap, rfl, hlc, hmax, hao⟩ := h
  unfold maxLen at hmax
  have HAO := Lib.hid hao
  clear hao
  have hb0 := Deep.blk_alloc_new w (.cells (encB x).toArray TI)
  have hbl : Below w.heap.size w (w.alloc (.cells (encB x).toArray TI)) := (Below.refl _ _).alloc (Nat.le_refl _) _
  have hbox := IdAt.box hb0
  go_enter Tryz.func110, Tryz.ntmps110
  go_wp2
  generalize w.alloc (.cells (encB x).toArray TI) = W at *
  go_loopw [8] (fun i wr => ∃ k n : Nat, k ≤ l.length ∧ i = .int .i64 k ∧ wr = W.drewN n ∧ Hid (∀ j (hj : j < l.length), j < k → eqB x l[j] = false)) (fun i _ => l.length - (RowKit.intOf i).toNat)
  case atStart => exact ⟨0, 0, Nat.zero_le _, rfl, rfl, Lib.hid (fun j _ hj => by omega)⟩
  case round =>
    obtain ⟨k, n, hk, rfl, rfl, hno⟩ := hrel
    by_cases hlt : k < l.length
    · obtain ⟨a, rfl, ha, hc⟩ := HAO.out.resolve_left (by rintro rfl; simp at hlt)
      have hk' := (hc k hlt).below hbl (by rw [blk_add]; exact ha)
      have hT : Hid (eqB x l[k] = true → idxI l x = k) := Lib.hid (fun h => idx_at hlt hno.out h)
      have hF : Hid (eqB x l[k] = false → ∀ j (hj : j < l.length), j < k + 1 → eqB x l[j] = false) := Lib.hid (fun h j hj hjk => by
        rcases Nat.lt_succ_iff_lt_or_eq.1 hjk with h' | rfl
        · exact hno.out j hj h'
        · exact h)
      clear hc
      generalize l[k] = y at *
      have q3 : ∀ w, (Op.equalIn 10000 TI (idV x) (idV y)).run Tryz.prog w = .ok (eqB x y) w := eq_id x y
      unfold idV at q3
      by_cases he : eqB x y = true
      · rw [he] at q3
        go_wp2
        refine wp_region_quiet_lit (by kernel_rfl) (by kernel_rfl) ?_
        refine quiet_load rfl (.tmp 3) rfl ⟨w.heap.size, 0, none⟩ (by rfl) x (fun w hw => by obtain ⟨m, rfl⟩ := hw; exact hbox) ?_
        unfold idV
        repeat (quiet_step (fail))
        refine quiet_load rfl (.tmp 14) rfl (a.add (k * 32)) (by rfl) y (fun w hw => by obtain ⟨m, rfl⟩ := hw; exact hk') ?_
        unfold idV
        repeat (quiet_step (fail))
        refine wpQuiet_nil ?_
        rintro _ ⟨nq, rfl⟩
        go_wp2
        go_ret
        exact ⟨by rw [hT.out he]; rfl, hbl.drewNm.drewNm⟩
      · have he' : eqB x y = false := by simpa using he
        rw [he'] at q3
        go_wp2
        refine wp_region_quiet_lit (by kernel_rfl) (by kernel_rfl) ?_
        refine quiet_load rfl (.tmp 3) rfl ⟨w.heap.size, 0, none⟩ (by rfl) x (fun w hw => by obtain ⟨m, rfl⟩ := hw; exact hbox) ?_
        unfold idV
        repeat (quiet_step (fail))
        refine quiet_load rfl (.tmp 14) rfl (a.add (k * 32)) (by rfl) y (fun w hw => by obtain ⟨m, rfl⟩ := hw; exact hk') ?_
        unfold idV
        repeat (quiet_step (fail))
        refine wpQuiet_nil ?_
        rintro _ ⟨nq, rfl⟩
        go_wp2
        go_roundw
        case rel => exact ⟨k + 1, n + nq, by omega, by go_num, by first | rfl | rw [World.drewN_drewN], Lib.hid (hF.out he')⟩
        case measure => simp [RowKit.intOf]; omega
    · obtain rfl : k = l.length := by omega
      go_wp2
      go_ret
      rw [idx_none (fun j hj => hno.out j hj hj)]
      exact ⟨rfl, hbl.drewNm⟩
set_option maxRecDepth 100000 in
theorem contains_any (v : Value) (l : List B32) (x : B32) (w : World) (h : RdI v l w) :
    Calls Tryz.prog 64 #[v, .agg (encB x).toArray] w fun e w' => e = .returned (.bool (hasI l x)) ∧ Below w.heap.size w w' := by
  have hb0 := Deep.blk_alloc_new w (.cells (encB x).toArray TI)
  have hbl : Below w.heap.size w (w.alloc (.cells (encB x).toArray TI)) := (Below.refl _ _).alloc (Nat.le_refl _) _
  have hbox := IdAt.box hb0
  have hI := Lib.hid (idx_has l x)
  go_enter Tryz.func64, Tryz.ntmps64
  go_wp2_with (first
    | (refine list_load rfl (.tmp 3) rfl ⟨w.heap.size, 0, none⟩ (by rfl) x hbox ?_; unfold idV)
    | (go_at_call 110; refine (index_any v l x _ (h.below hbl)).mono ?_; rintro e w1 ⟨rfl, hb1⟩)
    | fail)
  go_ret
  refine ⟨?_, hbl.trans (hb1.mono hbl.size)⟩
  rw [← hI.out]
  rfl
set_option maxRecDepth 100000 in
theorem ohas_any (v : Value) (l : List B32) (x : B32) (w : World) (h : RdI v l w) :
    Calls Tryz.prog 30 #[v, .agg (encB x).toArray] w fun e w' => e = .returned (.bool (hasI l x)) ∧ Below w.heap.size w w' := by
  have hb0 := Deep.blk_alloc_new w (.cells (encB x).toArray TI)
  have hbl : Below w.heap.size w (w.alloc (.cells (encB x).toArray TI)) := (Below.refl _ _).alloc (Nat.le_refl _) _
  have hbox := IdAt.box hb0
  go_enter Tryz.func30, Tryz.ntmps30
  go_wp2_with (first
    | (refine list_load rfl (.tmp 3) rfl ⟨w.heap.size, 0, none⟩ (by rfl) x hbox ?_; unfold idV)
    | (go_at_call 64; refine (contains_any v l x _ (h.below hbl)).mono ?_; rintro e w1 ⟨rfl, hb1⟩)
    | fail)
  go_ret
  exact ⟨rfl, hbl.trans (hb1.mono hbl.size)⟩
end Mg
namespace Mg
open Go Go.Proofs Go.RowKit Ax

/-- What a merge holds behind k names. -/
structure MAt (B : Nat) (old i c : List B32) (k : Nat) (sh gn : Value) (w0 w : World) : Prop where
  s_ : OI B sh (c ++ notIn (old.take k) i) w
  g_ : OI B gn (goneI (old.take k) i c) w
  ne : ∀ g, sh.ownBlock = some g → ¬ gn.ownBlock = some g
  bel : Below w0.heap.size w0 w
theorem MAt.below {B : Nat} {old i c : List B32} {k : Nat} {sh gn : Value} {w0 w w' : World} (h : MAt B old i c k sh gn w0 w) (hb : Below w.heap.size w w') : MAt B old i c k sh gn w0 w' :=
  ⟨h.s_.below hb, h.g_.below hb, h.ne, h.bel.trans (hb.mono h.bel.size)⟩
theorem OI.grown {B : Nat} {v : Value} {l : List B32} {w w' : World} {row : Option Nat} (h : OI B v l w) (hg : w.grownBy w' row) (hr : ∀ g, v.ownBlock = some g → row ≠ some g) : OI B v l w' := by
  unfold OI World.ownsRow at h ⊢
  refine ⟨h.1, h.2.imp id ?_⟩
  rintro ⟨g, cap, cur, rfl, h2, hh, r⟩
  exact ⟨g, cap, cur, rfl, h2, (hg.block g (Array.getElem?_eq_some_iff.1 hh).1 (fun e => hr g rfl e.symm)).trans hh, r⟩
theorem notIn_snoc (a i : List B32) (x : B32) : notIn (a ++ [x]) i = if hasI i x = true then notIn a i else notIn a i ++ [x] := by
  unfold notIn
  rw [List.filter_append]
  cases h : hasI i x <;> simp [h]
theorem goneI_snoc (a i c : List B32) (x : B32) : goneI (a ++ [x]) i c = if (hasI i x && !hasI c x) = true then goneI a i c ++ [x] else goneI a i c := by
  unfold goneI
  rw [List.filter_append]
  cases h : hasI i x && !hasI c x <;> simp [h]
theorem clone_own (hC : CloneLaw Tryz.prog 29 TI) (v : Value) (l : List B32) (w : World) (h : OI 0 v l w) (hl : l.length ≤ 1000000) :
    Calls Tryz.prog 29 #[v] w fun e w' => ∃ v', e = .returned v' ∧ OI w.heap.size v' l w' ∧ Below w.heap.size w w' := by
  rcases h.form with ⟨rfl, rfl⟩ | ⟨g, cap, cs, rfl, _, hg, hle, hmax, hcs, hc⟩
  · refine (clone_nil w).mono ?_
    rintro e w' ⟨rfl, rfl⟩
    exact ⟨_, rfl, OI.nil _ _, Below.refl _ _⟩
  · have hcell : ∀ j u, (l.map encB).flatten[j]? = some u → w.cell? ⟨g, 0 + j, none⟩ = some u := fun j u hj => by
      have hj' : j < l.length * 32 := by rw [← flatI_len]; exact (List.getElem?_eq_some_iff.1 hj).1
      rw [Nat.zero_add, Lib.cell_of_heap hg, hc j hj', hj]
    refine (hC g 0 l.length cap _ w (flatI_len l) (by unfold maxLen; omega) (by omega) hcell (flatI_one l)).mono ?_
    rintro e w' ⟨v', rfl, ho, _, hb⟩
    exact ⟨v', rfl, ho, hb⟩
theorem merge_sh {B : Nat} {old i c : List B32} {k g cap n : Nat} {sh gn : Value} {w0 w w' : World} (h : MAt B old i c k sh gn w0 w) (hg : w.grownBy w' sh.ownBlock) (hat : sh.ownBlock = some g ∨ g = w.heap.size) (hB : w0.heap.size ≤ B) :
    OI B gn (goneI (old.take k) i c) w' ∧ (∀ q, (Value.slice (some ⟨g, 0, none⟩) n cap).ownBlock = some q → ¬ gn.ownBlock = some q) ∧ Below w0.heap.size w0 w' := by
  refine ⟨h.g_.grown hg (fun q hq e => h.ne q e hq), fun q hq hgq => ?_, h.bel.grown hg h.bel.size (fun q hq => Nat.le_trans hB (h.s_.lt hq).1)⟩
  simp only [Value.ownBlock, Option.some.injEq] at hq
  subst hq
  rcases hat with h' | rfl
  · exact h.ne _ h' hgq
  · exact Nat.lt_irrefl _ (h.g_.lt hgq).2
theorem merge_gone {B : Nat} {old i c : List B32} {k g cap n : Nat} {sh gn : Value} {w0 w w' : World} (h : MAt B old i c k sh gn w0 w) (hg : w.grownBy w' gn.ownBlock) (hat : gn.ownBlock = some g ∨ g = w.heap.size) (hB : w0.heap.size ≤ B) :
    OI B sh (c ++ notIn (old.take k) i) w' ∧ (∀ q, sh.ownBlock = some q → ¬ (Value.slice (some ⟨g, 0, none⟩) n cap).ownBlock = some q) ∧ Below w0.heap.size w0 w' := by
  refine ⟨h.s_.grown hg (fun q hq e => h.ne q hq e), fun q hq hgq => ?_, h.bel.grown hg h.bel.size (fun q hq => Nat.le_trans hB (h.g_.lt hq).1)⟩
  simp only [Value.ownBlock, Option.some.injEq] at hgq
  subst hgq
  rcases hat with h' | rfl
  · exact h.ne _ hq h'
  · exact Nat.lt_irrefl _ (h.s_.lt hq).2
theorem gone_len (old i c : List B32) : (goneI old i c).length ≤ old.length := List.length_filter_le _ _
theorem notIn_len (old i : List B32) : (notIn old i).length ≤ old.length := List.length_filter_le _ _

set_option maxRecDepth 100000 in
set_option maxHeartbeats 4000000 in
theorem merge_any (hS : SortLaw Tryz.prog 65 66) (hS0 : SortNil) (hC : CloneLaw Tryz.prog 29 TI)
    (vo vi vc : Value) (old i c : List B32) (w : World) (ho : RdI vo old w) (hi : RdI vi i w) (hc : OI 0 vc c w) (lo : old.length ≤ 1000) (lc : c.length ≤ 1000) :
    Calls Tryz.prog 6 #[vo, vi, vc] w fun e w' => ∃ v1 v2 r1 r2, e = .returned (.tuple #[v1, v2]) ∧ SortsTo (c ++ notIn old i) r1 ∧ SortsTo (goneI old i c) r2 ∧ OI w.heap.size v1 r1 w' ∧ OI w.heap.size v2 r2 w' ∧ Below w.heap.size w w' := by
  have hcl := clone_own hC vc c w hc (by omega)
  obtain ⟨ao, ocap, rfl, hlc, hmax, hao⟩ := ho
  unfold maxLen at hmax
  have HAO := Lib.hid hao
  clear hao
  go_enter Tryz.func6, Tryz.ntmps6
  go_wp2_with (first
    | (go_at_call 29; refine hcl.mono ?_; rintro e w1 ⟨v1, rfl, ho1, hb1⟩)
    | fail)
  have hM0 : MAt w.heap.size old i c 0 v1 (.slice none 0 0) w w1 := ⟨by simpa [notIn] using ho1, OI.nil _ _, fun g _ h => (by cases h), hb1⟩
  clear ho1 hb1 hcl
  go_loopw [8, 9, 16] (fun sh gn iv wr => ∃ k : Nat, k ≤ old.length ∧ iv = .int .i64 k ∧ MAt w.heap.size old i c k sh gn w wr) (fun _ _ iv _ => old.length - (RowKit.intOf iv).toNat)
  case atStart => exact ⟨0, Nat.zero_le _, rfl, hM0⟩
  case round =>
    obtain ⟨k, hk, rfl, hM⟩ := hrel
    clear hM0
    rename World => wr
    by_cases hlt : k < old.length
    · obtain ⟨ad, rfl, ha, hcc⟩ := HAO.out.resolve_left (by rintro rfl; simp at hlt)
      have hxr := (hcc k hlt).below hM.bel (by rw [blk_add]; exact ha)
      have HT : Hid (old.take (k + 1) = old.take k ++ [old[k]]) := Lib.hid (List.take_succ_eq_append_getElem hlt)
      clear hcc
      generalize old[k] = x at *
      have kk0 : (0 : Int) ≤ (k : Int) := Int.natCast_nonneg _
      have kk1 : (k : Int) < (old.length : Int) := by omega
      have hln := notIn_len (old.take k) i
      have hlg := gone_len (old.take k) i c
      rw [List.length_take] at hln hlg
      have hls : (c ++ notIn (old.take k) i).length + 1 ≤ 1000000 := by rw [List.length_append]; omega
      have hlgs : (goneI (old.take k) i c).length + 1 ≤ 1000000 := by omega
      clear hln hlg
      have hbx := Deep.blk_alloc_new wr (.cells (encB x).toArray TI)
      have hMb := hM.below ((Below.refl wr.heap.size wr).alloc (Nat.le_refl _) (.cells (encB x).toArray TI))
      have hlb := (Array.getElem?_eq_some_iff.1 hbx).1
      by_cases hi1 : hasI i x = true
      · by_cases hc1 : hasI c x = true
        · go_wp2_with (first
            | (refine list_load rfl (.tmp 18) rfl (ad.add (k * 32)) (by rfl) x hxr ?_; unfold idV)
            | (refine list_store_new rfl (.tmp 11) (.tmp 19) rfl (by rfl) (by rfl) x (by rfl) ?_)
            | (refine list_load rfl (.tmp 11) rfl ⟨wr.heap.size, 0, none⟩ (by rfl) x (IdAt.box hbx) ?_; unfold idV)
            | (refine list_load rfl (.tmp 11) rfl ⟨wr.heap.size, 0, none⟩ (by rfl) x (IdAt.box hbx2) ?_; unfold idV)
            | (go_at_call 30; refine (ohas_any _ i x _ (hi.below hMb.bel)).mono ?_; rw [hi1]; rintro e w2 ⟨rfl, hb2⟩; have hM2 := hMb.below hb2; have hbx2 := (hb2.block _ hlb).trans hbx)
            | (go_at_call 30; refine (ohas_any _ c x _ (hc.rd.below hM2.bel)).mono ?_; rw [hc1]; rintro e w3 ⟨rfl, hb3⟩; have hM3 := hM2.below hb3)
            | fail)
          go_roundw
          case rel => exact ⟨k + 1, by omega, by go_num, ⟨by rw [HT.out, notIn_snoc, if_pos hi1]; exact hM3.s_, by rw [HT.out, goneI_snoc, if_neg (by rw [hi1, hc1]; simp)]; exact hM3.g_, hM3.ne, hM3.bel⟩⟩
          case measure => simp [RowKit.intOf]; omega
        · have hc1' : hasI c x = false := by simpa using hc1
          go_wp2_with (first
            | (refine list_load rfl (.tmp 18) rfl (ad.add (k * 32)) (by rfl) x hxr ?_; unfold idV)
            | (refine list_store_new rfl (.tmp 11) (.tmp 19) rfl (by rfl) (by rfl) x (by rfl) ?_)
            | (refine list_load rfl (.tmp 11) rfl ⟨wr.heap.size, 0, none⟩ (by rfl) x (IdAt.box hbx) ?_; unfold idV)
            | (refine list_load rfl (.tmp 11) rfl ⟨wr.heap.size, 0, none⟩ (by rfl) x (IdAt.box hbx3) ?_; unfold idV)
            | (refine list_load rfl (.tmp 11) rfl ⟨wr.heap.size, 0, none⟩ (by rfl) x (IdAt.box hbx2) ?_; unfold idV)
            | (refine list_build rfl (.tmp 33) rfl x (by rfl) ?_)
            | (at_builtin; refine list_app1 rfl (.tmp 32) (.tmp 34) (by rfl) w.heap.size _ (goneI (old.take k) i c) (by rfl) (hM3.below ((Below.refl _ _).alloc (Nat.le_refl _) _)).g_ (hM3.below ((Below.refl _ _).alloc (Nat.le_refl _) _)).bel.size w3.heap.size x (by rfl) (Deep.blk_alloc_new w3 _) hlgs ?_; intro g5 cap5 w5 ho5 hg5 hat5)
            | (go_at_call 30; refine (ohas_any _ i x _ (hi.below hMb.bel)).mono ?_; rw [hi1]; rintro e w2 ⟨rfl, hb2⟩; have hM2 := hMb.below hb2; have hbx2 := (hb2.block _ hlb).trans hbx; have hlb2 := Nat.lt_of_lt_of_le hlb hb2.size)
            | (go_at_call 30; refine (ohas_any _ c x _ (hc.rd.below hM2.bel)).mono ?_; rw [hc1']; rintro e w3 ⟨rfl, hb3⟩; have hM3 := hM2.below hb3; have hbx3 := (hb3.block _ hlb2).trans hbx2)
            | fail)
          have hM4 := hM3.below ((Below.refl w3.heap.size w3).alloc (Nat.le_refl _) (.cells (encB x).toArray TI))
          have hN := merge_gone (cap := cap5) (n := (goneI (old.take k) i c).length + 1) hM4 hg5 hat5 (Nat.le_refl _)
          go_roundw
          case rel => exact ⟨k + 1, by omega, by go_num, ⟨by rw [HT.out, notIn_snoc, if_pos hi1]; exact hN.1, by rw [HT.out, goneI_snoc, if_pos (by rw [hi1, hc1']; rfl)]; exact ho5, hN.2.1, hN.2.2⟩⟩
          case measure => simp [RowKit.intOf]; omega
      · have hi1' : hasI i x = false := by simpa using hi1
        go_wp2_with (first
          | (refine list_load rfl (.tmp 18) rfl (ad.add (k * 32)) (by rfl) x hxr ?_; unfold idV)
          | (refine list_store_new rfl (.tmp 11) (.tmp 19) rfl (by rfl) (by rfl) x (by rfl) ?_)
          | (refine list_load rfl (.tmp 11) rfl ⟨wr.heap.size, 0, none⟩ (by rfl) x (IdAt.box hbx) ?_; unfold idV)
          | (refine list_load rfl (.tmp 11) rfl ⟨wr.heap.size, 0, none⟩ (by rfl) x (IdAt.box hbx2) ?_; unfold idV)
          | (refine list_build rfl (.tmp 25) rfl x (by rfl) ?_)
          | (at_builtin; refine list_app1 rfl (.tmp 24) (.tmp 26) (by rfl) w.heap.size _ (c ++ notIn (old.take k) i) (by rfl) (hM2.below ((Below.refl _ _).alloc (Nat.le_refl _) _)).s_ (hM2.below ((Below.refl _ _).alloc (Nat.le_refl _) _)).bel.size w2.heap.size x (by rfl) (Deep.blk_alloc_new w2 _) hls ?_; intro g5 cap5 w5 ho5 hg5 hat5)
          | (go_at_call 30; refine (ohas_any _ i x _ (hi.below hMb.bel)).mono ?_; rw [hi1']; rintro e w2 ⟨rfl, hb2⟩; have hM2 := hMb.below hb2; have hbx2 := (hb2.block _ hlb).trans hbx)
          | fail)
        have hM4 := hM2.below ((Below.refl w2.heap.size w2).alloc (Nat.le_refl _) (.cells (encB x).toArray TI))
        have hN := merge_sh (cap := cap5) (n := (c ++ notIn (old.take k) i).length + 1) hM4 hg5 hat5 (Nat.le_refl _)
        go_roundw
        case rel => exact ⟨k + 1, by omega, by go_num, ⟨by rw [HT.out, notIn_snoc, if_neg hi1, ← List.append_assoc]; have ho6 := ho5; rw [List.length_append] at ho6; exact ho6, by rw [HT.out, goneI_snoc, if_neg (by rw [hi1']; simp)]; exact hN.1, hN.2.1, hN.2.2⟩⟩
        case measure => simp [RowKit.intOf]; omega
    · obtain rfl : k = old.length := by omega
      have hsh := hM.s_
      have hgn := hM.g_
      rw [List.take_length] at hsh hgn
      have hls : (c ++ notIn old i).length ≤ 1000000 := by have := notIn_len old i; rw [List.length_append]; omega
      have hlg : (goneI old i c).length ≤ 1000000 := by have := gone_len old i c; omega
      go_wp2_with (first
        | (go_at_call 31; refine (oidsort_any hS hS0 hC _ _ _ (hsh.mono (Nat.zero_le _)) hls).mono ?_; rintro e w2 ⟨v2, r2, rfl, hs2, ho2, hb2⟩; have hgn2 := hgn.below hb2)
        | (go_at_call 31; refine (oidsort_any hS hS0 hC _ _ _ (hgn2.mono (Nat.zero_le _)) hlg).mono ?_; rintro e w3 ⟨v3, r3, rfl, hs3, ho3, hb3⟩)
        | fail)
      go_ret2
      exact ⟨v2, v3, r2, r3, rfl, hs2, hs3, (ho2.below hb3).mono hM.bel.size, ho3.mono (Nat.le_trans hM.bel.size hb2.size), (hM.bel.trans (hb2.mono hM.bel.size)).trans (hb3.mono (Nat.le_trans hM.bel.size hb2.size))⟩
end Mg
