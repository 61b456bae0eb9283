/- The crash of the disk, walked; its conditions stand in each statement. -/
import Derived.Test.YtiikdbnblacbhaaGreatDoorDb
import Derived.LoopTactic
import Derived.Deep.QuietTactic
import Derived.BigQuiet
set_option linter.unusedVariables false
set_option linter.unusedSimpArgs false
set_option linter.unusedSectionVars false
namespace Dk
open Go Go.Proofs Go.RowKit Go.Maps

/-- The i-th bit, as the code asks for it. -/
def bitB (keep : Int) (i : Nat) : Bool := (Go.bits BinOp.and IntKind.u64 (keep / 2 ^ i) 1 == 1)
theorem bitB_false {keep : Int} {k : Nat} (h : ¬ bitB keep k = true) : (Go.bits BinOp.and IntKind.u64 (keep / 2 ^ k) 1 == 1) = false := by
  have : bitB keep k = false := Bool.eq_false_iff.2 h
  exact this
def goB (keep : Int) (i : Nat) (o : Op3) (S : DataW Unit) : Bool := decide (i < 64) && (bitB keep i && decide (canO o S = 0))
def crashF (keep : Int) : Nat → List Op3 → DataW Unit → DataW Unit
  | _, [], S => S
  | i, o :: l, S => crashF keep (i + 1) l (bif goB keep i o S then doesO o S else S)
theorem crashF_snoc (keep : Int) (o : Op3) : ∀ (l : List Op3) (i : Nat) (S : DataW Unit), crashF keep i (l ++ [o]) S = (bif goB keep (i + l.length) o (crashF keep i l S) then doesO o (crashF keep i l S) else crashF keep i l S)
  | [], i, S => rfl
  | a :: l, i, S => by
    have := crashF_snoc keep o l (i + 1) (bif goB keep i a S then doesO a S else S)
    have e : i + 1 + l.length = i + (l.length + 1) := by omega
    rw [e] at this
    exact this
theorem crashF_take (keep : Int) (l : List Op3) (S : DataW Unit) (k : Nat) (hk : k < l.length) : crashF keep 0 (l.take (k + 1)) S = (bif goB keep k l[k] (crashF keep 0 (l.take k) S) then doesO l[k] (crashF keep 0 (l.take k) S) else crashF keep 0 (l.take k) S) := by
  rw [List.take_succ_eq_append_getElem hk, crashF_snoc]
  have : (l.take k).length = k := by rw [List.length_take]; omega
  rw [this, Nat.zero_add]
theorem cellsO_get : ∀ (l : List Op3) (k : Nat) (hk : k < l.length) (j : Nat), j < 3 → (cellsO l)[k * 3 + j]? = (l[k].cells)[j]?
  | [], k, hk, _, _ => by simp at hk
  | o :: l, 0, _, j, hj => by
    have : cellsO (o :: l) = o.cells ++ cellsO l := by simp [cellsO]
    rw [this, Nat.zero_mul, Nat.zero_add, List.getElem?_append_left (by simp [Op3.cells]; omega)]
    rfl
  | o :: l, k + 1, hk, j, hj => by
    have : cellsO (o :: l) = o.cells ++ cellsO l := by simp [cellsO]
    rw [this, List.getElem?_append_right (by simp [Op3.cells]; omega)]
    have e : (k + 1) * 3 + j - o.cells.length = k * 3 + j := by simp [Op3.cells]; omega
    rw [e, cellsO_get l k (by simpa using hk) j hj]
    rfl
theorem row_op {w : World} {g n cap : Nat} {ops : List Op3} (h : w.ownsRow 0 114 3 (.slice (some ⟨g, 0, none⟩) n cap) ops.length (cellsO ops)) (k : Nat) (hk : k < ops.length) :
    w.cell? ⟨g, k * 3, none⟩ = some (.int .i64 ops[k].k) ∧ w.cell? ⟨g, k * 3 + 1, none⟩ = some (.string ops[k].f) ∧ w.cell? ⟨g, k * 3 + 2, none⟩ = some (.string ops[k].b) := by
  rcases h.2 with ⟨hv, _⟩ | ⟨g', cap', cur, hv, _, hg, hle, _, hcs, htake⟩
  · cases hv
  · simp only [Value.slice.injEq, Option.some.injEq, Addr.mk.injEq, and_true] at hv
    obtain ⟨rfl, _, _⟩ := hv
    have key : ∀ j, j < 3 → cur[k * 3 + j]? = (ops[k].cells)[j]? := fun j hj => by
      rw [← cellsO_get ops k hk j hj, ← htake, List.getElem?_take_of_lt (by omega)]
      simp
    refine ⟨?_, ?_, ?_⟩
    · rw [Lib.cell_of_heap hg]; exact key 0 (by omega)
    · rw [Lib.cell_of_heap hg]; exact key 1 (by omega)
    · rw [Lib.cell_of_heap hg]; exact key 2 (by omega)

theorem _root_.Go.RowKit.Below.drewN_ {B : Nat} {a w : World} (h : Below B a w) {n : Nat} : Below B a (w.drewN n) := ⟨h.os, h.tape, h.output, h.size, h.block⟩
/-- A round's state. -/
structure CrashAt (d : Nat) (c : DC) (s : St) (keep : Int) (w : World) (k : Nat) (wr : World) : Prop where
  at_ : c.At d wr
  files : Files wr c.F (Maps.size s.F) s.F
  sure : Files wr c.S (Maps.size s.S + k) (crashF keep 0 (s.ops.take k) s.S)
  row : wr.ownsRow 0 114 3 c.since s.ops.length (cellsO s.ops)
  kp : Kp (· = c.S) w wr

theorem CrashAt.skip {d : Nat} {c : DC} {s : St} {keep : Int} {w wr w' : World} {k : Nat} {o : Op3} (h : CrashAt d c s keep w k wr) (hb : Below wr.heap.size wr w')
    (HT : Hid (crashF keep 0 (s.ops.take (k + 1)) s.S = (bif goB keep k o (crashF keep 0 (s.ops.take k) s.S) then doesO o (crashF keep 0 (s.ops.take k) s.S) else crashF keep 0 (s.ops.take k) s.S))) (hg : goB keep k o (crashF keep 0 (s.ops.take k) s.S) = false) : CrashAt d c s keep w (k + 1) w' := by
  have e := HT.out
  rw [hg, cond_false] at e
  refine ⟨h.at_.of_block (hb.block _ h.at_.lt), h.files.kp (Kp.of_below (S := fun _ => False) hb) (fun h => h), ?_, row_kp h.row (Kp.of_below (S := fun _ => False) hb) (fun _ _ h => h), h.kp.trans (Kp.of_below (S := fun _ => False) hb) (fun _ _ h => h.elim)⟩
  rw [e]
  exact World.ownsMap.mono (h.sure.kp (Kp.of_below (S := fun _ => False) hb) (fun h => h)) (Nat.le_succ _)
theorem CrashAt.does {d : Nat} {c : DC} {s : St} {keep : Int} {w wr w1 w' : World} {k : Nat} {o : Op3} (hI : IsDisk d c s.F s.S s.ops w) (h : CrashAt d c s keep w k wr) (hb : Below wr.heap.size wr w1)
    (HT : Hid (crashF keep 0 (s.ops.take (k + 1)) s.S = (bif goB keep k o (crashF keep 0 (s.ops.take k) s.S) then doesO o (crashF keep 0 (s.ops.take k) s.S) else crashF keep 0 (s.ops.take k) s.S))) (hg : goB keep k o (crashF keep 0 (s.ops.take k) s.S) = true)
    (hF : Files w' c.S (Maps.size s.S + k + 1) (doesO o (crashF keep 0 (s.ops.take k) s.S))) (hk : Kp (· = c.S) w1 w') : CrashAt d c s keep w (k + 1) w' := by
  have e := HT.out
  rw [hg, cond_true] at e
  have hk' : Kp (· = c.S) wr w' := (Kp.of_below (S := (· = c.S)) hb).trans hk (fun _ _ h => h)
  refine ⟨h.at_.of_block (hk'.block _ h.at_.lt (fun e => hI.sure_ne e.symm)), h.files.kp hk' hI.ne, ?_, row_kp h.row hk' (fun g hg e => (hI.row_ne hg).2.2 e), h.kp.trans hk' (fun _ _ h => h)⟩
  rw [e]
  exact hF
theorem goB_lt {keep : Int} {k : Nat} {o : Op3} {S : DataW Unit} (h : ¬ k < 64) : goB keep k o S = false := by simp [goB, h]
theorem goB_bit {keep : Int} {k : Nat} {o : Op3} {S : DataW Unit} (h : ¬ bitB keep k = true) : goB keep k o S = false := by simp [goB, h]
theorem goB_can {keep : Int} {k : Nat} {o : Op3} {S : DataW Unit} (h : ¬ canO o S = 0) : goB keep k o S = false := by simp [goB, h]
theorem goB_yes {keep : Int} {k : Nat} {o : Op3} {S : DataW Unit} (h : k < 64) (h1 : bitB keep k = true) (h2 : canO o S = 0) : goB keep k o S = true := by simp [goB, h, h1, h2]

theorem crashF_all (keep : Int) (l : List Op3) (S : DataW Unit) : crashF keep 0 (l.take l.length) S = crashF keep 0 l S := by rw [List.take_length]
theorem crash_end {d : Nat} {c : DC} {s : St} {keep : Int} {w wr w5 : World} (hD : Disk d c s w) (hC : CrashAt d c s keep w s.ops.length wr) (hF5 : Files w5 wr.heap.size (Maps.size s.S + s.ops.length) (crashF keep 0 s.ops s.S)) (hb5 : Below wr.heap.size wr w5) (h5 : c.At d w5) :
    Stepped d c ⟨crashF keep 0 s.ops s.S, crashF keep 0 s.ops s.S, [], s.n, -1, false⟩ w ((((w5.setCell ⟨d, 0, none⟩ (.map (some wr.heap.size))).setCell ⟨d, 2, none⟩ (.slice none 0 0)).setCell ⟨d, 4, none⟩ (.int .i64 (-1))).setCell ⟨d, 5, none⟩ (.bool false)) := by
  have hk : Kp (· = d) w5 ((((w5.setCell ⟨d, 0, none⟩ (.map (some wr.heap.size))).setCell ⟨d, 2, none⟩ (.slice none 0 0)).setCell ⟨d, 4, none⟩ (.int .i64 (-1))).setCell ⟨d, 5, none⟩ (.bool false)) :=
    Kp.setCell (S := (· = d)) (Kp.setCell (S := (· = d)) (Kp.setCell (S := (· = d)) (Kp.setCell (S := (· = d)) (Kp.refl _ _) (p := ⟨d, 0, none⟩) (fun _ => rfl) _) (p := ⟨d, 2, none⟩) (fun _ => rfl) _) (p := ⟨d, 4, none⟩) (fun _ => rfl) _) (p := ⟨d, 5, none⟩) (fun _ => rfl) _
  have hS := hC.sure
  rw [crashF_all] at hS
  have hSl := hS.lt
  have hdl := hC.at_.lt
  have hkw : Kp (fun k => k = d ∨ k = c.S) w ((((w5.setCell ⟨d, 0, none⟩ (.map (some wr.heap.size))).setCell ⟨d, 2, none⟩ (.slice none 0 0)).setCell ⟨d, 4, none⟩ (.int .i64 (-1))).setCell ⟨d, 5, none⟩ (.bool false)) :=
    ((hC.kp.mono (fun _ _ e => .inr e)).trans (Kp.of_below (S := fun _ => False) hb5) (fun _ _ h => h.elim)).trans hk (fun _ _ h => .inl h)
  refine ⟨{ c with F := wr.heap.size, since := .slice none 0 0, fuse := -1, down := false }, ⟨⟨(((h5.set0 wr.heap.size).set2 _).set4 _).set5 _, ?_, ?_, ?_, ?_⟩, hD.n, rfl, rfl⟩, hkw.mono (fun _ _ e => e.elim .inl (fun e => .inr (.inr (.inl e)))), ?_⟩
  · exact (hF5.tight).kp hk (by show ¬ wr.heap.size = d; omega)
  · exact ((hS.tight).kp (Kp.of_below (S := fun _ => False) hb5) (fun h => h)).kp hk hD.is.sure_ne
  · show wr.heap.size ≠ c.S; omega
  · exact ⟨rfl, .inl ⟨rfl, rfl⟩⟩
  · rintro k (hk' | hk' | hk' | hk')
    · exact .inl (.inl hk')
    · right; have := hC.kp.size; have : k = wr.heap.size := hk'; omega
    · exact .inl (.inr (.inr (.inl hk')))
    · cases hk'

set_option maxRecDepth 100000 in
set_option maxHeartbeats 1000000 in
theorem crash_any (d : Nat) (c : DC) (s : St) (keep : Int) (w : World) (hD : Disk d c s w) (hs : s.Fits) (hk0 : 0 ≤ keep) (hk1 : keep < 18446744073709551616) :
    Calls Tryz.prog 16 #[.pointer (some ⟨d, 0, none⟩), .int .u64 keep] w fun e w' => e = .returned (.tuple #[]) ∧ Stepped d c ⟨crashF keep 0 s.ops s.S, crashF keep 0 s.ops s.S, [], s.n, -1, false⟩ w w' := by
  have hA := hD.is.at_
  have c2 := hA.c2
  obtain ⟨ao, cap, hv, hao⟩ : ∃ ao cap, c.since = .slice ao s.ops.length cap ∧ (s.ops.length = 0 ∨ ∃ g, ao = some ⟨g, 0, none⟩) := by
    rcases hD.is.row.2 with ⟨hv, h0⟩ | ⟨g, cap, cur, hv, _, hg, hle, hcap, hcs, htake⟩
    · exact ⟨none, 0, by rw [h0]; exact hv, .inl h0⟩
    · exact ⟨_, cap, hv, .inr ⟨g, rfl⟩⟩
  have HV := Lib.hid hv
  have HAO := Lib.hid hao
  rw [hv] at c2
  clear hv hao
  have hlen := hs.ops
  go_enter Tryz.func16, Tryz.ntmps16
  go_wp2
  go_loopw [13] (fun i wr => ∃ k : Nat, k ≤ s.ops.length ∧ i = .int .i64 k ∧ CrashAt d c s keep w k wr) (fun i _ => s.ops.length - (intOf i).toNat)
  case atStart => exact ⟨0, Nat.zero_le _, rfl, ⟨hA, hD.is.files, hD.is.sure, hD.is.row, Kp.refl _ _⟩⟩
  case round =>
    obtain ⟨k, hk, rfl, hC⟩ := hrel
    by_cases hlt : k < s.ops.length
    · have hrow := hC.row
      rw [HV.out] at hrow
      obtain ⟨g, rfl⟩ : ∃ g, ao = some ⟨g, 0, none⟩ := HAO.out.resolve_left (by omega)
      obtain ⟨e0, e1, e2⟩ := row_op hrow k hlt
      have hfine := hs.fine _ (List.getElem_mem hlt)
      have hHT := crashF_take keep s.ops s.S k hlt
      have HT := Lib.hid hHT
      clear hHT hrow
      generalize s.ops[k] = o at *
      have hb0 := Deep.blk_alloc_new wr (.cells #[.int .i64 o.k, .string o.f, .string o.b] 114)
      have h1 : c.At d (wr.alloc (.cells #[.int .i64 o.k, .string o.f, .string o.b] 114)) := (Deep.blk_alloc_lt _ _ _ hC.at_.lt).trans hC.at_
      have hS1 : Files (wr.alloc (.cells #[.int .i64 o.k, .string o.f, .string o.b] 114)) c.S _ _ := World.ownsMap.alloc hC.sure _
      have hbl : Below wr.heap.size wr (wr.alloc (.cells #[.int .i64 o.k, .string o.f, .string o.b] 114)) := (Below.refl _ _).alloc (Nat.le_refl _) _
      have hsz : wr.heap.size < (wr.alloc (.cells #[.int .i64 o.k, .string o.f, .string o.b] 114)).heap.size := by rw [Deep.nblk_alloc]; omega
      by_cases h64 : k < 64
      · have h64' : decide ((k : Int) < 64) = true := by simp; omega
        have hk00 : (0 : Int) ≤ (k : Int) := Int.natCast_nonneg _
        go_wp2
        generalize wr.alloc (.cells #[.int .i64 o.k, .string o.f, .string o.b] 114) = W at *
        by_cases hbt : bitB keep k = true
        · have hbit : (Go.bits BinOp.and IntKind.u64 (keep / 2 ^ k) 1 == 1) = true := hbt
          have hS2 : Files W.drew c.S _ _ := hS1
          have c1 := h1.c1
          obtain ⟨b0, b1, b2⟩ := box_cells hb0
          have hdl2 : d < W.drew.heap.size := h1.lt
          have hsz2 : wr.heap.size < W.drew.heap.size := hsz
          by_cases hE : canO o (crashF keep 0 (s.ops.take k) s.S) = 0
          · have hg := goB_yes h64 hbt hE
            have hca := can_all o hfine _ c.S _ _ hS2
            rw [hE] at hca
            clear hbt hE
            go_region_held3 (fun w' => w'.cell? ⟨d, 1, none⟩ = some (.map (some c.S)) ∧ w'.cell? ⟨wr.heap.size, 0, none⟩ = some (.int .i64 o.k) ∧ w'.cell? ⟨wr.heap.size, 1, none⟩ = some (.string o.f) ∧ w'.cell? ⟨wr.heap.size, 2, none⟩ = some (.string o.b))
              (first
                | go_keep
                | (go_split_ands
                   refine ⟨?_, ?_, ?_, ?_⟩
                   · exact (hbc.cell (p := ⟨d, 1, none⟩) hdl2).trans c1
                   · exact (hbc.cell (p := ⟨wr.heap.size, 0, none⟩) hsz2).trans b0
                   · exact (hbc.cell (p := ⟨wr.heap.size, 1, none⟩) hsz2).trans b1
                   · exact (hbc.cell (p := ⟨wr.heap.size, 2, none⟩) hsz2).trans b2))
              (first | (go_at_call 60; refine hca.mono ?_; rintro e w3 ⟨rfl, hbc⟩))
            have hb3 := (hbc.block _ hsz2).trans (show W.drew.heap[wr.heap.size]? = _ from hb0)
            have h3 : c.At d w3 := (show c.At d W.drew from h1).of_block (hbc.block d hdl2)
            have hS3 := hS2.kp (Kp.of_below (S := fun _ => False) hbc) (fun h => h)
            have hbl3 : Below wr.heap.size wr w3 := (show Below wr.heap.size wr W.drew from hbl.drew).trans (hbc.mono (Nat.le_of_lt hsz2))
            clear hbc c1 b0 b1 b2 hdl2 hsz2 hca hS2 hsz hbl hS1 h1 hb0
            go_wp2
            have c1 := h3.c1
            obtain ⟨b0, b1, b2⟩ := box_cells hb3
            go_still_tail 5, (by kernel_rfl)
            clear c1 b0 b1 b2
            have hS4 : Files w3.drew c.S _ _ := hS3
            have hbl4 : Below wr.heap.size wr w3.drew := hbl3.drew
            change wpList _ _ _ _ _ w3.drew
            clear h3 hb3 hS3 hbl3
            generalize w3.drew = w5 at *
            go_wp2_with (first
              | (go_at_call 61; refine (does_all o hfine _ _ _ _ hS4 (by unfold maxLen; have := hs.S; omega)).mono ?_; rintro e w6 ⟨rfl, hF6, hk7⟩)
              | fail)
            go_roundw
            case rel => exact ⟨k + 1, by omega, by go_num, hC.does hD.is hbl4 HT hg hF6 hk7⟩
            case measure => simp [intOf]; omega
          · have hg := goB_can (keep := keep) (k := k) hE
            have hE' : (canO o (crashF keep 0 (s.ops.take k) s.S) == 0) = false := by simpa using hE
            have hca := can_all o hfine _ c.S _ _ hS2
            generalize canO o (crashF keep 0 (s.ops.take k) s.S) = E at *
            clear hbt
            go_region_held3 (fun w' => w'.cell? ⟨d, 1, none⟩ = some (.map (some c.S)) ∧ w'.cell? ⟨wr.heap.size, 0, none⟩ = some (.int .i64 o.k) ∧ w'.cell? ⟨wr.heap.size, 1, none⟩ = some (.string o.f) ∧ w'.cell? ⟨wr.heap.size, 2, none⟩ = some (.string o.b))
              (first
                | go_keep
                | (go_split_ands
                   refine ⟨?_, ?_, ?_, ?_⟩
                   · exact (hbc.cell (p := ⟨d, 1, none⟩) hdl2).trans c1
                   · exact (hbc.cell (p := ⟨wr.heap.size, 0, none⟩) hsz2).trans b0
                   · exact (hbc.cell (p := ⟨wr.heap.size, 1, none⟩) hsz2).trans b1
                   · exact (hbc.cell (p := ⟨wr.heap.size, 2, none⟩) hsz2).trans b2))
              (first | (go_at_call 60; refine hca.mono ?_; rintro e w3 ⟨rfl, hbc⟩))
            have hbl3 : Below wr.heap.size wr w3 := (show Below wr.heap.size wr W.drew from hbl.drew).trans (hbc.mono (Nat.le_of_lt hsz2))
            clear hbc c1 b0 b1 b2 hdl2 hsz2 hca hS2
            go_wp2
            go_roundw
            case rel => exact ⟨k + 1, by omega, by go_num, hC.skip hbl3 HT hg⟩
            case measure => simp [intOf]; omega
        · have hg := goB_bit (o := o) (S := crashF keep 0 (s.ops.take k) s.S) hbt
          have hbit : (Go.bits BinOp.and IntKind.u64 (keep / 2 ^ k) 1 == 1) = false := bitB_false hbt
          clear hbt
          go_quiet (fail)
          go_wp2
          go_roundw
          case rel => exact ⟨k + 1, by omega, by go_num, hC.skip hbl.drewN_ HT hg⟩
          case measure => simp [intOf]; omega
      · have h64' : decide ((k : Int) < 64) = false := by simp; omega
        have hg := goB_lt (keep := keep) (o := o) (S := crashF keep 0 (s.ops.take k) s.S) h64
        clear h64
        go_wp2
        generalize wr.alloc (.cells #[.int .i64 o.k, .string o.f, .string o.b] 114) = W at *
        go_quiet (fail)
        go_wp2
        go_roundw
        case rel => exact ⟨k + 1, by omega, by go_num, hC.skip hbl.drewN_ HT hg⟩
        case measure => simp [intOf]; omega
    · obtain rfl : k = s.ops.length := by omega
      have hA' := hC.at_
      have c1 := hA'.c1
      have hS := hC.sure
      have hTk := crashF_all keep s.ops s.S
      rw [hTk] at hS
      clear hTk
      go_wp2_with (first
        | (go_at_call 62; refine (clone_files _ _ _ _ hS).mono ?_; rintro e w5 ⟨rfl, hF5, hb5, hl5⟩; have h5 := hA'.of_block (hb5.block d hA'.lt); have e0 := h5.c0; have f0 := h5.fz 0; have e2 := (h5.set0 wr.heap.size).c2; have f2 := (h5.set0 wr.heap.size).fz 2; have e4 := ((h5.set0 wr.heap.size).set2 (.slice none 0 0)).c4; have f4 := ((h5.set0 wr.heap.size).set2 (.slice none 0 0)).fz 4; have e5 := (((h5.set0 wr.heap.size).set2 (.slice none 0 0)).set4 (-1)).c5; have f5 := (((h5.set0 wr.heap.size).set2 (.slice none 0 0)).set4 (-1)).fz 5)
        | fail)
      go_end0
      exact ⟨rfl, crash_end hD hC hF5 hb5 h5⟩
end Dk
