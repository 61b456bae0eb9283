/- The operations of the disk, walked; their conditions stand in each statement. -/
import Derived.Test.YtiikdbnblacbhaaGreatDoorDa
import Derived.StillTailTactics
import Derived.Laws.AppendOwn
import Derived.Deep.RegionHeld3
import Derived.Deep.RegionLaw
import Derived.Deep.AppendLies
import Derived.Test.YtiikdbnblacbhaaGreatDoorShelfc
set_option linter.unusedVariables false
set_option linter.unusedSimpArgs false
set_option linter.unusedSectionVars false
namespace Dk
open Go Go.Proofs Go.RowKit Go.Maps

/-- An operation: Write (1), Move (2), Remove (3). -/
structure Op3 where
  k : Int
  f : ByteArray
  b : ByteArray
def Op3.cells (o : Op3) : List Value := [.int .i64 o.k, .string o.f, .string o.b]
abbrev opV (o : Op3) : Value := .agg #[.int .i64 o.k, .string o.f, .string o.b]
def cellsO (l : List Op3) : List Value := l.flatMap Op3.cells
theorem cellsO_length (l : List Op3) : (cellsO l).length = l.length * 3 := by
  induction l with
  | nil => rfl
  | cons x l ih => simp only [cellsO, List.flatMap_cons, List.length_append, List.length_cons] at ih ⊢; rw [ih]; simp [Op3.cells]; omega

/-- The blocks that are a disk's. -/
def DC.fp (c : DC) (d : Nat) (k : Nat) : Prop := k = d ∨ k = c.F ∨ k = c.S ∨ c.since.ownBlock = some k
structure IsDisk (d : Nat) (c : DC) (F S : DataW Unit) (ops : List Op3) (w : World) : Prop where
  at_ : c.At d w
  files : Files w c.F (Maps.size F) F
  sure : Files w c.S (Maps.size S) S
  ne : c.F ≠ c.S
  row : w.ownsRow 0 114 3 c.since ops.length (cellsO ops)

theorem Files.blk {w : World} {b n : Nat} {D : DataW Unit} (h : Files w b n D) : ∃ es cl, w.heap[b]? = some (.map es cl) := by
  obtain ⟨es, cl, hb, _⟩ := h; exact ⟨es, cl, hb⟩
theorem row_blk {w : World} {v : Value} {n : Nat} {xs : List Value} (h : w.ownsRow 0 114 3 v n xs) {g : Nat} (hg : v.ownBlock = some g) : ∃ cs fz, w.heap[g]? = some (.cells cs 114 fz) := by
  unfold World.ownsRow at h
  rcases h.2 with ⟨rfl, _⟩ | ⟨a, b, c, rfl, _, h2, _⟩
  · cases hg
  · simp only [Value.ownBlock, Option.some.injEq] at hg; subst hg
    exact ⟨_, _, h2⟩
theorem row_kp {w w' : World} {v : Value} {n : Nat} {xs : List Value} {S : Nat → Prop} (h : w.ownsRow 0 114 3 v n xs) (k : Kp S w w') (hg : ∀ g, v.ownBlock = some g → ¬ S g) : w'.ownsRow 0 114 3 v n xs := by
  unfold World.ownsRow at h ⊢
  refine ⟨h.1, h.2.imp id ?_⟩
  rintro ⟨g, cap, cur, rfl, h0, hb, r⟩
  exact ⟨g, cap, cur, rfl, h0, (k.block g (Array.getElem?_eq_some_iff.1 hb).1 (hg g rfl)).trans hb, r⟩
theorem row_lt {w : World} {v : Value} {n : Nat} {xs : List Value} (h : w.ownsRow 0 114 3 v n xs) {g : Nat} (hg : v.ownBlock = some g) : g < w.heap.size := by
  obtain ⟨cs, fz, hb⟩ := row_blk h hg
  exact (Array.getElem?_eq_some_iff.1 hb).1
theorem frozen_alloc {w : World} {d j : Nat} (hd : d < w.heap.size) (h : w.frozen? ⟨d, j, none⟩ = false) (o : Obj) : (w.alloc o).frozen? ⟨d, j, none⟩ = false := by
  rw [← h]
  unfold World.frozen?
  rw [Deep.blk_alloc_lt _ _ _ hd]
theorem cell_alloc {w : World} {d j : Nat} {v : Value} (hd : d < w.heap.size) (h : w.cell? ⟨d, j, none⟩ = some v) (o : Obj) : (w.alloc o).cell? ⟨d, j, none⟩ = some v := by
  rw [← h]
  unfold World.cell?
  rw [Deep.blk_alloc_lt _ _ _ hd]
theorem infoOp : (Tryz.prog.info? 114).map (fun i => (i.zero, i.size, i.bytes)) = some (some (.agg #[.int .i64 0, .string ⟨#[]⟩, .string ⟨#[]⟩]), 3, 40) := by kernel_rfl
/-- The box of an operation, read whole. -/
theorem load_op {w : World} {g : Nat} {x y z : Value} (h : w.heap[g]? = some (.cells #[x, y, z] 114 (0, 0))) : (loadVar 114 ⟨g, 0, none⟩).run Tryz.prog w = .ok (.agg #[x, y, z]) w :=
  run_loadVar_row w g _ _ _ _ _ h Tryz.underlying114 rfl (by kernel_rfl)

theorem box_cells {w : World} {g : Nat} {x y z : Value} {T : TypeId} (h : w.heap[g]? = some (.cells #[x, y, z] T (0, 0))) : w.cell? ⟨g, 0, none⟩ = some x ∧ w.cell? ⟨g, 1, none⟩ = some y ∧ w.cell? ⟨g, 2, none⟩ = some z := by
  refine ⟨?_, ?_, ?_⟩ <;> (rw [Lib.cell_of_heap h]; rfl)

theorem IsDisk.files_ne {d : Nat} {c : DC} {F S : DataW Unit} {ops : List Op3} {w : World} (h : IsDisk d c F S ops w) : c.F ≠ d := by
  obtain ⟨es, cl, hb⟩ := h.files.blk
  intro e
  have := h.at_
  unfold DC.At at this
  rw [← e, hb] at this
  cases this
theorem IsDisk.sure_ne {d : Nat} {c : DC} {F S : DataW Unit} {ops : List Op3} {w : World} (h : IsDisk d c F S ops w) : c.S ≠ d := by
  obtain ⟨es, cl, hb⟩ := h.sure.blk
  intro e
  have := h.at_
  unfold DC.At at this
  rw [← e, hb] at this
  cases this
theorem IsDisk.row_ne {d : Nat} {c : DC} {F S : DataW Unit} {ops : List Op3} {w : World} (h : IsDisk d c F S ops w) {g : Nat} (hg : c.since.ownBlock = some g) : g ≠ d ∧ g ≠ c.F ∧ g ≠ c.S := by
  obtain ⟨cs, fz, hb⟩ := row_blk h.row hg
  refine ⟨fun e => ?_, fun e => ?_, fun e => ?_⟩
  · have := h.at_
    unfold DC.At at this
    rw [← e, hb] at this
    simp at this
  · obtain ⟨es, cl, hm⟩ := h.files.blk
    rw [← e, hb] at hm
    cases hm
  · obtain ⟨es, cl, hm⟩ := h.sure.blk
    rw [← e, hb] at hm
    cases hm

set_option maxRecDepth 100000 in
set_option maxHeartbeats 1000000 in
theorem operates_down (d : Nat) (c : DC) (o : Op3) (w : World) (h : c.At d w) (hd : c.down = true) :
    Calls Tryz.prog 65 #[.pointer (some ⟨d, 0, none⟩), opV o] w fun e w' => e = .returned (.int .i64 6) ∧ Below w.heap.size w w' := by
  have h1 : c.At d (w.alloc (.cells #[.int .i64 o.k, .string o.f, .string o.b] 114)) := (Deep.blk_alloc_lt _ _ _ h.lt).trans h
  go_enter Tryz.func65, Tryz.ntmps65
  go_wp2_with (first
    | (go_at_call 35; refine (down_any c d _ h1).mono ?_; rw [hd]; rintro e w' ⟨rfl, rfl⟩)
    | fail)
  go_ret
  exact ⟨rfl, (Below.refl _ _).alloc (Nat.le_refl _) _⟩

set_option maxRecDepth 100000 in
set_option maxHeartbeats 1000000 in
theorem operates_err (d : Nat) (c : DC) (o : Op3) (E : Int) (F : DataW Unit) (w : World) (h : c.At d w) (hd : c.down = false) (hF : Files w c.F (Maps.size F) F) (hE : E ≠ 0)
    (hc : ∀ w, Files w c.F (Maps.size F) F → Calls Tryz.prog 60 #[.map (some c.F), opV o] w fun e w' => e = .returned (.int .i64 E) ∧ Below w.heap.size w w') :
    Calls Tryz.prog 65 #[.pointer (some ⟨d, 0, none⟩), opV o] w fun e w' => e = .returned (.int .i64 E) ∧ Below w.heap.size w w' := by
  have hb0 := Deep.blk_alloc_new w (.cells #[.int .i64 o.k, .string o.f, .string o.b] 114)
  have h1 : c.At d (w.alloc (.cells #[.int .i64 o.k, .string o.f, .string o.b] 114)) := (Deep.blk_alloc_lt _ _ _ h.lt).trans h
  have hF1 : Files (w.alloc (.cells #[.int .i64 o.k, .string o.f, .string o.b] 114)) c.F (Maps.size F) F := World.ownsMap.alloc hF _
  have hbl : Below w.heap.size w (w.alloc (.cells #[.int .i64 o.k, .string o.f, .string o.b] 114)) := (Below.refl _ _).alloc (Nat.le_refl _) _
  have hsz : w.heap.size < (w.alloc (.cells #[.int .i64 o.k, .string o.f, .string o.b] 114)).heap.size := by rw [Deep.nblk_alloc]; omega
  go_enter Tryz.func65, Tryz.ntmps65
  go_wp2_with (first
    | (go_at_call 35; refine (down_any c d _ h1).mono ?_; rw [hd]; rintro e w' ⟨rfl, rfl⟩)
    | fail)
  generalize w.alloc (.cells #[.int .i64 o.k, .string o.f, .string o.b] 114) = W at *
  have c0 := h1.c0
  obtain ⟨e0, e1, e2⟩ := box_cells hb0
  go_still_tail 5, (by kernel_rfl)
  clear c0 e0 e1 e2
  have hF2 : Files W.drew c.F (Maps.size F) F := hF1
  change wpList _ _ _ _ _ W.drew
  have hb2 : Below w.heap.size w W.drew := hbl.drew
  have hs2 : w.heap.size ≤ W.drew.heap.size := Nat.le_of_lt hsz
  generalize W.drew = W2 at *
  go_wp2_with (first
    | (go_at_call 60; refine (hc _ hF2).mono ?_; rintro e w' ⟨rfl, hbc⟩)
    | fail)
  go_ret
  exact ⟨rfl, hb2.trans (hbc.mono hs2)⟩

/-- A disk's cells behind the fuse. -/
def DC.burnt (c : DC) : DC := { c with fuse := if 0 < c.fuse then c.fuse - 1 else c.fuse, n := c.n + 1 }
theorem burns_ok (c : DC) (d : Nat) (w : World) (h : c.At d w) (h0 : c.fuse ≠ 0) (h1 : -9223372036854775808 ≤ c.fuse ∧ c.fuse ≤ 9223372036854775807) (hn : 0 ≤ c.n) (hn1 : c.n < 9223372036854775807) :
    Calls Tryz.prog 69 #[.pointer (some ⟨d, 0, none⟩)] w fun e w' => e = .returned (.bool true) ∧ c.burnt.At d w' ∧ Kp (· = d) w w' := by
  by_cases hp : 0 < c.fuse
  · refine (burns_some c d w h hp h1.2 hn hn1).mono ?_
    rintro e w' ⟨rfl, rfl⟩
    refine ⟨rfl, ?_, Kp.setCell (S := (· = d)) (Kp.setCell (S := (· = d)) (Kp.refl _ w) (p := ⟨d, 4, none⟩) (fun _ => rfl) _) (p := ⟨d, 3, none⟩) (fun _ => rfl) _⟩
    have := (h.set4 (c.fuse - 1)).set3 (c.n + 1)
    unfold DC.burnt
    rw [if_pos hp]
    exact this
  · refine (burns_none c d w h (by omega) h1.1 hn hn1).mono ?_
    rintro e w' ⟨rfl, rfl⟩
    refine ⟨rfl, ?_, Kp.setCell (S := (· = d)) (Kp.refl _ w) (p := ⟨d, 3, none⟩) (fun _ => rfl) _⟩
    have := h.set3 (c.n + 1)
    unfold DC.burnt
    rw [if_neg hp]
    exact this

theorem DC.At.of_block {c : DC} {d : Nat} {w w' : World} (h : c.At d w) (e : w'.heap[d]? = w.heap[d]?) : c.At d w' := e.trans h

set_option maxRecDepth 100000 in
set_option maxHeartbeats 1000000 in
theorem operates_fuse (d : Nat) (c : DC) (o : Op3) (F : DataW Unit) (w : World) (h : c.At d w) (hd : c.down = false) (hf : c.fuse = 0) (hF : Files w c.F (Maps.size F) F)
    (hc : ∀ w, Files w c.F (Maps.size F) F → Calls Tryz.prog 60 #[.map (some c.F), opV o] w fun e w' => e = .returned (.int .i64 0) ∧ Below w.heap.size w w') :
    Calls Tryz.prog 65 #[.pointer (some ⟨d, 0, none⟩), opV o] w fun e w' => e = .returned (.int .i64 6) ∧ DC.At { c with down := true } d w' ∧ Kp (· = d) w w' := by
  have hb0 := Deep.blk_alloc_new w (.cells #[.int .i64 o.k, .string o.f, .string o.b] 114)
  have h1 : c.At d (w.alloc (.cells #[.int .i64 o.k, .string o.f, .string o.b] 114)) := (Deep.blk_alloc_lt _ _ _ h.lt).trans h
  have hF1 : Files (w.alloc (.cells #[.int .i64 o.k, .string o.f, .string o.b] 114)) c.F (Maps.size F) F := World.ownsMap.alloc hF _
  have hbl : Below w.heap.size w (w.alloc (.cells #[.int .i64 o.k, .string o.f, .string o.b] 114)) := (Below.refl _ _).alloc (Nat.le_refl _) _
  have hsz : w.heap.size < (w.alloc (.cells #[.int .i64 o.k, .string o.f, .string o.b] 114)).heap.size := by rw [Deep.nblk_alloc]; omega
  have hdl := h.lt
  go_enter Tryz.func65, Tryz.ntmps65
  go_wp2_with (first
    | (go_at_call 35; refine (down_any c d _ h1).mono ?_; rw [hd]; rintro e w' ⟨rfl, rfl⟩)
    | fail)
  generalize w.alloc (.cells #[.int .i64 o.k, .string o.f, .string o.b] 114) = W at *
  have c0 := h1.c0
  obtain ⟨e0, e1, e2⟩ := box_cells hb0
  go_still_tail 5, (by kernel_rfl)
  clear c0 e0 e1 e2
  have hF2 : Files W.drew c.F (Maps.size F) F := hF1
  have h2 : c.At d W.drew := h1
  change wpList _ _ _ _ _ W.drew
  have hb2 : Below w.heap.size w W.drew := hbl.drew
  have hs2 : w.heap.size < W.drew.heap.size := hsz
  generalize W.drew = W2 at *
  go_wp2_with (first
    | (go_at_call 60; refine (hc _ hF2).mono ?_; rintro e w3 ⟨rfl, hbc⟩; have h3 : c.At d w3 := h2.of_block (hbc.block d (by omega)))
    | (go_at_call 69; refine (burns_down c d _ h3 hf).mono ?_; rintro e w4 ⟨rfl, rfl⟩)
    | fail)
  go_ret
  exact ⟨rfl, h3.set5 true, Kp.setCell (S := (· = d)) (Kp.of_below (hb2.trans (hbc.mono (by omega)))) (p := ⟨d, 5, none⟩) (fun _ => rfl) _⟩

theorem Kp.of_grown_alloc {w w' : World} {o : Obj} {row : Option Nat} (h : (w.alloc o).drew.grownBy w' row) : Kp (fun k => row = some k) w w' :=
  ⟨h.os, h.tape, h.output, by have := h.size; simp at this; omega, fun k hk hn => by
    rw [h.block k (by simp; omega) (fun e => hn e.symm)]
    exact Deep.blk_alloc_lt w o k hk⟩
theorem DC.At.set2 {c : DC} {d : Nat} {w : World} (h : c.At d w) (v : Value) : DC.At { c with since := v } d (w.setCell ⟨d, 2, none⟩ v) := heap_setCell h 2 _
theorem Files.set_d {w : World} {b n : Nat} {D : DataW Unit} (h : Files w b n D) {d : Nat} (hb : b ≠ d) (j : Nat) (v : Value) : Files (w.setCell ⟨d, j, none⟩ v) b n D :=
  h.kp (Kp.setCell (S := (· = d)) (Kp.refl _ _) (p := ⟨d, j, none⟩) (fun _ => rfl) v) hb
theorem Files.blk_ne {w : World} {b n : Nat} {D : DataW Unit} (h : Files w b n D) {c : DC} {d : Nat} (hd : c.At d w) : b ≠ d := by
  obtain ⟨es, cl, hb⟩ := h.blk
  intro e
  unfold DC.At at hd
  rw [← e, hb] at hd
  cases hd

theorem op_end {d : Nat} {c : DC} {o : Op3} {F F' S : DataW Unit} {ops : List Op3} {n' : Nat} {w w6 w7 : World} {gg cap : Nat} (h : IsDisk d c F S ops w) (h6 : c.burnt.At d w6) (hF6 : Files w6 c.F n' F') (hk8 : Kp (fun k => k = d ∨ k = c.F) w w6)
    (hown1 : w7.ownsRow 0 114 3 (.slice (some ⟨gg, 0, none⟩) (ops.length + 1) cap) (ops.length + 1) (cellsO ops ++ [.int .i64 o.k, .string o.f, .string o.b])) (hgk : Kp (fun k => c.since.ownBlock = some k) w6 w7) (hat : c.since.ownBlock = some gg ∨ gg = w6.heap.size + 1) :
    ∃ v, IsDisk d { c.burnt with since := v } F' S (ops ++ [o]) (w7.setCell ⟨d, 2, none⟩ (.slice (some ⟨gg, 0, none⟩) (ops.length + 1) cap)) ∧ Kp (c.fp d) w (w7.setCell ⟨d, 2, none⟩ (.slice (some ⟨gg, 0, none⟩) (ops.length + 1) cap)) ∧ ∀ g, v.ownBlock = some g → c.since.ownBlock = some g ∨ w.heap.size ≤ g := by
  have hd6 := h6.lt
  have ag : c.since.ownBlock ≠ some d := fun hg => (h.row_ne hg).1 rfl
  refine ⟨.slice (some ⟨gg, 0, none⟩) (ops.length + 1) cap, ⟨?_, ?_, ?_, h.ne, ?_⟩, ?_, ?_⟩
  · exact (h6.of_block (hgk.block d hd6 ag)).set2 _
  · have := (hF6.kp hgk (fun hg => (h.row_ne hg).2.1 rfl)).tight
    exact this.set_d (hF6.blk_ne h6) _ _
  · have := (h.sure.kp hk8 (fun hs => hs.elim h.sure_ne (fun e => h.ne e.symm)))
    exact (this.kp hgk (fun hg => (h.row_ne hg).2.2 rfl)).set_d h.sure_ne _ _
  · have e : cellsO (ops ++ [o]) = cellsO ops ++ [.int .i64 o.k, .string o.f, .string o.b] := by simp [cellsO, Op3.cells]
    rw [e, List.length_append, List.length_singleton]
    exact row_kp hown1 (Kp.setCell (S := (· = d)) (Kp.refl _ _) (p := ⟨d, 2, none⟩) (fun _ => rfl) _) (fun g hg e => by
      simp only [Value.ownBlock, Option.some.injEq] at hg
      subst hg; subst e
      rcases hat with h' | h'
      · exact ag h'
      · omega)
  · refine Kp.setCell (S := c.fp d) ((hk8.mono (fun k _ hk => ?_)).trans hgk (fun k _ hk => ?_)) (p := ⟨d, 2, none⟩) (fun _ => .inl rfl) _
    · rcases hk with hk | hk
      · exact .inl hk
      · exact .inr (.inl hk)
    · exact .inr (.inr (.inr hk))
  · intro g hg
    simp only [Value.ownBlock, Option.some.injEq] at hg
    subst hg
    rcases hat with h' | h'
    · exact .inl h'
    · exact .inr (by have := hk8.size; omega)

set_option maxRecDepth 100000 in
set_option maxHeartbeats 2000000 in
theorem operates_ok (d : Nat) (c : DC) (o : Op3) (F F' S : DataW Unit) (ops : List Op3) (n' : Nat) (w : World) (h : IsDisk d c F S ops w) (hd : c.down = false) (hf : c.fuse ≠ 0) (h64 : -9223372036854775808 ≤ c.fuse ∧ c.fuse ≤ 9223372036854775807) (hn : 0 ≤ c.n) (hn1 : c.n < 9223372036854775807)
    (hlen : ops.length < 1000000)
    (hc : ∀ w, Files w c.F (Maps.size F) F → Calls Tryz.prog 60 #[.map (some c.F), opV o] w fun e w' => e = .returned (.int .i64 0) ∧ Below w.heap.size w w')
    (hdo : ∀ w, Files w c.F (Maps.size F) F → Calls Tryz.prog 61 #[.map (some c.F), opV o] w fun e w' => e = .returned (.tuple #[]) ∧ Files w' c.F n' F' ∧ Kp (· = c.F) w w') :
    Calls Tryz.prog 65 #[.pointer (some ⟨d, 0, none⟩), opV o] w fun e w' => e = .returned (.int .i64 0) ∧ ∃ v, IsDisk d { c.burnt with since := v } F' S (ops ++ [o]) w' ∧ Kp (c.fp d) w w' ∧ ∀ g, v.ownBlock = some g → c.since.ownBlock = some g ∨ w.heap.size ≤ g := by
  have hb0 := Deep.blk_alloc_new w (.cells #[.int .i64 o.k, .string o.f, .string o.b] 114)
  have h1 : c.At d (w.alloc (.cells #[.int .i64 o.k, .string o.f, .string o.b] 114)) := (Deep.blk_alloc_lt _ _ _ h.at_.lt).trans h.at_
  have hF1 : Files (w.alloc (.cells #[.int .i64 o.k, .string o.f, .string o.b] 114)) c.F (Maps.size F) F := World.ownsMap.alloc h.files _
  have hbl : Below w.heap.size w (w.alloc (.cells #[.int .i64 o.k, .string o.f, .string o.b] 114)) := (Below.refl _ _).alloc (Nat.le_refl _) _
  have hsz : w.heap.size < (w.alloc (.cells #[.int .i64 o.k, .string o.f, .string o.b] 114)).heap.size := by rw [Deep.nblk_alloc]; omega
  have hdl := h.at_.lt
  have hFl := h.files.lt
  go_enter Tryz.func65, Tryz.ntmps65
  go_wp2_with (first
    | (go_at_call 35; refine (down_any c d _ h1).mono ?_; rw [hd]; rintro e w' ⟨rfl, rfl⟩)
    | fail)
  generalize w.alloc (.cells #[.int .i64 o.k, .string o.f, .string o.b] 114) = W at *
  have c0 := h1.c0
  obtain ⟨e0, e1, e2⟩ := box_cells hb0
  go_still_tail 5, (by kernel_rfl)
  clear c0 e0 e1 e2
  have hF2 : Files W.drew c.F (Maps.size F) F := hF1
  have h2 : c.At d W.drew := h1
  have hb2 : W.drew.heap[w.heap.size]? = some (.cells #[.int .i64 o.k, .string o.f, .string o.b] 114 (0, 0)) := hb0
  change wpList _ _ _ _ _ W.drew
  have hl2 : Below w.heap.size w W.drew := hbl.drew
  have hs2 : w.heap.size < W.drew.heap.size := hsz
  clear hb0 h1 hF1 hbl hsz
  generalize W.drew = W2 at *
  go_wp2_with (first
    | (go_at_call 60; refine (hc _ hF2).mono ?_; rintro e w3 ⟨rfl, hbc⟩; have h3 : c.At d w3 := h2.of_block (hbc.block d (by omega)); have hF3 : Files w3 c.F (Maps.size F) F := hF2.kp (Kp.of_below (S := fun _ => False) hbc) (fun h => h); have hb3 := (hbc.block _ hs2).trans hb2; have hl3 := hl2.trans (hbc.mono (by omega)); have hs3 := Nat.lt_of_lt_of_le hs2 hbc.size; clear hbc h2 hF2 hb2 hl2 hs2)
    | (go_at_call 69; refine (burns_ok c d _ h3 hf h64 hn hn1).mono ?_; rintro e w4 ⟨rfl, h4, hk4⟩)
    | fail)
  have hFd : c.F ≠ d := h.files_ne
  have hF4 : Files w4 c.F (Maps.size F) F := hF3.kp hk4 hFd
  have hb4 := (hk4.block _ hs3 (by show ¬ w.heap.size = d; omega)).trans hb3
  have hs4 := Nat.lt_of_lt_of_le hs3 hk4.size
  have hk5 : Kp (· = d) w w4 := (Kp.of_below hl3).trans hk4 (fun _ _ h => h)
  clear hk4 hs3 hb3 hl3 hF3 h3
  have c0 : w4.cell? ⟨d, 0, none⟩ = some (.map (some c.F)) := h4.c0
  obtain ⟨e0, e1, e2⟩ := box_cells hb4
  go_still_tail 5, (by kernel_rfl)
  clear c0 e0 e1 e2
  have h5 : c.burnt.At d w4.drew := h4
  have hF5 : Files w4.drew c.F (Maps.size F) F := hF4
  have hb5 : w4.drew.heap[w.heap.size]? = some (.cells #[.int .i64 o.k, .string o.f, .string o.b] 114 (0, 0)) := hb4
  have hk6 : Kp (· = d) w w4.drew := hk5.drew
  have hs5 : w.heap.size < w4.drew.heap.size := hs4
  change wpList _ _ _ _ _ w4.drew
  clear h4 hF4 hb4 hk5 hs4
  generalize w4.drew = w5 at *
  go_wp2_with (first
    | (go_at_call 61; refine (hdo _ hF5).mono ?_; rintro e w6 ⟨rfl, hF6, hk7⟩)
    | fail)
  have h6 : c.burnt.At d w6 := h5.of_block (hk7.block d (by omega) (fun h => hFd h.symm))
  have hb6 := (hk7.block _ hs5 (by show ¬ w.heap.size = c.F; omega)).trans hb5
  have hs6 := Nat.lt_of_lt_of_le hs5 hk7.size
  have hk8 : Kp (fun k => k = d ∨ k = c.F) w w6 := (hk6.mono (fun _ _ h => .inl h)).trans hk7 (fun _ _ h => .inr h)
  clear hk7 hk6 hs5 hb5 hF5 h5
  have hr6 : w6.ownsRow 0 114 3 c.since ops.length (cellsO ops) := row_kp h.row hk8 (fun g hg hs => by
    obtain ⟨n1, n2, n3⟩ := h.row_ne hg
    rcases hs with hs | hs
    · exact n1 hs
    · exact n2 hs)
  have ag : c.since.ownBlock ≠ some d := fun hg => (h.row_ne hg).1 rfl
  have ab : c.since.ownBlock ≠ some w.heap.size := fun hg => Nat.lt_irrefl _ (row_lt h.row hg)
  obtain ⟨i0, hi0, hz0, hz1, hz2⟩ := info_parts infoOp
  have hcl := cellsO_length ops
  have c2 : w6.cell? ⟨d, 2, none⟩ = some c.since := h6.c2
  obtain ⟨e0, e1, e2⟩ := box_cells hb6
  have f2 : w6.frozen? ⟨d, 2, none⟩ = false := h6.fz 2
  have hd6 := h6.lt
  have c6 := cell_alloc hd6 c2 (.cells #[.int .i64 o.k, .string o.f, .string o.b] 114)
  have f6 := frozen_alloc hd6 f2 (.cells #[.int .i64 o.k, .string o.f, .string o.b] 114)
  go_region_law
    ((refine step_append_lies _ (by rfl) _ _ _ (by rfl) 0 114 i0 _ 3 40 Tryz.underlying78 hi0 hz0 hz1 hz2 rfl (by omega) c.since ops.length (cellsO ops) (by rfl) ((hr6.alloc _).drew)
        ⟨w6.heap.size, 0, none⟩ 1 1 [.int .i64 o.k, .string o.f, .string o.b] (by rfl) (by rfl) (World.news_of_block (cs := #[.int .i64 o.k, .string o.f, .string o.b]) (t := 114) (fr := (0, 0)) (heap_alloc_new w6 _)) (by simp [Value.oneCell'])
        (by omega) (by unfold maxLen; omega) (by omega) (by simp) (w6.heap.size + 1) (by simp) ?_; intro gg cap w7 hown1 hgrow hat hlt; have f7 : w7.frozen? ⟨d, 2, none⟩ = false := (hgrow.frozen_far _ (by simp; omega) (Ne.symm ag)).trans f6; have c7 : w7.cell? ⟨d, 2, none⟩ = some c.since := (hgrow.cell_far _ (by simp; omega) (Ne.symm ag)).trans c6))
  all_goals
    have hgk : Kp (fun k => c.since.ownBlock = some k) w6 w7 := Kp.of_grown_alloc hgrow
    clear hgrow c7 f7 c6 f6 c2 f2 e0 e1 e2
    go_wp2
    go_ret
    exact ⟨rfl, op_end h h6 hF6 hk8 hown1 hgk hat⟩
end Dk
namespace Dk
open Go Go.Proofs Go.RowKit Go.Maps

/-- Why an operation can't be done; 0: it can. -/
def canO (o : Op3) (D : DataW Unit) : Int :=
  if o.k = 1 then (if nameB o.f = false then 1 else if Maps.has D (kl o.f) = true then 0 else if 100 ≤ (Maps.size D : Int) then 5 else 0)
  else if Maps.has D (kl o.f) = false then 4 else if o.k = 2 then (if nameB o.b = false then 1 else 0) else 0
def doesO (o : Op3) (D : DataW Unit) : DataW Unit :=
  if o.k = 1 then D.put (kl o.f) (sd o.b) else if o.k = 2 then (D.del (kl o.f)).put (kl o.b) (txt D o.f) else D.del (kl o.f)
/-- An operation as the program makes them. -/
structure Op3.Fine (o : Op3) : Prop where
  kind : o.k = 1 ∨ o.k = 2 ∨ o.k = 3
  f : o.f.size ≤ maxLen
  b : o.b.size ≤ maxLen

theorem can_all (o : Op3) (ho : o.Fine) (D : DataW Unit) (b n : Nat) (w : World) (h : Files w b n D) :
    Calls Tryz.prog 60 #[.map (some b), opV o] w fun e w' => e = .returned (.int .i64 (canO o D)) ∧ Below w.heap.size w w' := by
  obtain ⟨k, f, x⟩ := o
  obtain ⟨hk, hf, hb⟩ := ho
  simp only at hk hf hb
  rcases hk with rfl | rfl | rfl
  · by_cases hn : nameB f = false
    · have : canO ⟨1, f, x⟩ D = 1 := by simp [canO, hn]
      rw [this]; exact can_write_form f x D b n w h hf hn
    · have hn : nameB f = true := by simpa using hn
      by_cases hh : Maps.has D (kl f) = true
      · have : canO ⟨1, f, x⟩ D = 0 := by simp [canO, hn, hh]
        rw [this]; exact can_write_has f x D b n w h hf hn hh
      · have hh : Maps.has D (kl f) = false := by simpa using hh
        by_cases hz : 100 ≤ (Maps.size D : Int)
        · have : canO ⟨1, f, x⟩ D = 5 := by simp only [canO, hn, hh]; simp; omega
          rw [this]; exact can_write_full f x D b n w h hf hn hh hz
        · have : canO ⟨1, f, x⟩ D = 0 := by simp only [canO, hn, hh]; simp; omega
          rw [this]; exact can_write_new f x D b n w h hf hn hh (by omega)
  · by_cases hh : Maps.has D (kl f) = false
    · have : canO ⟨2, f, x⟩ D = 4 := by simp [canO, hh]
      rw [this]; exact can_move_none f x D b n w h hf hh
    · have hh : Maps.has D (kl f) = true := by simpa using hh
      by_cases hn : nameB x = false
      · have : canO ⟨2, f, x⟩ D = 1 := by simp [canO, hn, hh]
        rw [this]; exact can_move_form f x D b n w h hf hh hn
      · have hn : nameB x = true := by simpa using hn
        have : canO ⟨2, f, x⟩ D = 0 := by simp [canO, hn, hh]
        rw [this]; exact can_move_ok f x D b n w h hf hh hn
  · by_cases hh : Maps.has D (kl f) = false
    · have : canO ⟨3, f, x⟩ D = 4 := by simp [canO, hh]
      rw [this]; exact can_drop_none f x D b n w h hf hh
    · have hh : Maps.has D (kl f) = true := by simpa using hh
      have : canO ⟨3, f, x⟩ D = 0 := by simp [canO, hh]
      rw [this]; exact can_drop_ok f x D b n w h hf hh

theorem does_all (o : Op3) (ho : o.Fine) (D : DataW Unit) (b n : Nat) (w : World) (h : Files w b n D) (hn : n < maxLen) :
    Calls Tryz.prog 61 #[.map (some b), opV o] w fun e w' => e = .returned (.tuple #[]) ∧ Files w' b (n + 1) (doesO o D) ∧ Kp (· = b) w w' := by
  obtain ⟨k, f, x⟩ := o
  obtain ⟨hk, hf, hb⟩ := ho
  simp only at hk hf hb
  rcases hk with rfl | rfl | rfl
  · exact does_write f x D b n w h hf hb hn
  · exact does_move f x D b n w h hf hb hn
  · exact (does_drop f x D b n w h hf).mono fun e w' ⟨h1, h2, h3⟩ => ⟨h1, World.ownsMap.mono h2 (Nat.le_succ _), h3⟩

/-- A disk, told in plain words. -/
structure St where
  F : DataW Unit
  S : DataW Unit
  ops : List Op3
  n : Int
  fuse : Int
  down : Bool
structure Disk (d : Nat) (c : DC) (s : St) (w : World) : Prop where
  is : IsDisk d c s.F s.S s.ops w
  n : c.n = s.n
  fuse : c.fuse = s.fuse
  down : c.down = s.down
/-- What counts stays in bounds. -/
structure St.Fits (s : St) : Prop where
  ops : s.ops.length < 1000000
  n0 : 0 ≤ s.n
  n1 : s.n < 1000000
  fuse : -9223372036854775808 ≤ s.fuse ∧ s.fuse ≤ 9223372036854775807
  F : Maps.size s.F < 1000000
  S : Maps.size s.S < 1000000
  fine : ∀ o ∈ s.ops, o.Fine
/-- What becomes of a disk. -/
def St.op (s : St) (o : Op3) : St × Int :=
  if s.down = true then (s, 6) else if canO o s.F ≠ 0 then (s, canO o s.F) else if s.fuse = 0 then ({ s with down := true }, 6)
  else ({ s with F := doesO o s.F, ops := s.ops ++ [o], n := s.n + 1, fuse := if 0 < s.fuse then s.fuse - 1 else s.fuse }, 0)
/-- The blocks are old ones, or new. -/
def Grow (c c' : DC) (d : Nat) (w : World) : Prop := ∀ k, c'.fp d k → c.fp d k ∨ w.heap.size ≤ k
theorem Grow.refl (c : DC) (d : Nat) (w : World) : Grow c c d w := fun _ h => .inl h
/-- An operation's end. -/
def Stepped (d : Nat) (c : DC) (s' : St) (w : World) (w' : World) : Prop := ∃ c', Disk d c' s' w' ∧ Kp (c.fp d) w w' ∧ Grow c c' d w

theorem IsDisk.kp {d : Nat} {c : DC} {F S : DataW Unit} {ops : List Op3} {w w' : World} {X : Nat → Prop} (h : IsDisk d c F S ops w) (k : Kp X w w') (hX : ∀ i, c.fp d i → ¬ X i) : IsDisk d c F S ops w' where
  at_ := h.at_.of_block (k.block d h.at_.lt (hX d (.inl rfl)))
  files := h.files.kp k (hX _ (.inr (.inl rfl)))
  sure := h.sure.kp k (hX _ (.inr (.inr (.inl rfl))))
  ne := h.ne
  row := row_kp h.row k (fun g hg => hX g (.inr (.inr (.inr hg))))
theorem Disk.kp {d : Nat} {c : DC} {s : St} {w w' : World} {X : Nat → Prop} (h : Disk d c s w) (k : Kp X w w') (hX : ∀ i, c.fp d i → ¬ X i) : Disk d c s w' := ⟨h.is.kp k hX, h.n, h.fuse, h.down⟩
theorem Disk.below {d : Nat} {c : DC} {s : St} {w w' : World} (h : Disk d c s w) (k : Below w.heap.size w w') : Disk d c s w' := h.kp (Kp.of_below (S := fun _ => False) k) (fun _ _ h => h)

theorem operates_any (d : Nat) (c : DC) (s : St) (o : Op3) (w : World) (h : Disk d c s w) (ho : o.Fine) (hs : s.Fits) :
    Calls Tryz.prog 65 #[.pointer (some ⟨d, 0, none⟩), opV o] w fun e w' => e = .returned (.int .i64 (s.op o).2) ∧ Stepped d c (s.op o).1 w w' := by
  have hcan : ∀ w, Files w c.F (Maps.size s.F) s.F → Calls Tryz.prog 60 #[.map (some c.F), opV o] w fun e w' => e = .returned (.int .i64 (canO o s.F)) ∧ Below w.heap.size w w' := fun w hw => can_all o ho s.F _ _ w hw
  by_cases h1 : s.down = true
  · have e : s.op o = (s, 6) := by unfold St.op; rw [if_pos h1]
    rw [e]
    refine (operates_down d c o w h.is.at_ (h.down.trans h1)).mono fun e w' ⟨he, hb⟩ => ⟨he, c, h.below hb, Kp.of_below hb, Grow.refl _ _ _⟩
  · have h1' : s.down = false := by simpa using h1
    by_cases h2 : canO o s.F ≠ 0
    · have e : s.op o = (s, canO o s.F) := by unfold St.op; rw [if_neg h1, if_pos h2]
      rw [e]
      refine (operates_err d c o (canO o s.F) s.F w h.is.at_ (h.down.trans h1') h.is.files h2 hcan).mono fun e w' ⟨he, hb⟩ => ⟨he, c, h.below hb, Kp.of_below hb, Grow.refl _ _ _⟩
    · have h2' : canO o s.F = 0 := by omega
      rw [h2'] at hcan
      by_cases h3 : s.fuse = 0
      · have e : s.op o = ({ s with down := true }, 6) := by unfold St.op; rw [if_neg h1, if_neg h2, if_pos h3]
        rw [e]
        refine (operates_fuse d c o s.F w h.is.at_ (h.down.trans h1') (h.fuse.trans h3) h.is.files hcan).mono fun e w' ⟨he, hA, hk⟩ => ⟨he, { c with down := true }, ⟨⟨hA, ?_, ?_, h.is.ne, ?_⟩, h.n, h.fuse, rfl⟩, hk.mono (fun k _ e => .inl e), fun k hk => .inl hk⟩
        · exact h.is.files.kp hk h.is.files_ne
        · exact h.is.sure.kp hk h.is.sure_ne
        · exact row_kp h.is.row hk (fun g hg e => (h.is.row_ne hg).1 e)
      · have e : s.op o = ({ s with F := doesO o s.F, ops := s.ops ++ [o], n := s.n + 1, fuse := if 0 < s.fuse then s.fuse - 1 else s.fuse }, 0) := by unfold St.op; rw [if_neg h1, if_neg h2, if_neg h3]
        rw [e]
        refine (operates_ok d c o s.F (doesO o s.F) s.S s.ops (Maps.size s.F + 1) w h.is (h.down.trans h1') (by rw [h.fuse]; exact h3) (by rw [h.fuse]; exact hs.fuse) (by rw [h.n]; exact hs.n0) (by rw [h.n]; have := hs.n1; omega) hs.ops hcan
          (fun w hw => does_all o ho s.F _ _ w hw (by have := hs.F; unfold maxLen; omega))).mono fun e w' ⟨he, v, hI, hk, hg⟩ => ⟨he, { c.burnt with since := v }, ⟨hI, ?_, ?_, ?_⟩, hk, fun k hk => ?_⟩
        · show c.n + 1 = s.n + 1
          rw [h.n]
        · show (if 0 < c.fuse then c.fuse - 1 else c.fuse) = _
          rw [h.fuse]
        · exact h.down.trans rfl
        · rcases hk with hk | hk | hk | hk
          · exact .inl (.inl hk)
          · exact .inl (.inr (.inl hk))
          · exact .inl (.inr (.inr (.inl hk)))
          · rcases hg k hk with hk | hk
            · exact .inl (.inr (.inr (.inr hk)))
            · exact .inr hk

theorem Stepped.from_below {d : Nat} {c : DC} {s' : St} {w w1 w' : World} (hb : Below w.heap.size w w1) (h : Stepped d c s' w1 w') : Stepped d c s' w w' := by
  obtain ⟨c', hd, hk, hg⟩ := h
  exact ⟨c', hd, (Kp.of_below hb).trans hk (fun _ _ h => h), fun k hk => (hg k hk).imp id (fun h => Nat.le_trans hb.size h)⟩

set_option maxRecDepth 100000 in
theorem write_any (d : Nat) (c : DC) (s : St) (f b : ByteArray) (w : World) (h : Disk d c s w) (hf : f.size ≤ maxLen) (hb : b.size ≤ maxLen) (hs : s.Fits) :
    Calls Tryz.prog 21 #[.pointer (some ⟨d, 0, none⟩), .string f, .string b] w fun e w' => e = .returned (.int .i64 (s.op ⟨1, f, b⟩).2) ∧ Stepped d c (s.op ⟨1, f, b⟩).1 w w' := by
  have hc := operates_any d c s ⟨1, f, b⟩ w h ⟨.inl rfl, hf, hb⟩ hs
  generalize s.op ⟨1, f, b⟩ = r at *
  go_enter Tryz.func21, Tryz.ntmps21
  go_wp2_with (first | (go_at_call 65; refine hc.mono ?_; rintro e w' ⟨rfl, hst⟩) | fail)
  go_ret
  exact ⟨rfl, hst⟩
set_option maxRecDepth 100000 in
theorem move_any (d : Nat) (c : DC) (s : St) (f b : ByteArray) (w : World) (h : Disk d c s w) (hf : f.size ≤ maxLen) (hb : b.size ≤ maxLen) (hs : s.Fits) :
    Calls Tryz.prog 23 #[.pointer (some ⟨d, 0, none⟩), .string f, .string b] w fun e w' => e = .returned (.int .i64 (s.op ⟨2, f, b⟩).2) ∧ Stepped d c (s.op ⟨2, f, b⟩).1 w w' := by
  have hc := operates_any d c s ⟨2, f, b⟩ w h ⟨.inr (.inl rfl), hf, hb⟩ hs
  generalize s.op ⟨2, f, b⟩ = r at *
  go_enter Tryz.func23, Tryz.ntmps23
  go_wp2_with (first | (go_at_call 65; refine hc.mono ?_; rintro e w' ⟨rfl, hst⟩) | fail)
  go_ret
  exact ⟨rfl, hst⟩
def noB : ByteArray := ⟨#[]⟩
set_option maxRecDepth 100000 in
theorem remove_any (d : Nat) (c : DC) (s : St) (f : ByteArray) (w : World) (h : Disk d c s w) (hf : f.size ≤ maxLen) (hs : s.Fits) :
    Calls Tryz.prog 25 #[.pointer (some ⟨d, 0, none⟩), .string f] w fun e w' => e = .returned (.int .i64 (s.op ⟨3, f, noB⟩).2) ∧ Stepped d c (s.op ⟨3, f, noB⟩).1 w w' := by
  have hc := operates_any d c s ⟨3, f, noB⟩ w h ⟨.inr (.inr rfl), hf, by show (0 : Nat) ≤ maxLen; unfold maxLen; omega⟩ hs
  generalize s.op ⟨3, f, noB⟩ = r at *
  unfold noB at hc
  go_enter Tryz.func25, Tryz.ntmps25
  go_wp2_with (first | (go_at_call 65; refine hc.mono ?_; rintro e w' ⟨rfl, hst⟩) | fail)
  go_ret
  exact ⟨rfl, hst⟩
end Dk
namespace Dk
open Go Go.Proofs Go.RowKit Go.Maps

theorem clone_files (b n : Nat) (D : DataW Unit) (w : World) (h : Files w b n D) :
    Calls Tryz.prog 62 #[.map (some b)] w fun e w' => e = .returned (.map (some w.heap.size)) ∧ Files w' w.heap.size n D ∧ Below w.heap.size w w' ∧ w.heap.size < w'.heap.size :=
  (AnyW.maps_Clone_owns Tryz.cloneFiles TS (plainElem Tryz.prog TS) b n D w h).mono fun e w' ⟨h1, h2, _, h4⟩ => ⟨h1, h2, h4, World.ownsMap.lt h2⟩

theorem at_new (w : World) : DC.At ⟨w.heap.size, w.heap.size + 1, .slice none 0 0, 0, -1, false⟩ (w.heap.size + 2) (((w.alloc (.map #[] 0)).alloc (.map #[] 0)).alloc (.cells #[.map (some w.heap.size), .map (some (w.heap.size + 1)), .slice none 0 0, .int .i64 0, .int .i64 (-1), .bool false] 80)) := by
  have := Deep.blk_alloc_new ((w.alloc (.map #[] 0)).alloc (.map #[] 0)) (.cells #[.map (some w.heap.size), .map (some (w.heap.size + 1)), .slice none 0 0, .int .i64 0, .int .i64 (-1), .bool false] 80)
  rw [Deep.nblk_alloc, Deep.nblk_alloc] at this
  exact this
theorem tightF {w : World} {b n : Nat} {D : DataW Unit} (h : w.ownsMap Tryz.prog TS (plainElem Tryz.prog TS) b n D) : Files w b (Maps.size D) D := Files.tight h
theorem Disk.setFuse {d : Nat} {c : DC} {s : St} {w : World} (h : Disk d c s w) (x : Int) : Stepped d c { s with fuse := x } w (w.setCell ⟨d, 4, none⟩ (.int .i64 x)) := by
  have hk : Kp (· = d) w (w.setCell ⟨d, 4, none⟩ (.int .i64 x)) := Kp.setCell (S := (· = d)) (Kp.refl _ _) (p := ⟨d, 4, none⟩) (fun _ => rfl) _
  refine ⟨{ c with fuse := x }, ⟨⟨h.is.at_.set4 x, h.is.files.kp hk h.is.files_ne, h.is.sure.kp hk h.is.sure_ne, h.is.ne, row_kp h.is.row hk (fun g hg e => (h.is.row_ne hg).1 e)⟩, h.n, rfl, h.down⟩, hk.mono (fun _ _ e => .inl e), fun k hk => .inl hk⟩
theorem DC.At.set1 {c : DC} {d : Nat} {w : World} (h : c.At d w) (b : Nat) : DC.At { c with S := b } d (w.setCell ⟨d, 1, none⟩ (.map (some b))) := heap_setCell h 1 _
theorem DC.At.set0 {c : DC} {d : Nat} {w : World} (h : c.At d w) (b : Nat) : DC.At { c with F := b } d (w.setCell ⟨d, 0, none⟩ (.map (some b))) := heap_setCell h 0 _
theorem Disk.setDown {d : Nat} {c : DC} {s : St} {w : World} (h : Disk d c s w) (x : Bool) : Stepped d c { s with down := x } w (w.setCell ⟨d, 5, none⟩ (.bool x)) := by
  have hk : Kp (· = d) w (w.setCell ⟨d, 5, none⟩ (.bool x)) := Kp.setCell (S := (· = d)) (Kp.refl _ _) (p := ⟨d, 5, none⟩) (fun _ => rfl) _
  refine ⟨{ c with down := x }, ⟨⟨h.is.at_.set5 x, h.is.files.kp hk h.is.files_ne, h.is.sure.kp hk h.is.sure_ne, h.is.ne, row_kp h.is.row hk (fun g hg e => (h.is.row_ne hg).1 e)⟩, h.n, h.fuse, rfl⟩, hk.mono (fun _ _ e => .inl e), fun k hk => .inl hk⟩

set_option maxRecDepth 100000 in
/-- A new disk. -/
theorem new_any (w : World) : Calls Tryz.prog 10 #[] w fun e w' => ∃ d c, e = .returned (.pointer (some ⟨d, 0, none⟩)) ∧ Disk d c ⟨.map [], .map [], [], 0, -1, false⟩ w' ∧ Below w.heap.size w w' ∧ ∀ k, c.fp d k → w.heap.size ≤ k := by
  have hmm := @run_makeMap Tryz.prog
  go_enter Tryz.func10, Tryz.ntmps10
  go_wp2
  go_ret
  refine ⟨w.heap.size + 2, ⟨w.heap.size, w.heap.size + 1, .slice none 0 0, 0, -1, false⟩, by simp, ⟨⟨?_, ?_, ?_, by show w.heap.size ≠ w.heap.size + 1; omega, ?_⟩, rfl, rfl, rfl⟩, ?_, ?_⟩
  · exact at_new w
  · exact tightF (World.ownsMap.alloc (World.ownsMap.alloc (World.ownsMap_made w _ _ _) _) _)
  · have := World.ownsMap_made (H := Unit) (w.alloc (.map #[] 0)) Tryz.prog TS (plainElem Tryz.prog TS)
    rw [Deep.nblk_alloc] at this
    exact tightF (World.ownsMap.alloc this _)
  · exact ⟨rfl, .inl ⟨rfl, rfl⟩⟩
  · exact (((Below.refl _ _).alloc (Nat.le_refl _) _).alloc (by rw [Deep.nblk_alloc]; omega) _).alloc (by rw [Deep.nblk_alloc, Deep.nblk_alloc]; omega) _
  · rintro k (hk | hk | hk | hk)
    · omega
    · exact Nat.le_of_eq hk.symm
    · have : k = w.heap.size + 1 := hk; omega
    · cases hk

set_option maxRecDepth 100000 in
theorem fuse_any (d : Nat) (c : DC) (s : St) (x : Int) (w : World) (hD : Disk d c s w) :
    Calls Tryz.prog 29 #[.pointer (some ⟨d, 0, none⟩), .int .i64 x] w fun e w' => e = .returned (.tuple #[]) ∧ Stepped d c (if s.down = true then s else { s with fuse := max x (-1) }) w w' := by
  have hA := hD.is.at_
  have hdn := hD.down
  by_cases h1 : s.down = true
  · rw [if_pos h1]
    rw [h1] at hdn
    go_enter Tryz.func29, Tryz.ntmps29
    go_wp2_with (first | (go_at_call 35; refine (down_any c d _ hA).mono ?_; rw [hdn]; rintro e w' ⟨rfl, rfl⟩) | fail)
    go_end0
    exact ⟨rfl, c, hD, Kp.refl _ _, Grow.refl _ _ _⟩
  · have h1' : s.down = false := by simpa using h1
    rw [if_neg h1]
    rw [h1'] at hdn
    clear h1 h1'
    have c4 := hA.c4
    have f4 := hA.fz 4
    go_enter Tryz.func29, Tryz.ntmps29
    go_wp2_with (first | (go_at_call 35; refine (down_any c d _ hA).mono ?_; rw [hdn]; rintro e w' ⟨rfl, rfl⟩) | fail)
    all_goals
      go_end0
      first
        | (rw [Int.max_eq_left (by omega)]; exact ⟨rfl, hD.setFuse _⟩)
        | (rw [Int.max_eq_right (by omega)]; exact ⟨rfl, hD.setFuse _⟩)

set_option maxRecDepth 100000 in
theorem ops_any (d : Nat) (c : DC) (s : St) (w : World) (h : Disk d c s w) :
    Calls Tryz.prog 36 #[.pointer (some ⟨d, 0, none⟩)] w fun e w' => e = .returned (.int .i64 s.n) ∧ w' = w := by
  have c3 := h.is.at_.c3
  rw [h.n] at c3
  clear h
  go_enter Tryz.func36, Tryz.ntmps36
  go_wp2
  go_ret
  exact ⟨rfl, rfl⟩

set_option maxRecDepth 100000 in
theorem down_disk (d : Nat) (c : DC) (s : St) (w : World) (h : Disk d c s w) :
    Calls Tryz.prog 35 #[.pointer (some ⟨d, 0, none⟩)] w fun e w' => e = .returned (.bool s.down) ∧ w' = w :=
  (down_any c d w h.is.at_).mono fun e w' ⟨h1, h2⟩ => ⟨by rw [h1, h.down], h2⟩

/-- What is read. -/
def St.read (s : St) (f : ByteArray) : DataW Unit × Int :=
  if s.down = true then (.lit (.string []), 6) else if Maps.has s.F (kl f) = true then (txt s.F f, 0) else (.lit (.string []), 4)
def Reads (s : St) (f : ByteArray) (w : World) (e : Ending) (w' : World) : Prop := ∃ x : ByteArray, e = .returned (.tuple #[.string x, .int .i64 (s.read f).2]) ∧ (s.read f).1 = sd x ∧ x.size ≤ maxLen ∧ w' = w
set_option maxRecDepth 100000 in
theorem read_any (d : Nat) (c : DC) (s : St) (f : ByteArray) (w : World) (hD : Disk d c s w) (hf : f.size ≤ maxLen) :
    Calls Tryz.prog 32 #[.pointer (some ⟨d, 0, none⟩), .string f] w (Reads s f w) := by
  have hA := hD.is.at_
  have hdn := hD.down
  have c0 := hA.c0
  have hown : w.ownsMap Tryz.prog TS (plainElem Tryz.prog TS) c.F _ s.F := hD.is.files
  have hkey := keyOfS hf
  obtain ⟨v, ps, hrun, hv⟩ := hown.look_ok keyS Tryz.underlying77 (zeroS _) empS hkey
  obtain ⟨x, rfl, hx, hxs⟩ := plainElem_string_inv Tryz.underlying9 hv
  have hT : Hid (txt s.F f = sd x) := congrArg Prod.fst hx
  clear hv hx
  by_cases h1 : s.down = true
  · have e : Hid (s.read f = (.lit (.string []), 6)) := by show s.read f = _; unfold St.read; rw [if_pos h1]
    rw [h1] at hdn
    clear h1
    go_enter Tryz.func32, Tryz.ntmps32
    go_wp2_with (first | (go_at_call 35; refine (down_any c d _ hA).mono ?_; rw [hdn]; rintro e w' ⟨rfl, rfl⟩) | fail)
    go_ret2
    exact ⟨⟨#[]⟩, by rw [e.out]; rfl, by rw [e.out]; rfl, by show (0 : Nat) ≤ maxLen; unfold maxLen; omega, rfl⟩
  · have h1' : s.down = false := by simpa using h1
    rw [h1'] at hdn
    by_cases h2 : Maps.has s.F (kl f) = true
    · have e : Hid (s.read f = (sd x, 0)) := by show s.read f = _; unfold St.read; rw [if_neg h1, if_pos h2, hT.out]
      clear h1 h1'
      go_enter Tryz.func32, Tryz.ntmps32
      go_wp2_with (first | (go_at_call 35; refine (down_any c d _ hA).mono ?_; rw [hdn]; rintro e w' ⟨rfl, rfl⟩) | fail)
      go_ret2
      exact ⟨x, by rw [e.out]; rfl, by rw [e.out], hxs, rfl⟩
    · have h2' : Maps.has s.F (kl f) = false := by simpa using h2
      have e : Hid (s.read f = (.lit (.string []), 4)) := by show s.read f = _; unfold St.read; rw [if_neg h1, if_neg h2]
      clear h1 h1' h2
      go_enter Tryz.func32, Tryz.ntmps32
      go_wp2_with (first | (go_at_call 35; refine (down_any c d _ hA).mono ?_; rw [hdn]; rintro e w' ⟨rfl, rfl⟩) | fail)
      go_ret2
      exact ⟨⟨#[]⟩, by rw [e.out]; rfl, by rw [e.out]; rfl, by show (0 : Nat) ≤ maxLen; unfold maxLen; omega, rfl⟩

/-- What becomes of a disk that is synced. -/
def St.sync (s : St) : St × Int :=
  if s.down = true then (s, 6) else if s.fuse = 0 then ({ s with down := true }, 6)
  else ({ s with S := s.F, ops := [], n := s.n + 1, fuse := if 0 < s.fuse then s.fuse - 1 else s.fuse }, 0)
theorem sync_end {d : Nat} {c : DC} {s : St} {w w4 w5 : World} (hD : Disk d c s w) (hk4 : Kp (· = d) w w4) (hF4 : Files w4 c.F (Maps.size s.F) s.F) (hS5 : Files w5 w4.heap.size (Maps.size s.F) s.F) (hb5 : Below w4.heap.size w4 w5) (h5 : c.burnt.At d w5) :
    Stepped d c { s with S := s.F, ops := [], n := s.n + 1, fuse := if 0 < s.fuse then s.fuse - 1 else s.fuse } w ((w5.setCell ⟨d, 1, none⟩ (.map (some w4.heap.size))).setCell ⟨d, 2, none⟩ (.slice none 0 0)) := by
  have hk : Kp (· = d) w5 ((w5.setCell ⟨d, 1, none⟩ (.map (some w4.heap.size))).setCell ⟨d, 2, none⟩ (.slice none 0 0)) :=
    Kp.setCell (S := (· = d)) (Kp.setCell (S := (· = d)) (Kp.refl _ _) (p := ⟨d, 1, none⟩) (fun _ => rfl) _) (p := ⟨d, 2, none⟩) (fun _ => rfl) _
  have hdl := Nat.lt_of_lt_of_le hD.is.at_.lt hk4.size
  have hFl := hF4.lt
  have hkw : Kp (· = d) w ((w5.setCell ⟨d, 1, none⟩ (.map (some w4.heap.size))).setCell ⟨d, 2, none⟩ (.slice none 0 0)) := (hk4.trans (Kp.of_below (S := (· = d)) hb5) (fun _ _ h => h)).trans hk (fun _ _ h => h)
  refine ⟨{ c.burnt with S := w4.heap.size, since := .slice none 0 0 }, ⟨⟨(h5.set1 w4.heap.size).set2 _, ?_, ?_, ?_, ?_⟩, ?_, ?_, hD.down⟩, hkw.mono (fun _ _ e => .inl e), ?_⟩
  · exact (hF4.kp (Kp.of_below (S := fun _ => False) hb5) (fun h => h)).kp hk hD.is.files_ne
  · exact hS5.kp hk (by show ¬ w4.heap.size = d; omega)
  · show c.F ≠ w4.heap.size; omega
  · exact ⟨rfl, .inl ⟨rfl, rfl⟩⟩
  · show c.n + 1 = s.n + 1
    rw [hD.n]
  · show (if 0 < c.fuse then c.fuse - 1 else c.fuse) = _
    rw [hD.fuse]
  · rintro k (hk' | hk' | hk' | hk')
    · exact .inl (.inl hk')
    · exact .inl (.inr (.inl hk'))
    · right; have := hk4.size; have : k = w4.heap.size := hk'; omega
    · cases hk'

set_option maxRecDepth 100000 in
theorem sync_any (d : Nat) (c : DC) (s : St) (w : World) (hD : Disk d c s w) (hs : s.Fits) :
    Calls Tryz.prog 27 #[.pointer (some ⟨d, 0, none⟩)] w fun e w' => e = .returned (.int .i64 s.sync.2) ∧ Stepped d c s.sync.1 w w' := by
  have hA := hD.is.at_
  have hdn := hD.down
  by_cases h1 : s.down = true
  · have e : Hid (s.sync = (s, 6)) := by show s.sync = _; unfold St.sync; rw [if_pos h1]
    rw [h1] at hdn
    clear h1
    go_enter Tryz.func27, Tryz.ntmps27
    go_wp2_with (first | (go_at_call 35; refine (down_any c d _ hA).mono ?_; rw [hdn]; rintro e w' ⟨rfl, rfl⟩) | fail)
    go_ret
    rw [e.out]
    exact ⟨rfl, c, hD, Kp.refl _ _, Grow.refl _ _ _⟩
  · have h1' : s.down = false := by simpa using h1
    rw [h1'] at hdn
    by_cases h2 : s.fuse = 0
    · have e : Hid (s.sync = ({ s with down := true }, 6)) := by show s.sync = _; unfold St.sync; rw [if_neg h1, if_pos h2]
      have hb := burns_down c d w hA (hD.fuse.trans h2)
      clear h1 h1' h2
      go_enter Tryz.func27, Tryz.ntmps27
      go_wp2_with (first
        | (go_at_call 35; refine (down_any c d _ hA).mono ?_; rw [hdn]; rintro e w' ⟨rfl, rfl⟩)
        | (go_at_call 69; refine hb.mono ?_; rintro e w4 ⟨rfl, rfl⟩)
        | fail)
      go_ret
      rw [e.out]
      exact ⟨rfl, hD.setDown true⟩
    · have e : Hid (s.sync = ({ s with S := s.F, ops := [], n := s.n + 1, fuse := if 0 < s.fuse then s.fuse - 1 else s.fuse }, 0)) := by show s.sync = _; unfold St.sync; rw [if_neg h1, if_neg h2]
      have hb := burns_ok c d w hA (by rw [hD.fuse]; exact h2) (by rw [hD.fuse]; exact hs.fuse) (by rw [hD.n]; exact hs.n0) (by rw [hD.n]; have := hs.n1; omega)
      clear h1 h1' h2
      have hF := hD.is.files
      have hFd := hD.is.files_ne
      have hdl := hA.lt
      go_enter Tryz.func27, Tryz.ntmps27
      go_wp2_with (first
        | (go_at_call 35; refine (down_any c d _ hA).mono ?_; rw [hdn]; rintro e w' ⟨rfl, rfl⟩)
        | (go_at_call 69; refine hb.mono ?_; rintro e w4 ⟨rfl, h4, hk4⟩; have c0 := h4.c0; have hF4 := hF.kp hk4 hFd)
        | (go_at_call 62; refine (clone_files _ _ _ _ hF4).mono ?_; rintro e w5 ⟨rfl, hS5, hb5, hl5⟩; have h5 := h4.of_block (hb5.block d (Nat.lt_of_lt_of_le hdl hk4.size)); clear c0; have c1 := h5.c1; have f1 := h5.fz 1; have c2 := (h5.set1 w4.heap.size).c2; have f2 := (h5.set1 w4.heap.size).fz 2)
        | fail)
      go_ret
      rw [e.out]
      exact ⟨rfl, sync_end hD hk4 hF4 hS5 hb5 h5⟩
end Dk
