/- An operation that the reference disk keeps, walked; the conditions stand in each statement. -/
import Derived.Test.YtiikdbnblacbhaaGreatDoorRc
import Derived.Test.YtiikdbnblacbhaaGreatDoorRd
set_option linter.unusedVariables false
set_option linter.unusedSimpArgs false
set_option linter.unusedSectionVars false
namespace Dk
open Go Go.Proofs Go.RowKit Go.Maps

/-- A slice of operations. -/
def OL (v : Value) (l : List Op4) (w : World) : Prop := w.ownsRow 0 TO 4 v l.length (cellsP l)
/-- The reference's disk. -/
structure RDisk (d : Nat) (c : RC) (r : RS) (w : World) : Prop where
  at_ : c.At d w
  sure : FL c.sure r.sure w
  ops : OL c.ops r.ops w
  L : FL c.L r.L w
  n : c.n = r.n
  fuse : c.fuse = r.fuse
  down : c.down = r.down
/-- What a step may turn. -/
def RC.fp (c : RC) (d : Nat) (k : Nat) : Prop := k = d ∨ c.ops.ownBlock = some k
def RStepped (d : Nat) (c : RC) (r' : RS) (w w' : World) : Prop := ∃ c', RDisk d c' r' w' ∧ Kp (c.fp d) w w' ∧ ∀ k, c'.fp d k → c.fp d k ∨ w.heap.size ≤ k

theorem FL.blk {v : Value} {l : List Fl} {w : World} (h : FL v l w) {g : Nat} (hg : v.ownBlock = some g) : ∃ cs fz, w.heap[g]? = some (.cells cs TF fz) := by
  unfold FL World.ownsRow at h
  rcases h.2 with ⟨rfl, _⟩ | ⟨a, b, c, rfl, _, h2, _⟩
  · cases hg
  · simp only [Value.ownBlock, Option.some.injEq] at hg; subst hg
    exact ⟨_, _, h2⟩
theorem OL.blk {v : Value} {l : List Op4} {w : World} (h : OL v l w) {g : Nat} (hg : v.ownBlock = some g) : ∃ cs fz, w.heap[g]? = some (.cells cs TO fz) := by
  unfold OL World.ownsRow at h
  rcases h.2 with ⟨rfl, _⟩ | ⟨a, b, c, rfl, _, h2, _⟩
  · cases hg
  · simp only [Value.ownBlock, Option.some.injEq] at hg; subst hg
    exact ⟨_, _, h2⟩
theorem OL.kp {v : Value} {l : List Op4} {w w' : World} {S : Nat → Prop} (h : OL v l w) (k : Kp S w w') (hg : ∀ g, v.ownBlock = some g → ¬ S g) : OL v l w' := by
  unfold OL World.ownsRow at h ⊢
  refine ⟨h.1, h.2.imp id ?_⟩
  rintro ⟨g, cap, cur, rfl, h0, hb, r⟩
  exact ⟨g, cap, cur, rfl, h0, (k.block g (Array.getElem?_eq_some_iff.1 hb).1 (hg g rfl)).trans hb, r⟩
theorem OL.lt {v : Value} {l : List Op4} {w : World} (h : OL v l w) {g : Nat} (hg : v.ownBlock = some g) : g < w.heap.size := by
  obtain ⟨cs, fz, hb⟩ := h.blk hg
  exact (Array.getElem?_eq_some_iff.1 hb).1
theorem RC.At.of_block {c : RC} {d : Nat} {w w' : World} (h : c.At d w) (e : w'.heap[d]? = w.heap[d]?) : c.At d w' := e.trans h
theorem FL.ne_d {v : Value} {l : List Fl} {w : World} (h : FL v l w) {c : RC} {d : Nat} (hd : c.At d w) {g : Nat} (hg : v.ownBlock = some g) : ¬ g = d := by
  obtain ⟨cs, fz, hb⟩ := h.blk hg
  unfold RC.At at hd
  intro e
  rw [← e, hb] at hd
  simp at hd
  exact absurd hd.2.1 (by decide)
theorem OL.ne_d {v : Value} {l : List Op4} {w : World} (h : OL v l w) {c : RC} {d : Nat} (hd : c.At d w) {g : Nat} (hg : v.ownBlock = some g) : ¬ g = d := by
  obtain ⟨cs, fz, hb⟩ := h.blk hg
  unfold RC.At at hd
  intro e
  rw [← e, hb] at hd
  simp at hd
  exact absurd hd.2.1 (by decide)
theorem FL.ne_o {v : Value} {l : List Fl} {w : World} (h : FL v l w) {u : Value} {q : List Op4} (ho : OL u q w) {g : Nat} (hg : v.ownBlock = some g) : ¬ u.ownBlock = some g := by
  intro e
  obtain ⟨cs, fz, hb⟩ := h.blk hg
  obtain ⟨cs', fz', hb'⟩ := ho.blk e
  rw [hb'] at hb
  simp at hb
  exact absurd hb.2.1 (by decide)
theorem box4 {w : World} {g : Nat} {x y z u : Value} {T : TypeId} (h : w.heap[g]? = some (.cells #[x, y, z, u] T (0, 0))) : w.cell? ⟨g, 0, none⟩ = some x ∧ w.cell? ⟨g, 1, none⟩ = some y ∧ w.cell? ⟨g, 2, none⟩ = some z ∧ w.cell? ⟨g, 3, none⟩ = some u := by
  refine ⟨?_, ?_, ?_, ?_⟩ <;> (rw [Lib.cell_of_heap h]; rfl)
theorem cellsP_append (a b : List Op4) : cellsP (a ++ b) = cellsP a ++ cellsP b := by simp [cellsP]
theorem FL.kpd {v : Value} {l : List Fl} {w w' : World} {c : RC} {d : Nat} {u : Value} {q : List Op4} (h : FL v l w) (hd : c.At d w) (ho : OL u q w) (k : Kp (fun k => k = d ∨ u.ownBlock = some k) w w') : FL v l w' :=
  h.kp k (fun g hg hs => hs.elim (h.ne_d hd hg) (h.ne_o ho hg))
/-- An operation's end. -/
theorem do_end {d : Nat} {c : RC} {r : RS} {o : Op4} {w w6 w7 w8 w9 : World} {x y : Int} {vo vL : Value} (h : RDisk d c r w) (h6 : RC.At { c with fuse := x, n := y } d w6) (hk6 : Kp (· = d) w w6) (hx : x = burntI r.fuse) (hy : y = r.n + 1)
    (hgk : Kp (fun k => c.ops.ownBlock = some k) w6 w7) (hown : OL vo (r.ops ++ [o]) w7) (hat : ∀ g, vo.ownBlock = some g → c.ops.ownBlock = some g ∨ w6.heap.size ≤ g)
    (h8 : w8 = w7.setCell ⟨d, 1, none⟩ vo) (hB : Below w8.heap.size w8 w9) (hL : FL vL (o.done r.L) w9) :
    RStepped d c { r with L := o.done r.L, ops := r.ops ++ [o], n := r.n + 1, fuse := burntI r.fuse } w (w9.setCell ⟨d, 2, none⟩ vL) := by
  have ho6 : OL c.ops r.ops w6 := h.ops.kp hk6 (fun g hg => h.ops.ne_d h.at_ hg)
  have h7 : RC.At { c with fuse := x, n := y } d w7 := h6.of_block (hgk.block d h6.lt (fun hg => ho6.ne_d h6 hg rfl))
  have hd8 := h7.set1 vo
  rw [← h8] at hd8
  have hd9 := hd8.of_block (hB.block d hd8.lt)
  have hd10 := hd9.set2 vL
  have hk7 : Kp (c.fp d) w w7 := (hk6.mono (fun _ _ e => .inl e)).trans hgk (fun _ _ e => .inr e)
  have hk8 : Kp (c.fp d) w w8 := by rw [h8]; exact Kp.setCell hk7 (p := ⟨d, 1, none⟩) (fun _ => .inl rfl) _
  have hk9 : Kp (c.fp d) w w9 := hk8.trans (Kp.of_below (S := fun _ => False) hB) (fun _ _ e => e.elim)
  have hk10 : Kp (c.fp d) w (w9.setCell ⟨d, 2, none⟩ vL) := Kp.setCell hk9 (p := ⟨d, 2, none⟩) (fun _ => .inl rfl) _
  have hk79 : Kp (· = d) w7 (w9.setCell ⟨d, 2, none⟩ vL) := by
    refine Kp.setCell (S := (· = d)) ?_ (p := ⟨d, 2, none⟩) (fun _ => rfl) _
    refine Kp.trans (S' := fun _ => False) ?_ (Kp.of_below hB) (fun _ _ e => e.elim)
    rw [h8]
    exact Kp.setCell (S := (· = d)) (Kp.refl _ _) (p := ⟨d, 1, none⟩) (fun _ => rfl) _
  refine ⟨{ c with fuse := x, n := y, ops := vo, L := vL }, ⟨hd10, h.sure.kpd h.at_ h.ops hk10, hown.kp hk79 (fun g hg => hown.ne_d h7 hg), hL.kp (Kp.setCell (S := (· = d)) (Kp.refl _ _) (p := ⟨d, 2, none⟩) (fun _ => rfl) _) (fun g hg => hL.ne_d hd9 hg), hy, hx, h.down⟩, hk10, ?_⟩
  rintro k (hk | hk)
  · exact .inl (.inl hk)
  · rcases hat k hk with hk | hk
    · exact .inl (.inr hk)
    · exact .inr (Nat.le_trans hk6.size hk)

set_option maxRecDepth 100000 in
set_option maxHeartbeats 4000000 in
theorem do_op_some (d : Nat) (c : RC) (r : RS) (o : Op4) (w : World) (h : RDisk d c r w) (hk : o.k = 1 ∨ o.k = 2 ∨ o.k = 3) (h0 : 0 < c.fuse) (hf : -9223372036854775808 ≤ c.fuse ∧ c.fuse ≤ 9223372036854775807) (hn : 0 ≤ c.n) (hn1 : c.n < 9223372036854775807) (hlen : r.ops.length < 1000000) (hl : r.L.length ≤ 100) :
    Calls Tryz.prog 68 #[.pointer (some ⟨d, 0, none⟩), opR o.k o.n o.t o.b] w fun e w' => e = .returned (.int .i64 0) ∧ RStepped d c { r with L := o.done r.L, ops := r.ops ++ [o], n := r.n + 1, fuse := burntI r.fuse } w w' := by
  have h1 : c.At d (w.alloc (.cells #[.int .i64 o.k, .string o.n, .string o.t, .string o.b] TO)) := (Deep.blk_alloc_lt _ _ _ h.at_.lt).trans h.at_
  have hb0 := Deep.blk_alloc_new w (.cells #[.int .i64 o.k, .string o.n, .string o.t, .string o.b] TO)
  have e0 : (w.alloc (.cells #[.int .i64 o.k, .string o.n, .string o.t, .string o.b] TO)).cell? ⟨w.heap.size, 0, none⟩ = some (.int .i64 o.k) := by rw [Lib.cell_of_heap hb0]; rfl
  have hne : ¬ w.heap.size = d := by have := h.at_.lt; omega
  have hne' : ¬ d = w.heap.size := by have := h.at_.lt; omega
  have hH := Lib.hid h
  have hx : Hid (c.fuse - 1 = burntI r.fuse) := Lib.hid (by rw [h.fuse] at h0 ⊢; unfold burntI; rw [if_pos h0])
  have hy : Hid (c.n + 1 = r.n + 1) := Lib.hid (by rw [h.n])
  have c3 := h1.c3
  have f3 := h1.fz 3
  have h2 := h1.set3 (c.fuse - 1)
  have c4 := h2.c4
  have f4 := h2.fz 4
  have h3 := h2.set4 (c.n + 1)
  have k1 : ¬ c.fuse = 0 := by omega
  have k2 : (c.fuse == 0) = false := by simpa using k1
  have k3 : (o.k == 0) = false := by have : ¬ o.k = 0 := by omega
                                     simpa using this
  have eB : (((w.alloc (.cells #[.int .i64 o.k, .string o.n, .string o.t, .string o.b] TO)).setCell ⟨d, 3, none⟩ (.int .i64 (c.fuse - 1))).setCell ⟨d, 4, none⟩ (.int .i64 (c.n + 1))).cell? ⟨w.heap.size, 0, none⟩ = some (.int .i64 o.k) := by
    rw [World.cell?_setCell_far _ _ _ _ (by simp [hne']), World.cell?_setCell_far _ _ _ _ (by simp [hne'])]; exact e0
  have hbW : (((w.alloc (.cells #[.int .i64 o.k, .string o.n, .string o.t, .string o.b] TO)).setCell ⟨d, 3, none⟩ (.int .i64 (c.fuse - 1))).setCell ⟨d, 4, none⟩ (.int .i64 (c.n + 1))).heap[w.heap.size]? = some (.cells #[.int .i64 o.k, .string o.n, .string o.t, .string o.b] TO (0, 0)) := by
    rw [Deep.blk_setCell_other _ _ _ _ (by simp [hne]), Deep.blk_setCell_other _ _ _ _ (by simp [hne])]; exact hb0
  have hkW : Kp (· = d) w (((w.alloc (.cells #[.int .i64 o.k, .string o.n, .string o.t, .string o.b] TO)).setCell ⟨d, 3, none⟩ (.int .i64 (c.fuse - 1))).setCell ⟨d, 4, none⟩ (.int .i64 (c.n + 1))) := Kp.setCell (S := (· = d)) (Kp.setCell (S := (· = d)) (Kp.of_below ((Below.refl _ _).alloc (Nat.le_refl _) _)) (p := ⟨d, 3, none⟩) (fun _ => rfl) _) (p := ⟨d, 4, none⟩) (fun _ => rfl) _
  have hHw : RC.At { c with fuse := c.fuse - 1, n := c.n + 1 } d (((w.alloc (.cells #[.int .i64 o.k, .string o.n, .string o.t, .string o.b] TO)).setCell ⟨d, 3, none⟩ (.int .i64 (c.fuse - 1))).setCell ⟨d, 4, none⟩ (.int .i64 (c.n + 1))) := h3
  try simp only at c4
  clear e0 h h1 hb0 h3 h2
  obtain ⟨xf, exf⟩ : ∃ z, z = c.fuse - 1 := ⟨_, rfl⟩
  obtain ⟨xn, exn⟩ : ∃ z, z = c.n + 1 := ⟨_, rfl⟩
  go_enter Tryz.func68, Tryz.ntmps68
  go_wp2
  generalize (((w.alloc (.cells #[.int .i64 o.k, .string o.n, .string o.t, .string o.b] TO)).setCell ⟨d, 3, none⟩ (.int .i64 (c.fuse - 1))).setCell ⟨d, 4, none⟩ (.int .i64 (c.n + 1))) = w6 at *
  have hr6 : OL c.ops r.ops w6 := hH.out.ops.kp hkW (fun g hg => hH.out.ops.ne_d hH.out.at_ hg)
  have ag : c.ops.ownBlock ≠ some d := fun hg => hH.out.ops.ne_d hH.out.at_ hg rfl
  have ab : c.ops.ownBlock ≠ some w.heap.size := fun hg => Nat.lt_irrefl _ (hH.out.ops.lt hg)
  obtain ⟨i0, hi0, hz0, hz1, hz2⟩ := info_parts infoP
  have hcl := cellsP_length r.ops
  have c1 : w6.cell? ⟨d, 1, none⟩ = some c.ops := hHw.c1
  obtain ⟨b0, b1, b2, b3⟩ := box4 hbW
  have f1 : w6.frozen? ⟨d, 1, none⟩ = false := hHw.fz 1
  have hd6 := hHw.lt
  have hs6 := (Array.getElem?_eq_some_iff.1 hbW).1
  have c1a := cell_alloc hd6 c1 (.cells #[.int .i64 o.k, .string o.n, .string o.t, .string o.b] TO)
  have f1a := frozen_alloc hd6 f1 (.cells #[.int .i64 o.k, .string o.n, .string o.t, .string o.b] TO)
  clear eB c3 c4 f4 f3
  have hr6' : w6.ownsRow 0 TO 4 c.ops r.ops.length (cellsP r.ops) := hr6
  go_region_law
    ((refine step_append_lies _ (by rfl) _ _ _ (by rfl) 0 TO i0 _ 4 56 Tryz.underlying120 hi0 hz0 hz1 hz2 rfl (by omega) c.ops r.ops.length (cellsP r.ops) (by rfl) ((hr6'.alloc _).drew)
        ⟨w6.heap.size, 0, none⟩ 1 1 [.int .i64 o.k, .string o.n, .string o.t, .string o.b] (by rfl) (by rfl) (World.news_of_block (cs := #[.int .i64 o.k, .string o.n, .string o.t, .string o.b]) (t := TO) (fr := (0, 0)) (heap_alloc_new w6 _)) (by simp [Value.oneCell'])
        (by omega) (by unfold maxLen; omega) (by omega) (by simp) (w6.heap.size + 1) (by simp) ?_; intro gg cap w7 hown1 hgrow hat hlt; have f7 : w7.frozen? ⟨d, 1, none⟩ = false := (hgrow.frozen_far _ (by simp; omega) (Ne.symm ag)).trans f1a; have c7 : w7.cell? ⟨d, 1, none⟩ = some c.ops := (hgrow.cell_far _ (by simp; omega) (Ne.symm ag)).trans c1a))
  all_goals
    have hgk : Kp (fun k => c.ops.ownBlock = some k) w6 w7 := Kp.of_grown_alloc hgrow
    clear hgrow c7 f7 c1a f1a c1 f1 b0 b1 b2 b3
    have h7 := hHw.of_block (hgk.block d hd6 ag)
    have hb7 := (hgk.block _ hs6 ab).trans hbW
    have h8 := h7.set1 (.slice (some ⟨gg, 0, none⟩) (r.ops.length + 1) cap)
    have hb8 := (Deep.blk_setCell_other w7 ⟨d, 1, none⟩ (.slice (some ⟨gg, 0, none⟩) (r.ops.length + 1) cap) w.heap.size (by simp [hne])).trans hb7
    have hOL : OL (.slice (some ⟨gg, 0, none⟩) (r.ops.length + 1) cap) (r.ops ++ [o]) w7 := by
      unfold OL
      rw [cellsP_append]
      simpa [cellsP, Op4.cells] using hown1
    have hat' : ∀ g, (Value.slice (some ⟨gg, 0, none⟩) (r.ops.length + 1) cap).ownBlock = some g → c.ops.ownBlock = some g ∨ w6.heap.size ≤ g := by
      intro g hg
      simp only [Value.ownBlock, Option.some.injEq] at hg
      subst hg
      rcases hat with h | h
      · exact .inl h
      · exact .inr (by omega)
    have hL6 : FL c.L r.L w6 := hH.out.L.kp hkW (fun g hg => hH.out.L.ne_d hH.out.at_ hg)
    have hL7 : FL c.L r.L w7 := hL6.kp hgk (fun g hg => hL6.ne_o hr6 hg)
    have hL8 : FL c.L r.L (w7.setCell ⟨d, 1, none⟩ (.slice (some ⟨gg, 0, none⟩) (r.ops.length + 1) cap)) := hL7.kp (Kp.setCell (S := (· = d)) (Kp.refl _ _) (p := ⟨d, 1, none⟩) (fun _ => rfl) _) (fun g hg => hL7.ne_d h7 hg)
    obtain ⟨w8, hw8⟩ : ∃ w8, w8 = w7.setCell ⟨d, 1, none⟩ (.slice (some ⟨gg, 0, none⟩) (r.ops.length + 1) cap) := ⟨_, rfl⟩
    have HW8 := Lib.hid hw8
    rw [← hw8] at h8 hb8 hL8
    go_wp2
    rw [← hw8]
    clear hw8
    obtain ⟨aL, capL, eL, _⟩ := hL8.form
    have c2 := h8.c2
    simp only at c2
    rw [eL] at hL8 c2
    obtain ⟨b0, b1, b2, b3⟩ := box4 hb8
    have hL9 : FL (.slice aL r.L.length capL) r.L w8.drew := hL8
    have h9 : RC.At { c with fuse := c.fuse - 1, n := c.n + 1, ops := .slice (some ⟨gg, 0, none⟩) (r.ops.length + 1) cap } d w8.drew := h8
    clear hL6 hL7 hL8 h7 hb7 hb8 eL h8
    go_region_law
      ((go_simp; go_at_call 70; refine (done_any _ r.L o.k o.n o.t o.b _ hL9 hl hk).mono ?_; rintro e w9 ⟨vL, rfl, hF9, hB9⟩; obtain ⟨aN, capN, rfl, _⟩ := hF9.form; have h10 := h9.of_block (hB9.block d h9.lt); have c10 := h10.c2; have f10 := h10.fz 2))
    all_goals
      go_wp2
      go_ret
      exact ⟨rfl, do_end hH.out hHw hkW hx.out hy.out hgk hOL hat' HW8.out ⟨hB9.os, hB9.tape, hB9.output, hB9.size, hB9.block⟩ hF9⟩

set_option maxRecDepth 100000 in
set_option maxHeartbeats 4000000 in
theorem do_op_none (d : Nat) (c : RC) (r : RS) (o : Op4) (w : World) (h : RDisk d c r w) (hk : o.k = 1 ∨ o.k = 2 ∨ o.k = 3) (h0 : c.fuse < 0) (hf : -9223372036854775808 ≤ c.fuse ∧ c.fuse ≤ 9223372036854775807) (hn : 0 ≤ c.n) (hn1 : c.n < 9223372036854775807) (hlen : r.ops.length < 1000000) (hl : r.L.length ≤ 100) :
    Calls Tryz.prog 68 #[.pointer (some ⟨d, 0, none⟩), opR o.k o.n o.t o.b] w fun e w' => e = .returned (.int .i64 0) ∧ RStepped d c { r with L := o.done r.L, ops := r.ops ++ [o], n := r.n + 1, fuse := burntI r.fuse } w w' := by
  have h1 : c.At d (w.alloc (.cells #[.int .i64 o.k, .string o.n, .string o.t, .string o.b] TO)) := (Deep.blk_alloc_lt _ _ _ h.at_.lt).trans h.at_
  have hb0 := Deep.blk_alloc_new w (.cells #[.int .i64 o.k, .string o.n, .string o.t, .string o.b] TO)
  have e0 : (w.alloc (.cells #[.int .i64 o.k, .string o.n, .string o.t, .string o.b] TO)).cell? ⟨w.heap.size, 0, none⟩ = some (.int .i64 o.k) := by rw [Lib.cell_of_heap hb0]; rfl
  have hne : ¬ w.heap.size = d := by have := h.at_.lt; omega
  have hne' : ¬ d = w.heap.size := by have := h.at_.lt; omega
  have hH := Lib.hid h
  have hx : Hid (c.fuse = burntI r.fuse) := Lib.hid (by rw [h.fuse] at h0 ⊢; unfold burntI; rw [if_neg (by omega)])
  have hy : Hid (c.n + 1 = r.n + 1) := Lib.hid (by rw [h.n])
  have c3 := h1.c3
  have c4 := h1.c4
  have f4 := h1.fz 4
  have h3 := h1.set4 (c.n + 1)
  have k1 : ¬ c.fuse = 0 := by omega
  have k2 : (c.fuse == 0) = false := by simpa using k1
  have k3 : (o.k == 0) = false := by have : ¬ o.k = 0 := by omega
                                     simpa using this
  have eB : ((w.alloc (.cells #[.int .i64 o.k, .string o.n, .string o.t, .string o.b] TO)).setCell ⟨d, 4, none⟩ (.int .i64 (c.n + 1))).cell? ⟨w.heap.size, 0, none⟩ = some (.int .i64 o.k) := by
    rw [World.cell?_setCell_far _ _ _ _ (by simp [hne'])]; exact e0
  have hbW : ((w.alloc (.cells #[.int .i64 o.k, .string o.n, .string o.t, .string o.b] TO)).setCell ⟨d, 4, none⟩ (.int .i64 (c.n + 1))).heap[w.heap.size]? = some (.cells #[.int .i64 o.k, .string o.n, .string o.t, .string o.b] TO (0, 0)) := by
    rw [Deep.blk_setCell_other _ _ _ _ (by simp [hne])]; exact hb0
  have hkW : Kp (· = d) w ((w.alloc (.cells #[.int .i64 o.k, .string o.n, .string o.t, .string o.b] TO)).setCell ⟨d, 4, none⟩ (.int .i64 (c.n + 1))) := Kp.setCell (S := (· = d)) (Kp.of_below ((Below.refl _ _).alloc (Nat.le_refl _) _)) (p := ⟨d, 4, none⟩) (fun _ => rfl) _
  have hHw : RC.At { c with fuse := c.fuse, n := c.n + 1 } d ((w.alloc (.cells #[.int .i64 o.k, .string o.n, .string o.t, .string o.b] TO)).setCell ⟨d, 4, none⟩ (.int .i64 (c.n + 1))) := h3
  try simp only at c4
  clear e0 h h1 hb0 h3 
  obtain ⟨xf, exf⟩ : ∃ z, z = c.fuse := ⟨_, rfl⟩
  obtain ⟨xn, exn⟩ : ∃ z, z = c.n + 1 := ⟨_, rfl⟩
  go_enter Tryz.func68, Tryz.ntmps68
  go_wp2
  generalize ((w.alloc (.cells #[.int .i64 o.k, .string o.n, .string o.t, .string o.b] TO)).setCell ⟨d, 4, none⟩ (.int .i64 (c.n + 1))) = w6 at *
  have hr6 : OL c.ops r.ops w6 := hH.out.ops.kp hkW (fun g hg => hH.out.ops.ne_d hH.out.at_ hg)
  have ag : c.ops.ownBlock ≠ some d := fun hg => hH.out.ops.ne_d hH.out.at_ hg rfl
  have ab : c.ops.ownBlock ≠ some w.heap.size := fun hg => Nat.lt_irrefl _ (hH.out.ops.lt hg)
  obtain ⟨i0, hi0, hz0, hz1, hz2⟩ := info_parts infoP
  have hcl := cellsP_length r.ops
  have c1 : w6.cell? ⟨d, 1, none⟩ = some c.ops := hHw.c1
  obtain ⟨b0, b1, b2, b3⟩ := box4 hbW
  have f1 : w6.frozen? ⟨d, 1, none⟩ = false := hHw.fz 1
  have hd6 := hHw.lt
  have hs6 := (Array.getElem?_eq_some_iff.1 hbW).1
  have c1a := cell_alloc hd6 c1 (.cells #[.int .i64 o.k, .string o.n, .string o.t, .string o.b] TO)
  have f1a := frozen_alloc hd6 f1 (.cells #[.int .i64 o.k, .string o.n, .string o.t, .string o.b] TO)
  clear eB c3 c4 f4 
  have hr6' : w6.ownsRow 0 TO 4 c.ops r.ops.length (cellsP r.ops) := hr6
  go_region_law
    ((refine step_append_lies _ (by rfl) _ _ _ (by rfl) 0 TO i0 _ 4 56 Tryz.underlying120 hi0 hz0 hz1 hz2 rfl (by omega) c.ops r.ops.length (cellsP r.ops) (by rfl) ((hr6'.alloc _).drew)
        ⟨w6.heap.size, 0, none⟩ 1 1 [.int .i64 o.k, .string o.n, .string o.t, .string o.b] (by rfl) (by rfl) (World.news_of_block (cs := #[.int .i64 o.k, .string o.n, .string o.t, .string o.b]) (t := TO) (fr := (0, 0)) (heap_alloc_new w6 _)) (by simp [Value.oneCell'])
        (by omega) (by unfold maxLen; omega) (by omega) (by simp) (w6.heap.size + 1) (by simp) ?_; intro gg cap w7 hown1 hgrow hat hlt; have f7 : w7.frozen? ⟨d, 1, none⟩ = false := (hgrow.frozen_far _ (by simp; omega) (Ne.symm ag)).trans f1a; have c7 : w7.cell? ⟨d, 1, none⟩ = some c.ops := (hgrow.cell_far _ (by simp; omega) (Ne.symm ag)).trans c1a))
  all_goals
    have hgk : Kp (fun k => c.ops.ownBlock = some k) w6 w7 := Kp.of_grown_alloc hgrow
    clear hgrow c7 f7 c1a f1a c1 f1 b0 b1 b2 b3
    have h7 := hHw.of_block (hgk.block d hd6 ag)
    have hb7 := (hgk.block _ hs6 ab).trans hbW
    have h8 := h7.set1 (.slice (some ⟨gg, 0, none⟩) (r.ops.length + 1) cap)
    have hb8 := (Deep.blk_setCell_other w7 ⟨d, 1, none⟩ (.slice (some ⟨gg, 0, none⟩) (r.ops.length + 1) cap) w.heap.size (by simp [hne])).trans hb7
    have hOL : OL (.slice (some ⟨gg, 0, none⟩) (r.ops.length + 1) cap) (r.ops ++ [o]) w7 := by
      unfold OL
      rw [cellsP_append]
      simpa [cellsP, Op4.cells] using hown1
    have hat' : ∀ g, (Value.slice (some ⟨gg, 0, none⟩) (r.ops.length + 1) cap).ownBlock = some g → c.ops.ownBlock = some g ∨ w6.heap.size ≤ g := by
      intro g hg
      simp only [Value.ownBlock, Option.some.injEq] at hg
      subst hg
      rcases hat with h | h
      · exact .inl h
      · exact .inr (by omega)
    have hL6 : FL c.L r.L w6 := hH.out.L.kp hkW (fun g hg => hH.out.L.ne_d hH.out.at_ hg)
    have hL7 : FL c.L r.L w7 := hL6.kp hgk (fun g hg => hL6.ne_o hr6 hg)
    have hL8 : FL c.L r.L (w7.setCell ⟨d, 1, none⟩ (.slice (some ⟨gg, 0, none⟩) (r.ops.length + 1) cap)) := hL7.kp (Kp.setCell (S := (· = d)) (Kp.refl _ _) (p := ⟨d, 1, none⟩) (fun _ => rfl) _) (fun g hg => hL7.ne_d h7 hg)
    obtain ⟨w8, hw8⟩ : ∃ w8, w8 = w7.setCell ⟨d, 1, none⟩ (.slice (some ⟨gg, 0, none⟩) (r.ops.length + 1) cap) := ⟨_, rfl⟩
    have HW8 := Lib.hid hw8
    rw [← hw8] at h8 hb8 hL8
    go_wp2
    rw [← hw8]
    clear hw8
    obtain ⟨aL, capL, eL, _⟩ := hL8.form
    have c2 := h8.c2
    simp only at c2
    rw [eL] at hL8 c2
    obtain ⟨b0, b1, b2, b3⟩ := box4 hb8
    have hL9 : FL (.slice aL r.L.length capL) r.L w8.drew := hL8
    have h9 : RC.At { c with fuse := c.fuse, n := c.n + 1, ops := .slice (some ⟨gg, 0, none⟩) (r.ops.length + 1) cap } d w8.drew := h8
    clear hL6 hL7 hL8 h7 hb7 hb8 eL h8
    go_region_law
      ((go_simp; go_at_call 70; refine (done_any _ r.L o.k o.n o.t o.b _ hL9 hl hk).mono ?_; rintro e w9 ⟨vL, rfl, hF9, hB9⟩; obtain ⟨aN, capN, rfl, _⟩ := hF9.form; have h10 := h9.of_block (hB9.block d h9.lt); have c10 := h10.c2; have f10 := h10.fz 2))
    all_goals
      go_wp2
      go_ret
      exact ⟨rfl, do_end hH.out hHw hkW hx.out hy.out hgk hOL hat' HW8.out ⟨hB9.os, hB9.tape, hB9.output, hB9.size, hB9.block⟩ hF9⟩
end Dk
