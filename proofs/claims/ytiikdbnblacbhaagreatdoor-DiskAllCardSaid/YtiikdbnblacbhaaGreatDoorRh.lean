/- Both disks side by side, each step leaves the other alone; the conditions stand in each statement. -/
import Derived.Test.YtiikdbnblacbhaaGreatDoorRg
set_option linter.unusedVariables false
set_option linter.unusedSimpArgs false
set_option linter.unusedSectionVars false
namespace Dk
open Go Go.Proofs Go.RowKit Go.Maps

abbrev TB := 63
/-- The statement's own boxes are left alone. -/
def Boxes (w w' : World) : Prop := ∀ (g : Nat) (cs : Array Value) (fz : Nat × Nat), w.heap[g]? = some (Obj.cells cs TB fz) → w'.heap[g]? = some (Obj.cells cs TB fz)
theorem cells_ne {cs cs' : Array Value} {T T' : TypeId} {fz fz' : Nat × Nat} (h : T ≠ T') : Obj.cells cs T fz ≠ Obj.cells cs' T' fz' := fun e => h (by injection e)
/-- Both disks are the call's own. -/
def Two (d dr : Nat) (s : St) (r : RS) (W w : World) : Prop :=
  ∃ c cr, Disk d c s w ∧ RDisk dr cr r w ∧ Below W.heap.size W w ∧ (∀ j, c.fp d j → W.heap.size ≤ j) ∧ ∀ j, cr.fp dr j → W.heap.size ≤ j

theorem Disk.fp_not {d : Nat} {c : DC} {s : St} {w : World} (h : Disk d c s w) {g : Nat} {cs : Array Value} {T : TypeId} {fz : Nat × Nat} (hb : w.heap[g]? = some (.cells cs T fz)) (h1 : T ≠ 80) (h2 : T ≠ 114) : ¬ c.fp d g := by
  rintro (e | e | e | e)
  · have := h.is.at_
    unfold DC.At at this
    rw [← e, hb] at this
    simp at this
    exact h1 this.2.1
  · obtain ⟨es, cl, hm⟩ := h.is.files.blk
    rw [← e, hb] at hm; cases hm
  · obtain ⟨es, cl, hm⟩ := h.is.sure.blk
    rw [← e, hb] at hm; cases hm
  · obtain ⟨cs', fz', hm⟩ := row_blk h.is.row e
    rw [hb] at hm
    simp at hm
    exact h2 hm.2.1
theorem RDisk.fp_not {d : Nat} {c : RC} {r : RS} {w : World} (h : RDisk d c r w) {g : Nat} {o : Obj} (hb : w.heap[g]? = some o) (h1 : ∀ cs fz, o ≠ .cells cs TR fz) (h2 : ∀ cs fz, o ≠ .cells cs TO fz) : ¬ c.fp d g := by
  rintro (e | e)
  · have := h.at_
    unfold RC.At at this
    rw [← e, hb] at this
    exact h1 _ _ (Option.some.inj this)
  · obtain ⟨cs', fz', hm⟩ := h.ops.blk e
    rw [hb] at hm
    exact h2 _ _ (Option.some.inj hm)
theorem two_D {d dr : Nat} {s s' : St} {r : RS} {W w w' : World} {c : DC} {cr : RC} (hD : Disk d c s w) (hR : RDisk dr cr r w) (hb : Below W.heap.size W w) (f1 : ∀ j, c.fp d j → W.heap.size ≤ j) (f2 : ∀ j, cr.fp dr j → W.heap.size ≤ j)
    (h : Stepped d c s' w w') : Two d dr s' r W w' ∧ Boxes w w' := by
  obtain ⟨c', hD', hk, hg⟩ := h
  have nF : ∀ {v : Value} {l : List Fl}, FL v l w → ∀ g, v.ownBlock = some g → ¬ c.fp d g := fun hF g hg' => by
    obtain ⟨cs, fz, hb⟩ := hF.blk hg'
    exact hD.fp_not hb (by decide) (by decide)
  have nO : ∀ g, cr.ops.ownBlock = some g → ¬ c.fp d g := fun g hg' => by
    obtain ⟨cs, fz, hb⟩ := hR.ops.blk hg'
    exact hD.fp_not hb (by decide) (by decide)
  have nD : ¬ c.fp d dr := hD.fp_not hR.at_ (by decide) (by decide)
  refine ⟨⟨c', cr, hD', ⟨hR.at_.of_block (hk.block dr hR.at_.lt nD), hR.sure.kp hk (nF hR.sure), hR.ops.kp hk nO, hR.L.kp hk (nF hR.L), hR.n, hR.fuse, hR.down⟩, ?_, ?_, f2⟩, ?_⟩
  · exact ⟨hk.os.trans hb.os, hk.tape.trans hb.tape, hk.output.trans hb.output, Nat.le_trans hb.size hk.size, fun j hj => (hk.block j (Nat.lt_of_lt_of_le hj hb.size) (fun h => by have := f1 j h; omega)).trans (hb.block j hj)⟩
  · intro j hj
    rcases hg j hj with h | h
    · exact f1 j h
    · exact Nat.le_trans hb.size h
  · intro g cs fz hg'
    exact (hk.block g (Array.getElem?_eq_some_iff.1 hg').1 (hD.fp_not hg' (by decide) (by decide))).trans hg'
theorem two_R {d dr : Nat} {s : St} {r r' : RS} {W w w' : World} {c : DC} {cr : RC} (hD : Disk d c s w) (hR : RDisk dr cr r w) (hb : Below W.heap.size W w) (f1 : ∀ j, c.fp d j → W.heap.size ≤ j) (f2 : ∀ j, cr.fp dr j → W.heap.size ≤ j)
    (h : RStepped dr cr r' w w') : Two d dr s r' W w' ∧ Boxes w w' := by
  obtain ⟨c', hR', hk, hg⟩ := h
  have nD : ∀ i, c.fp d i → ¬ cr.fp dr i := by
    rintro i (e | e | e | e)
    · subst e
      exact hR.fp_not hD.is.at_ (fun _ _ => cells_ne (by decide)) (fun _ _ => cells_ne (by decide))
    · subst e
      obtain ⟨es, cl, hm⟩ := hD.is.files.blk
      exact hR.fp_not hm (fun _ _ h => by cases h) (fun _ _ h => by cases h)
    · subst e
      obtain ⟨es, cl, hm⟩ := hD.is.sure.blk
      exact hR.fp_not hm (fun _ _ h => by cases h) (fun _ _ h => by cases h)
    · obtain ⟨cs', fz', hm⟩ := row_blk hD.is.row e
      exact hR.fp_not hm (fun _ _ => cells_ne (by decide)) (fun _ _ => cells_ne (by decide))
  refine ⟨⟨c, c', hD.kp hk nD, hR', ?_, f1, ?_⟩, ?_⟩
  · exact ⟨hk.os.trans hb.os, hk.tape.trans hb.tape, hk.output.trans hb.output, Nat.le_trans hb.size hk.size, fun j hj => (hk.block j (Nat.lt_of_lt_of_le hj hb.size) (fun h => by have := f2 j h; omega)).trans (hb.block j hj)⟩
  · intro j hj
    rcases hg j hj with h | h
    · exact f2 j h
    · exact Nat.le_trans hb.size h
  · intro g cs fz hg'
    exact (hk.block g (Array.getElem?_eq_some_iff.1 hg').1 (hR.fp_not hg' (fun _ _ => cells_ne (by decide)) (fun _ _ => cells_ne (by decide)))).trans hg'
theorem Two.below {d dr : Nat} {s : St} {r : RS} {W w w' : World} (h : Two d dr s r W w) (hb : Below w.heap.size w w') : Two d dr s r W w' := by
  obtain ⟨c, cr, h1, h2, h3, h4, h5⟩ := h
  exact ⟨c, cr, h1.below hb, h2.below hb, h3.trans (hb.mono h3.size), h4, h5⟩
theorem Two.bel {d dr : Nat} {s : St} {r : RS} {W w : World} (h : Two d dr s r W w) : Below W.heap.size W w := by
  obtain ⟨c, cr, h1, h2, h3, h4, h5⟩ := h
  exact h3

/-- What holds behind k rounds. -/
structure Inv (k : Nat) (s : St) (r : RS) : Prop where
  sim : Sim s r
  len : s.ops.length ≤ k
  n0 : 0 ≤ s.n
  n1 : s.n ≤ k
  fuse : -9223372036854775808 ≤ s.fuse ∧ s.fuse ≤ 9223372036854775807
  fine : ∀ o ∈ s.ops, o.Fine
theorem Inv.fits {k : Nat} {s : St} {r : RS} (h : Inv k s r) (hk : k ≤ 60) : s.Fits :=
  ⟨by have := h.len; omega, h.n0, by have := h.n1; omega, h.fuse, by rw [h.sim.F, size_dm]; have := h.sim.lenL; omega, by rw [h.sim.S, size_dm]; have := h.sim.lenS; omega, h.fine⟩
theorem Inv.rfits {k : Nat} {s : St} {r : RS} (h : Inv k s r) (hk : k ≤ 60) : r.Fits :=
  ⟨by rw [h.sim.ops, List.length_map]; have := h.len; omega, by rw [← h.sim.n]; exact h.n0, by rw [← h.sim.n]; have := h.n1; omega, by rw [← h.sim.fuse]; exact h.fuse, h.sim.lenL⟩
theorem Inv.kinds {k : Nat} {s : St} {r : RS} (h : Inv k s r) : ∀ o ∈ r.ops, o.k = 1 ∨ o.k = 2 ∨ o.k = 3 := by
  intro o ho
  rw [h.sim.ops] at ho
  obtain ⟨p, hp, rfl⟩ := List.mem_map.1 ho
  exact (h.sim.good p hp).kind
theorem burnt_bd {f : Int} (h : -9223372036854775808 ≤ f ∧ f ≤ 9223372036854775807) : -9223372036854775808 ≤ (if 0 < f then f - 1 else f) ∧ (if 0 < f then f - 1 else f) ≤ 9223372036854775807 := by
  split <;> omega
theorem inv_op {k : Nat} {s : St} {r : RS} (h : Inv k s r) (o : Op3) (ho : o.Fine) : (s.op o).2 = (r.op o).2 ∧ Inv (k + 1) (s.op o).1 (r.op o).1 := by
  obtain ⟨h1, h2⟩ := sim_op h.sim o ho.kind
  have hl := h.len
  have hn := h.n1
  have hn0 := h.n0
  have hf := burnt_bd h.fuse
  have hl' : s.ops.length ≤ k + 1 := by omega
  have hn' : s.n ≤ ((k + 1 : Nat) : Int) := by omega
  refine ⟨h1, h2, ?_, ?_, ?_, ?_, ?_⟩
  all_goals
    unfold St.op
    by_cases c1 : s.down = true
    · rw [if_pos c1]
      first | exact h.fine | exact h.fuse | exact h.n0 | exact hl' | exact hn'
    · rw [if_neg c1]
      by_cases c2 : canO o s.F ≠ 0
      · rw [if_pos c2]
        first | exact h.fine | exact h.fuse | exact h.n0 | exact hl' | exact hn'
      · rw [if_neg c2]
        by_cases c3 : s.fuse = 0
        · rw [if_pos c3]
          first | exact h.fine | exact h.fuse | exact h.n0 | exact hl' | exact hn'
        · rw [if_neg c3]
          first
            | exact hf
            | (show (s.ops ++ [o]).length ≤ _; simp; omega)
            | (show (0 : Int) ≤ s.n + 1; omega)
            | (show s.n + 1 ≤ ((k + 1 : Nat) : Int); omega)
            | (intro p hp
               rcases List.mem_append.1 hp with hp | hp
               · exact h.fine p hp
               · obtain rfl := List.mem_singleton.1 hp
                 exact ho)
theorem inv_sync {k : Nat} {s : St} {r : RS} (h : Inv k s r) : s.sync.2 = r.sync.2 ∧ Inv (k + 1) s.sync.1 r.sync.1 := by
  obtain ⟨h1, h2⟩ := sim_sync h.sim
  have hl := h.len
  have hn := h.n1
  have hn0 := h.n0
  have hf := burnt_bd h.fuse
  have hl' : s.ops.length ≤ k + 1 := by omega
  have hn' : s.n ≤ ((k + 1 : Nat) : Int) := by omega
  refine ⟨h1, h2, ?_, ?_, ?_, ?_, ?_⟩
  all_goals
    unfold St.sync
    by_cases c1 : s.down = true
    · rw [if_pos c1]
      first | exact h.fine | exact h.fuse | exact h.n0 | exact hl' | exact hn'
    · rw [if_neg c1]
      by_cases c3 : s.fuse = 0
      · rw [if_pos c3]
        first | exact h.fine | exact h.fuse | exact h.n0 | exact hl' | exact hn'
      · rw [if_neg c3]
        first
          | exact hf
          | (show ([] : List Op3).length ≤ _; simp)
          | (show (0 : Int) ≤ s.n + 1; omega)
          | (show s.n + 1 ≤ ((k + 1 : Nat) : Int); omega)
          | (intro p hp; cases hp)
theorem inv_fuse {k : Nat} {s : St} {r : RS} (h : Inv k s r) (x : Int) (hx : x ≤ 9223372036854775807) : Inv (k + 1) (if s.down = true then s else { s with fuse := max x (-1) }) (r.setFuse x) := by
  have hl := h.len
  have hn := h.n1
  refine ⟨sim_fuse h.sim x, ?_, ?_, ?_, ?_, ?_⟩
  all_goals
    by_cases c1 : s.down = true
    · rw [if_pos c1]
      first | exact h.fine | exact h.fuse | exact h.n0 | (show _ ≤ _; omega)
    · rw [if_neg c1]
      first | exact h.fine | exact h.n0 | (show s.ops.length ≤ _; omega) | (show s.n ≤ _; omega) | (show _ ≤ max x (-1) ∧ max x (-1) ≤ _; omega)
theorem inv_crash {k : Nat} {s : St} {r : RS} (h : Inv k s r) (keep : Int) : Inv (k + 1) ⟨crashF keep 0 s.ops s.S, crashF keep 0 s.ops s.S, [], s.n, -1, false⟩ (r.crash keep) :=
  ⟨sim_crash h.sim keep, by simp, h.n0, by show s.n ≤ _; have := h.n1; omega, by simp, by simp⟩
theorem Inv.succ {k : Nat} {s : St} {r : RS} (h : Inv k s r) : Inv (k + 1) s r := ⟨h.sim, by have := h.len; omega, h.n0, by have := h.n1; omega, h.fuse, h.fine⟩
theorem inv_new : Inv 0 ⟨.map [], .map [], [], 0, -1, false⟩ ⟨[], [], [], 0, -1, false⟩ := ⟨sim_new, by simp, by simp, by simp, by simp, by simp⟩

section
variable {d dr k : Nat} {s : St} {r r0 : RS} {s0 : St} {W w : World}
theorem two_write (h : Two d dr s r W w) (hs : s.Fits) (f b : ByteArray) (hf : f.size ≤ maxLen) (hb : b.size ≤ maxLen) :
    Calls Tryz.prog 21 #[.pointer (some ⟨d, 0, none⟩), .string f, .string b] w fun e w' => e = .returned (.int .i64 (s.op ⟨1, f, b⟩).2) ∧ Two d dr (s.op ⟨1, f, b⟩).1 r W w' ∧ Boxes w w' := by
  obtain ⟨c, cr, h1, h2, h3, h4, h5⟩ := h
  exact (write_any d c s f b w h1 hf hb hs).mono fun e w' ⟨he, hst⟩ => ⟨he, two_D h1 h2 h3 h4 h5 hst⟩
theorem two_move (h : Two d dr s r W w) (hs : s.Fits) (f b : ByteArray) (hf : f.size ≤ maxLen) (hb : b.size ≤ maxLen) :
    Calls Tryz.prog 23 #[.pointer (some ⟨d, 0, none⟩), .string f, .string b] w fun e w' => e = .returned (.int .i64 (s.op ⟨2, f, b⟩).2) ∧ Two d dr (s.op ⟨2, f, b⟩).1 r W w' ∧ Boxes w w' := by
  obtain ⟨c, cr, h1, h2, h3, h4, h5⟩ := h
  exact (move_any d c s f b w h1 hf hb hs).mono fun e w' ⟨he, hst⟩ => ⟨he, two_D h1 h2 h3 h4 h5 hst⟩
theorem two_remove (h : Two d dr s r W w) (hs : s.Fits) (f : ByteArray) (hf : f.size ≤ maxLen) :
    Calls Tryz.prog 25 #[.pointer (some ⟨d, 0, none⟩), .string f] w fun e w' => e = .returned (.int .i64 (s.op ⟨3, f, noB⟩).2) ∧ Two d dr (s.op ⟨3, f, noB⟩).1 r W w' ∧ Boxes w w' := by
  obtain ⟨c, cr, h1, h2, h3, h4, h5⟩ := h
  exact (remove_any d c s f w h1 hf hs).mono fun e w' ⟨he, hst⟩ => ⟨he, two_D h1 h2 h3 h4 h5 hst⟩
theorem two_sync (h : Two d dr s r W w) (hs : s.Fits) :
    Calls Tryz.prog 27 #[.pointer (some ⟨d, 0, none⟩)] w fun e w' => e = .returned (.int .i64 s.sync.2) ∧ Two d dr s.sync.1 r W w' ∧ Boxes w w' := by
  obtain ⟨c, cr, h1, h2, h3, h4, h5⟩ := h
  exact (sync_any d c s w h1 hs).mono fun e w' ⟨he, hst⟩ => ⟨he, two_D h1 h2 h3 h4 h5 hst⟩
theorem two_fuse (h : Two d dr s r W w) (x : Int) :
    Calls Tryz.prog 29 #[.pointer (some ⟨d, 0, none⟩), .int .i64 x] w fun e w' => e = .returned (.tuple #[]) ∧ Two d dr (if s.down = true then s else { s with fuse := max x (-1) }) r W w' ∧ Boxes w w' := by
  obtain ⟨c, cr, h1, h2, h3, h4, h5⟩ := h
  exact (fuse_any d c s x w h1).mono fun e w' ⟨he, hst⟩ => ⟨he, two_D h1 h2 h3 h4 h5 hst⟩
theorem two_crash (h : Two d dr s r W w) (hs : s.Fits) (keep : Int) (hk0 : 0 ≤ keep) (hk1 : keep < 18446744073709551616) :
    Calls Tryz.prog 16 #[.pointer (some ⟨d, 0, none⟩), .int .u64 keep] w fun e w' => e = .returned (.tuple #[]) ∧ Two d dr ⟨crashF keep 0 s.ops s.S, crashF keep 0 s.ops s.S, [], s.n, -1, false⟩ r W w' ∧ Boxes w w' := by
  obtain ⟨c, cr, h1, h2, h3, h4, h5⟩ := h
  exact (crash_any d c s keep w h1 hs hk0 hk1).mono fun e w' ⟨he, hst⟩ => ⟨he, two_D h1 h2 h3 h4 h5 hst⟩
theorem two_read (h : Two d dr s r W w) (hs : Sim s r) (f : ByteArray) (hf : f.size ≤ maxLen) :
    Calls Tryz.prog 32 #[.pointer (some ⟨d, 0, none⟩), .string f] w fun e w' => e = .returned (.tuple #[.string (rreadF r.down r.L f).1, .int .i64 (rreadF r.down r.L f).2]) ∧ w' = w := by
  obtain ⟨c, cr, h1, h2, h3, h4, h5⟩ := h
  refine (read_any d c s f w h1 hf).mono ?_
  rintro e w' ⟨x, rfl, hx, _, rfl⟩
  have e := sim_read hs f
  rw [e] at hx ⊢
  exact ⟨by rw [sd_inj' hx], rfl⟩
theorem two_rwrite (h : Two d dr s r W w) (hs : r.Fits) (f b : ByteArray) :
    Calls Tryz.prog 22 #[.pointer (some ⟨dr, 0, none⟩), .string f, .string b] w fun e w' => e = .returned (.int .i64 (r.op ⟨1, f, b⟩).2) ∧ Two d dr s (r.op ⟨1, f, b⟩).1 W w' ∧ Boxes w w' := by
  obtain ⟨c, cr, h1, h2, h3, h4, h5⟩ := h
  exact (rwrite_any dr cr r f b w h2 hs).mono fun e w' ⟨he, hst⟩ => ⟨he, two_R h1 h2 h3 h4 h5 hst⟩
theorem two_rmove (h : Two d dr s r W w) (hs : r.Fits) (f b : ByteArray) :
    Calls Tryz.prog 24 #[.pointer (some ⟨dr, 0, none⟩), .string f, .string b] w fun e w' => e = .returned (.int .i64 (r.op ⟨2, f, b⟩).2) ∧ Two d dr s (r.op ⟨2, f, b⟩).1 W w' ∧ Boxes w w' := by
  obtain ⟨c, cr, h1, h2, h3, h4, h5⟩ := h
  exact (rmove_any dr cr r f b w h2 hs).mono fun e w' ⟨he, hst⟩ => ⟨he, two_R h1 h2 h3 h4 h5 hst⟩
theorem two_rremove (h : Two d dr s r W w) (hs : r.Fits) (f : ByteArray) :
    Calls Tryz.prog 26 #[.pointer (some ⟨dr, 0, none⟩), .string f] w fun e w' => e = .returned (.int .i64 (r.op ⟨3, f, noB⟩).2) ∧ Two d dr s (r.op ⟨3, f, noB⟩).1 W w' ∧ Boxes w w' := by
  obtain ⟨c, cr, h1, h2, h3, h4, h5⟩ := h
  exact (rremove_any dr cr r f w h2 hs).mono fun e w' ⟨he, hst⟩ => ⟨he, two_R h1 h2 h3 h4 h5 hst⟩
theorem two_rsync (h : Two d dr s r W w) (hs : r.Fits) :
    Calls Tryz.prog 28 #[.pointer (some ⟨dr, 0, none⟩)] w fun e w' => e = .returned (.int .i64 r.sync.2) ∧ Two d dr s r.sync.1 W w' ∧ Boxes w w' := by
  obtain ⟨c, cr, h1, h2, h3, h4, h5⟩ := h
  exact (rsyncs_any dr cr r w h2 hs).mono fun e w' ⟨he, hst⟩ => ⟨he, two_R h1 h2 h3 h4 h5 hst⟩
theorem two_rfuse (h : Two d dr s r W w) (x : Int) :
    Calls Tryz.prog 30 #[.pointer (some ⟨dr, 0, none⟩), .int .i64 x] w fun e w' => e = .returned (.tuple #[]) ∧ Two d dr s (r.setFuse x) W w' ∧ Boxes w w' := by
  obtain ⟨c, cr, h1, h2, h3, h4, h5⟩ := h
  exact (rfuses_any dr cr r x w h2).mono fun e w' ⟨he, hst⟩ => ⟨he, two_R h1 h2 h3 h4 h5 hst⟩
theorem two_rcrash (h : Two d dr s r W w) (hi : Inv k s0 r) (hk : k ≤ 60) (keep : Int) (hk0 : 0 ≤ keep) (hk1 : keep < 18446744073709551616) :
    Calls Tryz.prog 31 #[.pointer (some ⟨dr, 0, none⟩), .int .u64 keep] w fun e w' => e = .returned (.tuple #[]) ∧ Two d dr s (r.crash keep) W w' ∧ Boxes w w' := by
  obtain ⟨c, cr, h1, h2, h3, h4, h5⟩ := h
  exact (rcrash_any dr cr r keep w h2 (hi.rfits hk) hi.sim.lenS hi.kinds hk0 hk1).mono fun e w' ⟨he, hst⟩ => ⟨he, two_R h1 h2 h3 h4 h5 hst⟩
theorem two_rread (h : Two d dr s r W w) (hs : r.Fits) (f : ByteArray) :
    Calls Tryz.prog 33 #[.pointer (some ⟨dr, 0, none⟩), .string f] w fun e w' => e = .returned (.tuple #[.string (rreadF r.down r.L f).1, .int .i64 (rreadF r.down r.L f).2]) ∧ ∃ n, w' = w.drewN n := by
  obtain ⟨c, cr, h1, h2, h3, h4, h5⟩ := h
  exact rreads_any dr cr r f w h2 hs
theorem two_same (h : Two d dr s r W w) (hs : Sim s r) :
    Calls Tryz.prog 34 #[.pointer (some ⟨d, 0, none⟩), .pointer (some ⟨dr, 0, none⟩)] w fun e w' => e = .returned (.bool true) ∧ Two d dr s r W w' := by
  have h' := h
  obtain ⟨c, cr, h1, h2, h3, h4, h5⟩ := h
  exact (same_any d dr c cr s r w h1 h2 hs).mono fun e w' ⟨he, hb⟩ => ⟨he, h'.below hb⟩
end
theorem two_new {W w1 w2 w3 : World} {d dr : Nat} {c : DC} {cr : RC} {s : St} {r : RS} (hb1 : Below W.heap.size W w1) (hD : Disk d c s w2) (hb2 : Below w1.heap.size w1 w2) (f1 : ∀ k, c.fp d k → w1.heap.size ≤ k)
    (hR : RDisk dr cr r w3) (hb3 : Below w2.heap.size w2 w3) (f2 : ∀ k, cr.fp dr k → w2.heap.size ≤ k) : Two d dr s r W w3 :=
  ⟨c, cr, hD.below hb3, hR, (hb1.trans (hb2.mono hb1.size)).trans (hb3.mono (Nat.le_trans hb1.size hb2.size)), fun j hj => Nat.le_trans hb1.size (f1 j hj), fun j hj => Nat.le_trans (Nat.le_trans hb1.size hb2.size) (f2 j hj)⟩
end Dk
namespace Dk
open Go Go.Proofs Go.RowKit Go.Maps

/-- A text's first bytes. -/
def cutB (s : ByteArray) (n : Nat) : ByteArray := s.extract 0 (min s.size n)
theorem cutB_size (s : ByteArray) (n : Nat) : (cutB s n).size ≤ n := by
  unfold cutB
  rw [ByteArray.size_extract]
  omega
theorem cutB_max (s : ByteArray) (n : Nat) (hn : n ≤ 1000) : (cutB s n).size ≤ maxLen := by have := cutB_size s n; unfold maxLen; omega
set_option maxRecDepth 100000 in
theorem text_any (s : ByteArray) (n : Nat) (hs : s.size ≤ maxLen) (hn : n ≤ 1000) (w : World) :
    Calls Tryz.prog 20 #[.string s, .int .i64 n] w fun e w' => e = .returned (.string (cutB s n)) ∧ w' = w := by
  unfold maxLen at hs
  by_cases h : s.size ≤ n
  · have e : Hid (cutB s n = s) := Lib.hid (by unfold cutB; rw [Nat.min_eq_left h]; simp)
    have h1 : (s.size : Int) ≤ (n : Int) := by omega
    go_enter Tryz.func20, Tryz.ntmps20
    go_wp2
    go_ret
    first
    | (rw [e.out]; exact ⟨rfl, rfl⟩)
    | (refine ⟨?_, rfl⟩; have h3 : (min (s.size : Int) (n : Int)).toNat = min s.size n := (by omega); show Ending.returned (Value.string (s.extract 0 (min (s.size : Int) (n : Int)).toNat)) = _; rw [h3]; rfl)
  · have e : Hid (cutB s n = s.extract 0 n) := Lib.hid (by unfold cutB; rw [Nat.min_eq_right (by omega)])
    have h1 : ¬ (s.size : Int) ≤ (n : Int) := by omega
    have h2 : (n : Int) ≤ (s.size : Int) := by omega
    go_enter Tryz.func20, Tryz.ntmps20
    go_wp2
    go_ret
    first
    | (rw [e.out]; exact ⟨rfl, rfl⟩)
    | (refine ⟨?_, rfl⟩; have h3 : (min (s.size : Int) (n : Int)).toNat = min s.size n := (by omega); show Ending.returned (Value.string (s.extract 0 (min (s.size : Int) (n : Int)).toNat)) = _; rw [h3]; rfl)
end Dk
