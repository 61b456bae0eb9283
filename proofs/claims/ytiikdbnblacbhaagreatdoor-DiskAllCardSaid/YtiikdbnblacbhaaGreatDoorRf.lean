/- The operations and the crash of the reference disk in plain words; the conditions stand in each statement. -/
import Derived.Test.YtiikdbnblacbhaaGreatDoorRe
set_option linter.unusedVariables false
set_option linter.unusedSimpArgs false
set_option linter.unusedSectionVars false
namespace Dk
open Go Go.Proofs Go.RowKit Go.Maps

/-- What counts stays in bounds. -/
structure RS.Fits (r : RS) : Prop where
  ops : r.ops.length < 1000000
  n0 : 0 ≤ r.n
  n1 : r.n < 1000000
  fuse : -9223372036854775808 ≤ r.fuse ∧ r.fuse ≤ 9223372036854775807
  L : r.L.length ≤ 100
def RS.did (r : RS) (o : Op4) : RS × Int :=
  if r.fuse = 0 then ({ r with down := true }, 6) else ({ r with L := o.done r.L, ops := r.ops ++ [o], n := r.n + 1, fuse := burntI r.fuse }, 0)
theorem RDisk.turn {d : Nat} {c c' : RC} {r r' : RS} {w w' : World} (h : RDisk d c r w) (hA : c'.At d w') (hk : Kp (· = d) w w') (hs : FL c'.sure r'.sure w) (ho : OL c'.ops r'.ops w) (hL : FL c'.L r'.L w)
    (hn : c'.n = r'.n) (hf : c'.fuse = r'.fuse) (hd : c'.down = r'.down) (hops : ∀ g, c'.ops.ownBlock = some g → c.ops.ownBlock = some g) : RStepped d c r' w w' := by
  refine ⟨c', ⟨hA, hs.kp hk (fun g hg => hs.ne_d h.at_ hg), ho.kp hk (fun g hg => ho.ne_d h.at_ hg), hL.kp hk (fun g hg => hL.ne_d h.at_ hg), hn, hf, hd⟩, hk.mono (fun _ _ e => .inl e), ?_⟩
  rintro k (hk | hk)
  · exact .inl (.inl hk)
  · exact .inl (.inr (hops k hk))
theorem RDisk.drewN {d : Nat} {c : RC} {r : RS} {w : World} (h : RDisk d c r w) (n : Nat) : RDisk d c r (w.drewN n) := ⟨h.at_, h.sure, h.ops, h.L, h.n, h.fuse, h.down⟩
theorem RDisk.same {d : Nat} {c : RC} {r : RS} {w : World} (h : RDisk d c r w) (n : Nat) : RStepped d c r w (w.drewN n) :=
  ⟨c, h.drewN n, ⟨rfl, rfl, rfl, Nat.le_refl _, fun _ _ _ => rfl⟩, fun _ h => .inl h⟩
theorem RStepped.from_drewN {d : Nat} {c : RC} {r : RS} {w w' : World} {n : Nat} (h : RStepped d c r (w.drewN n) w') : RStepped d c r w w' := by
  obtain ⟨c', h1, h2, h3⟩ := h
  exact ⟨c', h1, ⟨h2.os, h2.tape, h2.output, h2.size, h2.block⟩, h3⟩
theorem rdo_any (d : Nat) (c : RC) (r : RS) (o : Op4) (w : World) (h : RDisk d c r w) (hk : o.k = 1 ∨ o.k = 2 ∨ o.k = 3) (hs : r.Fits) :
    Calls Tryz.prog 68 #[.pointer (some ⟨d, 0, none⟩), opR o.k o.n o.t o.b] w fun e w' => e = .returned (.int .i64 (r.did o).2) ∧ RStepped d c (r.did o).1 w w' := by
  have b1 : -9223372036854775808 ≤ c.fuse ∧ c.fuse ≤ 9223372036854775807 := by rw [h.fuse]; exact hs.fuse
  have b2 : 0 ≤ c.n := by rw [h.n]; exact hs.n0
  have b3 : c.n < 9223372036854775807 := by rw [h.n]; have := hs.n1; omega
  by_cases hf : r.fuse = 0
  · have e : r.did o = ({ r with down := true }, 6) := by unfold RS.did; rw [if_pos hf]
    rw [e]
    refine (do_fuse d c o.k o.n o.t o.b w h.at_ (h.fuse.trans hf)).mono ?_
    rintro e w' ⟨rfl, hA, hk⟩
    exact ⟨rfl, h.turn hA hk h.sure h.ops h.L h.n h.fuse rfl (fun _ h => h)⟩
  · have e : r.did o = ({ r with L := o.done r.L, ops := r.ops ++ [o], n := r.n + 1, fuse := burntI r.fuse }, 0) := by unfold RS.did; rw [if_neg hf]
    rw [e]
    by_cases hp : 0 < c.fuse
    · exact do_op_some d c r o w h hk hp b1 b2 b3 hs.ops hs.L
    · exact do_op_none d c r o w h hk (by have := h.fuse; omega) b1 b2 b3 hs.ops hs.L
theorem op_did {r : RS} {o : Op3} (hd : r.down = false) (hc : canR o r.L = 0) : r.op o = r.did o.r := by
  unfold RS.op RS.did
  rw [if_neg (by rw [hd]; simp), if_neg (by rw [hc]; simp)]
theorem op_down {r : RS} {o : Op3} (hd : r.down = true) : r.op o = (r, 6) := by unfold RS.op; rw [if_pos hd]
theorem op_err {r : RS} {o : Op3} (hd : r.down = false) (hc : canR o r.L ≠ 0) : r.op o = (r, canR o r.L) := by unfold RS.op; rw [if_neg (by rw [hd]; simp), if_pos hc]
theorem rdo_op {d : Nat} {c : RC} {r : RS} {o : Op3} {w : World} (h : RDisk d c r w) (hk : o.k = 1 ∨ o.k = 2 ∨ o.k = 3) (hs : r.Fits) (hd : r.down = false) (hc : canR o r.L = 0) {k : Int} {n t b : ByteArray} (e : o.r = ⟨k, n, t, b⟩) :
    ∀ dn, Calls Tryz.prog 68 #[.pointer (some ⟨d, 0, none⟩), opR k n t b] (w.drewN dn) fun e w' => ∃ x : Int, e = .returned (.int .i64 x) ∧ (Ending.returned (.int .i64 x) = .returned (.int .i64 (r.op o).2) ∧ RStepped d c (r.op o).1 w w') := fun dn => by
  have := rdo_any d c r o.r (w.drewN dn) (h.drewN dn) hk hs
  rw [op_did hd hc]
  rw [e] at this ⊢
  exact this.mono fun e w' ⟨h1, h2⟩ => ⟨_, h1, rfl, h2.from_drewN⟩

theorem rwrite_any (d : Nat) (c : RC) (r : RS) (f b : ByteArray) (w : World) (h : RDisk d c r w) (hs : r.Fits) :
    Calls Tryz.prog 22 #[.pointer (some ⟨d, 0, none⟩), .string f, .string b] w fun e w' => e = .returned (.int .i64 (r.op ⟨1, f, b⟩).2) ∧ RStepped d c (r.op ⟨1, f, b⟩).1 w w' := by
  have hL1 : r.L.length ≤ 1000 := by have := hs.L; omega
  have hdn := h.down
  by_cases h1 : r.down = true
  · rw [op_down h1]
    refine (rwrite_err d c r.L f b w h.at_ h.L hL1 6 (.inl ⟨hdn.trans h1, rfl⟩)).mono ?_
    rintro e w' ⟨rfl, n, rfl⟩
    exact ⟨rfl, h.same n⟩
  · have h1' : r.down = false := by simpa using h1
    by_cases h2 : nameB f = false
    · have hc : canR ⟨1, f, b⟩ r.L = 1 := by simp [canR, h2]
      rw [op_err h1' (by rw [hc]; decide), hc]
      refine (rwrite_err d c r.L f b w h.at_ h.L hL1 1 (.inr (.inl ⟨hdn.trans h1', h2, rfl⟩))).mono ?_
      rintro e w' ⟨rfl, n, rfl⟩
      exact ⟨rfl, h.same n⟩
    · have h2' : nameB f = true := by simpa using h2
      by_cases h3 : okF r.L f = true
      · have hc : canR ⟨1, f, b⟩ r.L = 0 := by simp [canR, h2', h3]
        exact rwrite_has d c r.L f b w h.at_ h.L hL1 (hdn.trans h1') h3 h2' _ (rdo_op h (.inl rfl) hs h1' hc (by simp [Op3.r]))
      · have h3' : okF r.L f = false := by simpa using h3
        by_cases h4 : 100 ≤ r.L.length
        · have hc : canR ⟨1, f, b⟩ r.L = 5 := by simp only [canR, h2', h3']; simp; omega
          rw [op_err h1' (by rw [hc]; decide), hc]
          refine (rwrite_err d c r.L f b w h.at_ h.L hL1 5 (.inr (.inr ⟨hdn.trans h1', h2', h3', h4, rfl⟩))).mono ?_
          rintro e w' ⟨rfl, n, rfl⟩
          exact ⟨rfl, h.same n⟩
        · have hc : canR ⟨1, f, b⟩ r.L = 0 := by simp only [canR, h2', h3']; simp; omega
          exact rwrite_new d c r.L f b w h.at_ h.L hL1 (hdn.trans h1') h3' h2' (by omega) _ (rdo_op h (.inl rfl) hs h1' hc (by simp [Op3.r]))
theorem rmove_any (d : Nat) (c : RC) (r : RS) (f b : ByteArray) (w : World) (h : RDisk d c r w) (hs : r.Fits) :
    Calls Tryz.prog 24 #[.pointer (some ⟨d, 0, none⟩), .string f, .string b] w fun e w' => e = .returned (.int .i64 (r.op ⟨2, f, b⟩).2) ∧ RStepped d c (r.op ⟨2, f, b⟩).1 w w' := by
  have hL1 : r.L.length ≤ 1000 := by have := hs.L; omega
  have hdn := h.down
  by_cases h1 : r.down = true
  · rw [op_down h1]
    refine (rmove_err d c r.L f b w h.at_ h.L hL1 6 (.inl ⟨hdn.trans h1, rfl⟩)).mono ?_
    rintro e w' ⟨rfl, n, rfl⟩
    exact ⟨rfl, h.same n⟩
  · have h1' : r.down = false := by simpa using h1
    by_cases h3 : okF r.L f = true
    · by_cases h2 : nameB b = false
      · have hc : canR ⟨2, f, b⟩ r.L = 1 := by simp [canR, h2, h3]
        rw [op_err h1' (by rw [hc]; decide), hc]
        refine (rmove_err d c r.L f b w h.at_ h.L hL1 1 (.inr (.inr ⟨hdn.trans h1', h3, h2, rfl⟩))).mono ?_
        rintro e w' ⟨rfl, n, rfl⟩
        exact ⟨rfl, h.same n⟩
      · have h2' : nameB b = true := by simpa using h2
        have hc : canR ⟨2, f, b⟩ r.L = 0 := by simp [canR, h2', h3]
        exact rmove_ok d c r.L f b w h.at_ h.L hL1 (hdn.trans h1') h3 h2' _ (rdo_op h (.inr (.inl rfl)) hs h1' hc (by simp [Op3.r]))
    · have h3' : okF r.L f = false := by simpa using h3
      have hc : canR ⟨2, f, b⟩ r.L = 4 := by simp [canR, h3']
      rw [op_err h1' (by rw [hc]; decide), hc]
      refine (rmove_err d c r.L f b w h.at_ h.L hL1 4 (.inr (.inl ⟨hdn.trans h1', h3', rfl⟩))).mono ?_
      rintro e w' ⟨rfl, n, rfl⟩
      exact ⟨rfl, h.same n⟩
theorem rremove_any (d : Nat) (c : RC) (r : RS) (f : ByteArray) (w : World) (h : RDisk d c r w) (hs : r.Fits) :
    Calls Tryz.prog 26 #[.pointer (some ⟨d, 0, none⟩), .string f] w fun e w' => e = .returned (.int .i64 (r.op ⟨3, f, noB⟩).2) ∧ RStepped d c (r.op ⟨3, f, noB⟩).1 w w' := by
  have hL1 : r.L.length ≤ 1000 := by have := hs.L; omega
  have hdn := h.down
  by_cases h1 : r.down = true
  · rw [op_down h1]
    refine (rremove_err d c r.L f w h.at_ h.L hL1 6 (.inl ⟨hdn.trans h1, rfl⟩)).mono ?_
    rintro e w' ⟨rfl, n, rfl⟩
    exact ⟨rfl, h.same n⟩
  · have h1' : r.down = false := by simpa using h1
    by_cases h3 : okF r.L f = true
    · have hc : canR ⟨3, f, noB⟩ r.L = 0 := by simp [canR, h3]
      exact rremove_ok d c r.L f w h.at_ h.L hL1 (hdn.trans h1') h3 _ (rdo_op h (.inr (.inr rfl)) hs h1' hc (by simp [Op3.r]))
    · have h3' : okF r.L f = false := by simpa using h3
      have hc : canR ⟨3, f, noB⟩ r.L = 4 := by simp [canR, h3']
      rw [op_err h1' (by rw [hc]; decide), hc]
      refine (rremove_err d c r.L f w h.at_ h.L hL1 4 (.inr ⟨hdn.trans h1', h3', rfl⟩)).mono ?_
      rintro e w' ⟨rfl, n, rfl⟩
      exact ⟨rfl, h.same n⟩
theorem OL.nil (w : World) : OL (.slice none 0 0) [] w := ⟨rfl, .inl ⟨rfl, rfl⟩⟩
theorem rsyncs_any (d : Nat) (c : RC) (r : RS) (w : World) (h : RDisk d c r w) (hs : r.Fits) :
    Calls Tryz.prog 28 #[.pointer (some ⟨d, 0, none⟩)] w fun e w' => e = .returned (.int .i64 r.sync.2) ∧ RStepped d c r.sync.1 w w' := by
  obtain ⟨ao, cap, hL, _⟩ := h.L.form
  refine (rsync_any d c ao _ cap hL w h.at_ (by rw [h.fuse]; exact hs.fuse) (by rw [h.n]; exact hs.n0) (by rw [h.n]; have := hs.n1; omega)).mono ?_
  rintro e w' ⟨rfl, hA, hk⟩
  have hd := h.down
  have hf := h.fuse
  revert hA
  unfold RC.sync RS.sync
  rw [hd, hf]
  by_cases h1 : r.down = true
  · rw [if_pos h1, if_pos h1]
    exact fun hA => ⟨rfl, h.turn hA hk h.sure h.ops h.L h.n h.fuse h.down (fun _ h => h)⟩
  · rw [if_neg h1, if_neg h1]
    by_cases h2 : r.fuse = 0
    · rw [if_pos h2, if_pos h2]
      exact fun hA => ⟨rfl, h.turn hA hk h.sure h.ops h.L h.n rfl rfl (fun _ h => h)⟩
    · rw [if_neg h2, if_neg h2]
      exact fun hA => ⟨rfl, h.turn hA hk h.L (OL.nil w) h.L (by show c.n + 1 = r.n + 1; rw [h.n]) rfl rfl (fun _ h => by cases h)⟩
theorem rfuses_any (d : Nat) (c : RC) (r : RS) (x : Int) (w : World) (h : RDisk d c r w) :
    Calls Tryz.prog 30 #[.pointer (some ⟨d, 0, none⟩), .int .i64 x] w fun e w' => e = .returned (.tuple #[]) ∧ RStepped d c (r.setFuse x) w w' := by
  refine (rfuse_any d c x w h.at_).mono ?_
  rintro e w' ⟨rfl, hA, hk⟩
  have hd := h.down
  revert hA
  unfold RS.setFuse
  rw [hd]
  by_cases h1 : r.down = true
  · rw [if_pos h1, if_pos h1]
    exact fun hA => ⟨rfl, h.turn hA hk h.sure h.ops h.L h.n h.fuse h.down (fun _ h => h)⟩
  · rw [if_neg h1, if_neg h1]
    exact fun hA => ⟨rfl, h.turn hA hk h.sure h.ops h.L h.n rfl rfl (fun _ h => h)⟩
theorem rnews_any (w : World) :
    Calls Tryz.prog 19 #[] w fun e w' => ∃ d c, e = .returned (.pointer (some ⟨d, 0, none⟩)) ∧ RDisk d c ⟨[], [], [], 0, -1, false⟩ w' ∧ Below w.heap.size w w' ∧ ∀ k, c.fp d k → w.heap.size ≤ k := by
  refine (rnew_any w).mono ?_
  rintro e w' ⟨rfl, hA, hb⟩
  refine ⟨_, _, rfl, ⟨hA, ⟨rfl, .inl ⟨rfl, rfl⟩⟩, OL.nil _, ⟨rfl, .inl ⟨rfl, rfl⟩⟩, rfl, rfl, rfl⟩, hb, ?_⟩
  rintro k (hk | hk)
  · omega
  · cases hk
end Dk
namespace Dk
open Go Go.Proofs Go.RowKit Go.Maps

theorem cellsP_get : ∀ (l : List Op4) (k : Nat) (hk : k < l.length) (j : Nat), j < 4 → (cellsP l)[k * 4 + j]? = (l[k].cells)[j]?
  | [], k, hk, _, _ => by simp at hk
  | o :: l, 0, _, j, hj => by
    have : cellsP (o :: l) = o.cells ++ cellsP l := by simp [cellsP]
    rw [this, Nat.zero_mul, Nat.zero_add, List.getElem?_append_left (by simp [Op4.cells]; omega)]
    rfl
  | o :: l, k + 1, hk, j, hj => by
    have : cellsP (o :: l) = o.cells ++ cellsP l := by simp [cellsP]
    rw [this, List.getElem?_append_right (by simp [Op4.cells]; omega)]
    have e : (k + 1) * 4 + j - o.cells.length = k * 4 + j := by simp [Op4.cells]; omega
    rw [e, cellsP_get l k (by simpa using hk) j hj]
    rfl
theorem OL.form {v : Value} {l : List Op4} {w : World} (h : OL v l w) : ∃ ao cap, v = .slice ao l.length cap ∧ (l.length = 0 ∨ ∃ g, ao = some ⟨g, 0, none⟩) := by
  rcases h.2 with ⟨hv, h0⟩ | ⟨g, cap, cur, hv, _⟩
  · exact ⟨none, 0, by rw [h0]; exact hv, .inl h0⟩
  · exact ⟨_, cap, hv, .inr ⟨g, rfl⟩⟩
theorem OL.op {g n cap : Nat} {l : List Op4} {w : World} (h : OL (.slice (some ⟨g, 0, none⟩) n cap) l w) (k : Nat) (hk : k < l.length) :
    w.cell? ⟨g, k * 4, none⟩ = some (.int .i64 l[k].k) ∧ w.cell? ⟨g, k * 4 + 1, none⟩ = some (.string l[k].n) ∧ w.cell? ⟨g, k * 4 + 2, none⟩ = some (.string l[k].t) ∧ w.cell? ⟨g, k * 4 + 3, none⟩ = some (.string l[k].b) := by
  rcases h.2 with ⟨hv, _⟩ | ⟨g', cap', cur, hv, _, hg, hle, _, hcs, htake⟩
  · cases hv
  · simp only [Value.slice.injEq, Option.some.injEq, Addr.mk.injEq, and_true] at hv
    obtain ⟨rfl, _, _⟩ := hv
    have key : ∀ j, j < 4 → cur[k * 4 + j]? = (l[k].cells)[j]? := fun j hj => by
      rw [← cellsP_get l k hk j hj, ← htake, List.getElem?_take_of_lt (by omega)]
      simp
    refine ⟨?_, ?_, ?_, ?_⟩
    · rw [Lib.cell_of_heap hg]; exact key 0 (by omega)
    · rw [Lib.cell_of_heap hg]; exact key 1 (by omega)
    · rw [Lib.cell_of_heap hg]; exact key 2 (by omega)
    · rw [Lib.cell_of_heap hg]; exact key 3 (by omega)
theorem RDisk.below {d : Nat} {c : RC} {r : RS} {w w' : World} (h : RDisk d c r w) (hb : Below w.heap.size w w') : RDisk d c r w' :=
  ⟨h.at_.of_block (hb.block d h.at_.lt), h.sure.below hb, h.ops.kp (Kp.of_below (S := fun _ => False) hb) (fun _ _ h => h), h.L.below hb, h.n, h.fuse, h.down⟩
theorem goR_lt {keep : Int} {k : Nat} (h : k < 64) (hb : bitB keep k = true) : goR keep k = true := by simp [goR, h, hb]
theorem goR_bit {keep : Int} {k : Nat} (hb : ¬ bitB keep k = true) : goR keep k = false := by simp [goR, hb]
theorem crash_rend {d : Nat} {c : RC} {r : RS} {keep : Int} {w wr : World} {v : Value} {k : Nat} (h : RDisk d c r w) (hB : Below w.heap.size w wr) (hF : FL v (crashR keep 0 (r.ops.take k) r.sure) wr) (hk : k ≤ r.ops.length) (he : k = r.ops.length ∨ 64 ≤ k) :
    RStepped d c (r.crash keep) w (((((wr.setCell ⟨d, 0, none⟩ v).setCell ⟨d, 2, none⟩ v).setCell ⟨d, 1, none⟩ (.slice none 0 0)).setCell ⟨d, 3, none⟩ (.int .i64 (-1))).setCell ⟨d, 5, none⟩ (.bool false)) := by
  rw [crashR_64 keep r.ops r.sure k hk he] at hF
  have hR := h.below hB
  have hA := ((((hR.at_.set0 v).set2 v).set1 (.slice none 0 0)).set3 (-1)).set5 false
  have hk : Kp (· = d) wr (((((wr.setCell ⟨d, 0, none⟩ v).setCell ⟨d, 2, none⟩ v).setCell ⟨d, 1, none⟩ (.slice none 0 0)).setCell ⟨d, 3, none⟩ (.int .i64 (-1))).setCell ⟨d, 5, none⟩ (.bool false)) :=
    Kp.setCell (S := (· = d)) (Kp.setCell (S := (· = d)) (Kp.setCell (S := (· = d)) (Kp.setCell (S := (· = d)) (Kp.setCell (S := (· = d)) (Kp.refl _ _) (p := ⟨d, 0, none⟩) (fun _ => rfl) _) (p := ⟨d, 2, none⟩) (fun _ => rfl) _) (p := ⟨d, 1, none⟩) (fun _ => rfl) _) (p := ⟨d, 3, none⟩) (fun _ => rfl) _) (p := ⟨d, 5, none⟩) (fun _ => rfl) _
  obtain ⟨c', h1, h2, h3⟩ := hR.turn (r' := r.crash keep) hA hk hF (OL.nil _) hF (by show c.n = r.n; exact h.n) rfl rfl (fun _ h => by cases h)
  refine ⟨c', h1, (Kp.of_below (S := c.fp d) hB).trans h2 (fun _ _ h => h), fun k hk => (h3 k hk).imp id (fun h => Nat.le_trans hB.size h)⟩

set_option maxRecDepth 100000 in
set_option maxHeartbeats 2000000 in
theorem rcrash_any (d : Nat) (c : RC) (r : RS) (keep : Int) (w : World) (h : RDisk d c r w) (hs : r.Fits) (hS : r.sure.length ≤ 100) (hkd : ∀ o ∈ r.ops, o.k = 1 ∨ o.k = 2 ∨ o.k = 3) (hk0 : 0 ≤ keep) (hk1 : keep < 18446744073709551616) :
    Calls Tryz.prog 31 #[.pointer (some ⟨d, 0, none⟩), .int .u64 keep] w fun e w' => e = .returned (.tuple #[]) ∧ RStepped d c (r.crash keep) w w' := by
  have hH := Lib.hid h
  have c0 := h.at_.c0
  obtain ⟨aS, capS, eS, _⟩ := h.sure.form
  have hF0 : FL (.slice aS r.sure.length capS) (crashR keep 0 (r.ops.take 0) r.sure) w := by rw [← eS]; exact h.sure
  rw [eS] at c0
  obtain ⟨ao, cap, hv, hao⟩ := h.ops.form
  have HV := Lib.hid hv
  have HAO := Lib.hid hao
  have hlen := hs.ops
  clear hv hao eS h
  go_enter Tryz.func31, Tryz.ntmps31
  go_wp2
  go_loopw [4, 5] (fun l i wr => ∃ k : Nat, k ≤ r.ops.length ∧ k ≤ 64 ∧ i = .int .i64 k ∧ FL l (crashR keep 0 (r.ops.take k) r.sure) wr ∧ (crashR keep 0 (r.ops.take k) r.sure).length ≤ 100 ∧ Below w.heap.size w wr) (fun _ i _ => r.ops.length - (intOf i).toNat)
  case atStart => exact ⟨0, Nat.zero_le _, Nat.zero_le _, rfl, hF0, hS, Below.refl _ _⟩
  case round =>
    obtain ⟨k, hk, hk64, rfl, hF, hl, hB⟩ := hrel
    clear hF0 c0
    have hR := hH.out.below hB
    have c1 := hR.at_.c1
    rw [HV.out] at c1
    obtain ⟨aV, capV, rfl, _⟩ := hF.form
    by_cases hlt : k < r.ops.length
    · by_cases h64 : k < 64
      · have hrow := hR.ops
        rw [HV.out] at hrow
        obtain ⟨g, rfl⟩ : ∃ g, ao = some ⟨g, 0, none⟩ := HAO.out.resolve_left (by omega)
        obtain ⟨e0, e1, e2, e3⟩ := hrow.op k hlt
        have hkk := hkd _ (List.getElem_mem hlt)
        have hHT := crashR_take keep r.ops r.sure k hlt
        have HT := Lib.hid hHT
        clear hHT hrow
        generalize r.ops[k] = o at *
        have h64' : decide ((k : Int) < 64) = true := by simp; omega
        have h64i : (k : Int) < 64 := by omega
        have hk00 : (0 : Int) ≤ (k : Int) := Int.natCast_nonneg _
        by_cases hbt : bitB keep k = true
        · have hbit : (Go.bits BinOp.and IntKind.u64 (keep / 2 ^ k) 1 == 1) = true := hbt
          have hg := goR_lt h64 hbt
          clear hbt
          go_wp2_with (first
            | (go_at_call 70; refine (done_any _ _ o.k o.n o.t o.b _ hF hl hkk).mono ?_; rintro e w9 ⟨vN, rfl, hF9, hB9⟩)
            | fail)
          go_roundw
          case rel =>
            have e := HT.out
            rw [hg, cond_true] at e
            refine ⟨k + 1, by omega, by omega, by go_num, ?_, ?_, hB.trans (hB9.mono hB.size)⟩
            · rw [e]; exact hF9
            · rw [e]; exact Op4.done_length _ _ hl
          case measure => simp [intOf]; omega
        · have hbit : (Go.bits BinOp.and IntKind.u64 (keep / 2 ^ k) 1 == 1) = false := bitB_false hbt
          have hg := goR_bit hbt
          clear hbt
          go_wp2
          go_roundw
          case rel =>
            have e := HT.out
            rw [hg, cond_false] at e
            refine ⟨k + 1, by omega, by omega, by go_num, ?_, ?_, hB⟩
            · rw [e]; exact hF
            · rw [e]; exact hl
          case measure => simp [intOf]; omega
      · have h64' : decide ((k : Int) < 64) = false := by simp; omega
        have he : k = r.ops.length ∨ 64 ≤ k := .inr (by omega)
        have hA' := hR.at_
        have e0 := hA'.c0
        have f0 := hA'.fz 0
        have hA0 := hA'.set0 (.slice aV (crashR keep 0 (r.ops.take k) r.sure).length capV)
        have e2 := hA0.c2
        have f2 := hA0.fz 2
        have hA2 := hA0.set2 (.slice aV (crashR keep 0 (r.ops.take k) r.sure).length capV)
        have e1 := hA2.c1
        have f1 := hA2.fz 1
        have hA1 := hA2.set1 (.slice none 0 0)
        have e3 := hA1.c3
        have f3 := hA1.fz 3
        have hA3 := hA1.set3 (-1)
        have e5 := hA3.c5
        have f5 := hA3.fz 5
        go_wp2
        go_end0
        exact ⟨rfl, crash_rend hH.out hB hF hk he⟩
    · have he : k = r.ops.length ∨ 64 ≤ k := .inl (by omega)
      have hA' := hR.at_
      have e0 := hA'.c0
      have f0 := hA'.fz 0
      have hA0 := hA'.set0 (.slice aV (crashR keep 0 (r.ops.take k) r.sure).length capV)
      have e2 := hA0.c2
      have f2 := hA0.fz 2
      have hA2 := hA0.set2 (.slice aV (crashR keep 0 (r.ops.take k) r.sure).length capV)
      have e1 := hA2.c1
      have f1 := hA2.fz 1
      have hA1 := hA2.set1 (.slice none 0 0)
      have e3 := hA1.c3
      have f3 := hA1.fz 3
      have hA3 := hA1.set3 (-1)
      have e5 := hA3.c5
      have f5 := hA3.fz 5
      go_wp2
      go_end0
      exact ⟨rfl, crash_rend hH.out hB hF hk he⟩
theorem rreads_any (d : Nat) (c : RC) (r : RS) (f : ByteArray) (w : World) (h : RDisk d c r w) (hs : r.Fits) :
    Calls Tryz.prog 33 #[.pointer (some ⟨d, 0, none⟩), .string f] w fun e w' => e = .returned (.tuple #[.string (rreadF r.down r.L f).1, .int .i64 (rreadF r.down r.L f).2]) ∧ ∃ n, w' = w.drewN n := by
  have := rread_any d c r.L f w h.at_ h.L (by have := hs.L; omega)
  rw [h.down] at this
  exact this
end Dk
