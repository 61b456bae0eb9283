/- The small operations of the reference disk, walked; the conditions stand in each statement. -/
import Derived.Test.YtiikdbnblacbhaaGreatDoorRb
set_option linter.unusedVariables false
set_option linter.unusedSimpArgs false
set_option linter.unusedSectionVars false
namespace Dk
open Go Go.Proofs Go.RowKit Go.Maps

/-- The reference's disk, its cells. -/
structure RC where
  sure : Value
  ops : Value
  L : Value
  fuse : Int
  n : Int
  down : Bool
abbrev TR := 122
def RC.cells (c : RC) : Array Value := #[c.sure, c.ops, c.L, .int .i64 c.fuse, .int .i64 c.n, .bool c.down]
def RC.At (c : RC) (d : Nat) (w : World) : Prop := w.heap[d]? = some (.cells c.cells TR (0, 0))
theorem RC.At.lt {c : RC} {d : Nat} {w : World} (h : c.At d w) : d < w.heap.size := (Array.getElem?_eq_some_iff.1 h).1
theorem RC.At.c0 {c : RC} {d : Nat} {w : World} (h : c.At d w) : w.cell? ⟨d, 0, none⟩ = some c.sure := by rw [Lib.cell_of_heap h]; rfl
theorem RC.At.c1 {c : RC} {d : Nat} {w : World} (h : c.At d w) : w.cell? ⟨d, 1, none⟩ = some c.ops := by rw [Lib.cell_of_heap h]; rfl
theorem RC.At.c2 {c : RC} {d : Nat} {w : World} (h : c.At d w) : w.cell? ⟨d, 2, none⟩ = some c.L := by rw [Lib.cell_of_heap h]; rfl
theorem RC.At.c3 {c : RC} {d : Nat} {w : World} (h : c.At d w) : w.cell? ⟨d, 3, none⟩ = some (.int .i64 c.fuse) := by rw [Lib.cell_of_heap h]; rfl
theorem RC.At.c4 {c : RC} {d : Nat} {w : World} (h : c.At d w) : w.cell? ⟨d, 4, none⟩ = some (.int .i64 c.n) := by rw [Lib.cell_of_heap h]; rfl
theorem RC.At.c5 {c : RC} {d : Nat} {w : World} (h : c.At d w) : w.cell? ⟨d, 5, none⟩ = some (.bool c.down) := by rw [Lib.cell_of_heap h]; rfl
theorem RC.At.fz {c : RC} {d : Nat} {w : World} (h : c.At d w) (j : Nat) : w.frozen? ⟨d, j, none⟩ = false := Lib.frozen_of_heap h j
theorem RC.At.set0 {c : RC} {d : Nat} {w : World} (h : c.At d w) (x : Value) : RC.At { c with sure := x } d (w.setCell ⟨d, 0, none⟩ x) := heap_setCell h 0 _
theorem RC.At.set1 {c : RC} {d : Nat} {w : World} (h : c.At d w) (x : Value) : RC.At { c with ops := x } d (w.setCell ⟨d, 1, none⟩ x) := heap_setCell h 1 _
theorem RC.At.set2 {c : RC} {d : Nat} {w : World} (h : c.At d w) (x : Value) : RC.At { c with L := x } d (w.setCell ⟨d, 2, none⟩ x) := heap_setCell h 2 _
theorem RC.At.set3 {c : RC} {d : Nat} {w : World} (h : c.At d w) (x : Int) : RC.At { c with fuse := x } d (w.setCell ⟨d, 3, none⟩ (.int .i64 x)) := heap_setCell h 3 _
theorem RC.At.set4 {c : RC} {d : Nat} {w : World} (h : c.At d w) (x : Int) : RC.At { c with n := x } d (w.setCell ⟨d, 4, none⟩ (.int .i64 x)) := heap_setCell h 4 _
theorem RC.At.set5 {c : RC} {d : Nat} {w : World} (h : c.At d w) (x : Bool) : RC.At { c with down := x } d (w.setCell ⟨d, 5, none⟩ (.bool x)) := heap_setCell h 5 _

set_option maxRecDepth 100000 in
set_option maxHeartbeats 1000000 in
theorem do_fuse (d : Nat) (c : RC) (k : Int) (n t b : ByteArray) (w : World) (h : c.At d w) (hf : c.fuse = 0) :
    Calls Tryz.prog 68 #[.pointer (some ⟨d, 0, none⟩), opR k n t b] w fun e w' => e = .returned (.int .i64 6) ∧ RC.At { c with down := true } d w' ∧ Kp (· = d) w w' := by
  have h1 : c.At d (w.alloc (.cells #[.int .i64 k, .string n, .string t, .string b] TO)) := (Deep.blk_alloc_lt _ _ _ h.lt).trans h
  have hbl : Below w.heap.size w (w.alloc (.cells #[.int .i64 k, .string n, .string t, .string b] TO)) := (Below.refl _ _).alloc (Nat.le_refl _) _
  have c3 : (w.alloc (.cells #[.int .i64 k, .string n, .string t, .string b] TO)).cell? ⟨d, 3, none⟩ = some (.int .i64 0) := by rw [h1.c3, hf]
  have c5 := h1.c5
  have f5 := h1.fz 5
  clear hf
  go_enter Tryz.func68, Tryz.ntmps68
  go_wp2
  go_ret
  exact ⟨rfl, h1.set5 true, Kp.setCell (S := (· = d)) (Kp.of_below hbl) (p := ⟨d, 5, none⟩) (fun _ => rfl) _⟩
end Dk
namespace Dk
open Go Go.Proofs Go.RowKit Go.Maps

set_option maxRecDepth 100000 in
set_option maxHeartbeats 1000000 in
theorem do_sync_some (d : Nat) (c : RC) (ao : Option Addr) (m cap : Nat) (hL : c.L = .slice ao m cap) (n t b : ByteArray) (w : World) (h : c.At d w) (h0 : 0 < c.fuse) (hf : c.fuse ≤ 9223372036854775807) (hn : 0 ≤ c.n) (hn1 : c.n < 9223372036854775807) :
    Calls Tryz.prog 68 #[.pointer (some ⟨d, 0, none⟩), opR 0 n t b] w fun e w' => e = .returned (.int .i64 0) ∧ w' = ((((w.alloc (.cells #[.int .i64 0, .string n, .string t, .string b] TO)).setCell ⟨d, 3, none⟩ (.int .i64 (c.fuse - 1))).setCell ⟨d, 4, none⟩ (.int .i64 (c.n + 1))).setCell ⟨d, 0, none⟩ (.slice ao m cap)).setCell ⟨d, 1, none⟩ (.slice none 0 0) := by
  have h1 : c.At d (w.alloc (.cells #[.int .i64 0, .string n, .string t, .string b] TO)) := (Deep.blk_alloc_lt _ _ _ h.lt).trans h
  have hb0 := Deep.blk_alloc_new w (.cells #[.int .i64 0, .string n, .string t, .string b] TO)
  have e0 : (w.alloc (.cells #[.int .i64 0, .string n, .string t, .string b] TO)).cell? ⟨w.heap.size, 0, none⟩ = some (.int .i64 0) := by rw [Lib.cell_of_heap hb0]; rfl
  have hne : ¬ w.heap.size = d := by have := h.lt; omega
  have hne' : ¬ d = w.heap.size := by have := h.lt; omega
  have c3 := h1.c3
  have f3 := h1.fz 3
  have h2 := h1.set3 (c.fuse - 1)
  have c4 := h2.c4
  have f4 := h2.fz 4
  have h3 := h2.set4 (c.n + 1)
  have c2 := h3.c2
  have c0 := h3.c0
  have f0 := h3.fz 0
  have h4 := h3.set0 (.slice ao m cap)
  have c1 := h4.c1
  have f1 := h4.fz 1
  have k1 : ¬ c.fuse = 0 := by omega
  have k2 : (c.fuse == 0) = false := by simpa using k1
  have eB : (((w.alloc (.cells #[.int .i64 0, .string n, .string t, .string b] TO)).setCell ⟨d, 3, none⟩ (.int .i64 (c.fuse - 1))).setCell ⟨d, 4, none⟩ (.int .i64 (c.n + 1))).cell? ⟨w.heap.size, 0, none⟩ = some (.int .i64 0) := by
    rw [World.cell?_setCell_far _ _ _ _ (by simp [hne']), World.cell?_setCell_far _ _ _ _ (by simp [hne'])]; exact e0
  simp only at c0 c1 c2 c4
  rw [hL] at c2
  clear e0
  generalize c.sure = z0 at *
  generalize c.ops = z1 at *
  generalize c.fuse = x at *
  generalize c.n = y at *
  clear h h1 h3 h4 hb0 hL h2
  go_enter Tryz.func68, Tryz.ntmps68
  go_wp2
  go_ret
  trivial

set_option maxRecDepth 100000 in
set_option maxHeartbeats 1000000 in
theorem do_sync_none (d : Nat) (c : RC) (ao : Option Addr) (m cap : Nat) (hL : c.L = .slice ao m cap) (n t b : ByteArray) (w : World) (h : c.At d w) (h0 : c.fuse < 0) (hf : -9223372036854775808 ≤ c.fuse) (hn : 0 ≤ c.n) (hn1 : c.n < 9223372036854775807) :
    Calls Tryz.prog 68 #[.pointer (some ⟨d, 0, none⟩), opR 0 n t b] w fun e w' => e = .returned (.int .i64 0) ∧ w' = (((w.alloc (.cells #[.int .i64 0, .string n, .string t, .string b] TO)).setCell ⟨d, 4, none⟩ (.int .i64 (c.n + 1))).setCell ⟨d, 0, none⟩ (.slice ao m cap)).setCell ⟨d, 1, none⟩ (.slice none 0 0) := by
  have h1 : c.At d (w.alloc (.cells #[.int .i64 0, .string n, .string t, .string b] TO)) := (Deep.blk_alloc_lt _ _ _ h.lt).trans h
  have hb0 := Deep.blk_alloc_new w (.cells #[.int .i64 0, .string n, .string t, .string b] TO)
  have e0 : (w.alloc (.cells #[.int .i64 0, .string n, .string t, .string b] TO)).cell? ⟨w.heap.size, 0, none⟩ = some (.int .i64 0) := by rw [Lib.cell_of_heap hb0]; rfl
  have hne : ¬ w.heap.size = d := by have := h.lt; omega
  have hne' : ¬ d = w.heap.size := by have := h.lt; omega
  have c3 := h1.c3
  have c4 := h1.c4
  have f4 := h1.fz 4
  have h3 := h1.set4 (c.n + 1)
  have c2 := h3.c2
  have c0 := h3.c0
  have f0 := h3.fz 0
  have h4 := h3.set0 (.slice ao m cap)
  have c1 := h4.c1
  have f1 := h4.fz 1
  have k1 : ¬ c.fuse = 0 := by omega
  have k2 : (c.fuse == 0) = false := by simpa using k1
  have eB : ((w.alloc (.cells #[.int .i64 0, .string n, .string t, .string b] TO)).setCell ⟨d, 4, none⟩ (.int .i64 (c.n + 1))).cell? ⟨w.heap.size, 0, none⟩ = some (.int .i64 0) := by
    rw [World.cell?_setCell_far _ _ _ _ (by simp [hne'])]; exact e0
  simp only at c0 c1 c2 c4
  rw [hL] at c2
  clear e0
  generalize c.sure = z0 at *
  generalize c.ops = z1 at *
  generalize c.fuse = x at *
  generalize c.n = y at *
  clear h h1 h3 h4 hb0 hL
  go_enter Tryz.func68, Tryz.ntmps68
  go_wp2
  go_ret
  trivial
end Dk
namespace Dk
open Go Go.Proofs Go.RowKit Go.Maps

set_option maxRecDepth 100000 in
theorem may_any (s : ByteArray) (w : World) : Calls Tryz.prog 67 #[.string s] w fun e w' => e = .returned (.bool (nameB s)) ∧ w' = w := by
  go_enter Tryz.func67, Tryz.ntmps67
  go_wp2
  all_goals (go_ret; exact ⟨by simp_all [nameB], rfl⟩)
end Dk
namespace Dk
open Go Go.Proofs Go.RowKit Go.Maps

/-- What a Read tells. -/
def rreadF (down : Bool) (l : List Fl) (f : ByteArray) : ByteArray × Int :=
  if down = true then (⟨#[]⟩, 6) else if okF l f = true then (getF l f, 0) else (⟨#[]⟩, 4)
set_option maxRecDepth 100000 in
set_option maxHeartbeats 1000000 in
theorem rread_any (d : Nat) (c : RC) (l : List Fl) (f : ByteArray) (w : World) (h : c.At d w) (hF : FL c.L l w) (hl : l.length ≤ 1000) :
    Calls Tryz.prog 33 #[.pointer (some ⟨d, 0, none⟩), .string f] w fun e w' => e = .returned (.tuple #[.string (rreadF c.down l f).1, .int .i64 (rreadF c.down l f).2]) ∧ ∃ n, w' = w.drewN n := by
  obtain ⟨ao, cap, hL, hao⟩ := hF.form
  have c2 := h.c2
  have c5 := h.c5
  rw [hL] at c2 hF
  generalize c.down = down at *
  clear hL h
  by_cases h1 : down = true
  · subst h1
    have e : Hid (rreadF true l f = (⟨#[]⟩, 6)) := Lib.hid rfl
    clear hao
    go_enter Tryz.func33, Tryz.ntmps33
    go_wp2_with (first
      | (go_at_call 66; refine (at_any _ l f _ hF hl).mono ?_; rintro e w1 ⟨rfl, dn, rfl⟩; have c5' : (w.drewN dn).cell? ⟨d, 5, none⟩ = some (.bool true) := c5)
      | fail)
    go_ret2
    rw [e.out]
    exact ⟨rfl, dn, rfl⟩
  · obtain rfl : down = false := by simpa using h1
    by_cases hok : okF l f = true
    · have hk := okF_lt hok
      obtain ⟨g, rfl⟩ := hao.resolve_left (by omega)
      have e : Hid (rreadF false l f = (l[atN l f].2, 0)) := Lib.hid (by unfold rreadF; rw [if_neg (by simp), if_pos hok, getF_at hk])
      have s1 := (hF.file _ hk).2
      clear h1
      generalize l[atN l f].2 = x at *
      go_enter Tryz.func33, Tryz.ntmps33
      go_wp2_with (first
        | (go_at_call 66; refine (at_any _ l f _ hF hl).mono ?_; rw [hok]; rintro e w1 ⟨rfl, dn, rfl⟩; have c5' : (w.drewN dn).cell? ⟨d, 5, none⟩ = some (.bool false) := c5; have c2' : (w.drewN dn).cell? ⟨d, 2, none⟩ = some (.slice (some ⟨g, 0, none⟩) l.length cap) := c2; have s2 : (w.drewN dn).cell? ⟨g, atN l f * 2 + 1, none⟩ = some (.string x) := s1)
        | fail)
      go_ret2
      rw [e.out]
      exact ⟨rfl, dn, rfl⟩
    · have e : Hid (rreadF false l f = (⟨#[]⟩, 4)) := Lib.hid (by unfold rreadF; rw [if_neg (by simp), if_neg hok])
      have hok' : okF l f = false := by simpa using hok
      clear hao h1 hok
      go_enter Tryz.func33, Tryz.ntmps33
      go_wp2_with (first
        | (go_at_call 66; refine (at_any _ l f _ hF hl).mono ?_; rw [hok']; rintro e w1 ⟨rfl, dn, rfl⟩; have c5' : (w.drewN dn).cell? ⟨d, 5, none⟩ = some (.bool false) := c5)
        | fail)
      go_ret2
      rw [e.out]
      exact ⟨rfl, dn, rfl⟩
end Dk
namespace Dk
open Go Go.Proofs Go.RowKit Go.Maps

set_option maxRecDepth 100000 in
theorem rfuse_any (d : Nat) (c : RC) (x : Int) (w : World) (hA : c.At d w) :
    Calls Tryz.prog 30 #[.pointer (some ⟨d, 0, none⟩), .int .i64 x] w fun e w' => e = .returned (.tuple #[]) ∧ RC.At (if c.down = true then c else { c with fuse := max x (-1) }) d w' ∧ Kp (· = d) w w' := by
  have c5 := hA.c5
  by_cases h1 : c.down = true
  · rw [if_pos h1]
    rw [h1] at c5
    go_enter Tryz.func30, Tryz.ntmps30
    go_wp2
    go_end0
    exact ⟨rfl, hA, Kp.refl _ _⟩
  · have h1' : c.down = false := by simpa using h1
    rw [if_neg h1]
    rw [h1'] at c5
    clear h1 h1'
    have c3 := hA.c3
    have f3 := hA.fz 3
    go_enter Tryz.func30, Tryz.ntmps30
    go_wp2
    all_goals
      go_end0
      first
        | (rw [Int.max_eq_left (by omega)]; exact ⟨rfl, hA.set3 _, Kp.setCell (S := (· = d)) (Kp.refl _ w) (p := ⟨d, 3, none⟩) (fun _ => rfl) _⟩)
        | (rw [Int.max_eq_right (by omega)]; exact ⟨rfl, hA.set3 _, Kp.setCell (S := (· = d)) (Kp.refl _ w) (p := ⟨d, 3, none⟩) (fun _ => rfl) _⟩)
end Dk
namespace Dk
open Go Go.Proofs Go.RowKit Go.Maps

set_option maxRecDepth 100000 in
theorem rnew_any (w : World) :
    Calls Tryz.prog 19 #[] w fun e w' => e = .returned (.pointer (some ⟨w.heap.size, 0, none⟩)) ∧ RC.At ⟨.slice none 0 0, .slice none 0 0, .slice none 0 0, -1, 0, false⟩ w.heap.size w' ∧ Below w.heap.size w w' := by
  have hb := Deep.blk_alloc_new w (.cells #[.slice none 0 0, .slice none 0 0, .slice none 0 0, .int .i64 (-1), .int .i64 0, .bool false] TR)
  go_enter Tryz.func19, Tryz.ntmps19
  go_wp2
  go_ret
  exact ⟨rfl, hb, (Below.refl _ _).alloc (Nat.le_refl _) _⟩
end Dk
namespace Dk
open Go Go.Proofs Go.RowKit Go.Maps

/-- What becomes of it. -/
def RC.sync (c : RC) : RC × Int :=
  if c.down = true then (c, 6) else if c.fuse = 0 then ({ c with down := true }, 6)
  else ({ c with sure := c.L, ops := .slice none 0 0, n := c.n + 1, fuse := if 0 < c.fuse then c.fuse - 1 else c.fuse }, 0)
/-- `do` at a sync. -/
theorem do_sync (d : Nat) (c : RC) (ao : Option Addr) (m cap : Nat) (hL : c.L = .slice ao m cap) (n t b : ByteArray) (w : World) (h : c.At d w) (hd : c.down = false) (hf : -9223372036854775808 ≤ c.fuse ∧ c.fuse ≤ 9223372036854775807) (hn : 0 ≤ c.n) (hn1 : c.n < 9223372036854775807) :
    Calls Tryz.prog 68 #[.pointer (some ⟨d, 0, none⟩), opR 0 n t b] w fun e w' => e = .returned (.int .i64 c.sync.2) ∧ c.sync.1.At d w' ∧ Kp (· = d) w w' := by
  have h1 : c.At d (w.alloc (.cells #[.int .i64 0, .string n, .string t, .string b] TO)) := (Deep.blk_alloc_lt _ _ _ h.lt).trans h
  have hk1 : Kp (· = d) w (w.alloc (.cells #[.int .i64 0, .string n, .string t, .string b] TO)) := Kp.of_below ((Below.refl _ _).alloc (Nat.le_refl _) _)
  have hnd : ¬ c.down = true := by rw [hd]; simp
  by_cases h0 : c.fuse = 0
  · have e : c.sync = ({ c with down := true }, 6) := by unfold RC.sync; rw [if_neg hnd, if_pos h0]
    rw [e]
    exact do_fuse d c 0 n t b w h h0
  · by_cases hp : 0 < c.fuse
    · have e : c.sync = ({ c with sure := .slice ao m cap, ops := .slice none 0 0, n := c.n + 1, fuse := c.fuse - 1 }, 0) := by unfold RC.sync; rw [if_neg hnd, if_neg h0, if_pos hp, hL]
      rw [e]
      refine (do_sync_some d c ao m cap hL n t b w h hp hf.2 hn hn1).mono ?_
      rintro e w' ⟨rfl, rfl⟩
      exact ⟨rfl, (((h1.set3 (c.fuse - 1)).set4 (c.n + 1)).set0 (.slice ao m cap)).set1 (.slice none 0 0), Kp.setCell (Kp.setCell (Kp.setCell (Kp.setCell hk1 (p := ⟨d, 3, none⟩) (fun _ => rfl) _) (p := ⟨d, 4, none⟩) (fun _ => rfl) _) (p := ⟨d, 0, none⟩) (fun _ => rfl) _) (p := ⟨d, 1, none⟩) (fun _ => rfl) _⟩
    · have e : c.sync = ({ c with sure := .slice ao m cap, ops := .slice none 0 0, n := c.n + 1 }, 0) := by unfold RC.sync; rw [if_neg hnd, if_neg h0, if_neg hp, hL]
      rw [e]
      refine (do_sync_none d c ao m cap hL n t b w h (by omega) hf.1 hn hn1).mono ?_
      rintro e w' ⟨rfl, rfl⟩
      exact ⟨rfl, ((h1.set4 (c.n + 1)).set0 (.slice ao m cap)).set1 (.slice none 0 0), Kp.setCell (Kp.setCell (Kp.setCell hk1 (p := ⟨d, 4, none⟩) (fun _ => rfl) _) (p := ⟨d, 0, none⟩) (fun _ => rfl) _) (p := ⟨d, 1, none⟩) (fun _ => rfl) _⟩
set_option maxRecDepth 100000 in
theorem rsync_any (d : Nat) (c : RC) (ao : Option Addr) (m cap : Nat) (hL : c.L = .slice ao m cap) (w : World) (hA : c.At d w) (hf : -9223372036854775808 ≤ c.fuse ∧ c.fuse ≤ 9223372036854775807) (hn : 0 ≤ c.n) (hn1 : c.n < 9223372036854775807) :
    Calls Tryz.prog 28 #[.pointer (some ⟨d, 0, none⟩)] w fun e w' => e = .returned (.int .i64 c.sync.2) ∧ c.sync.1.At d w' ∧ Kp (· = d) w w' := by
  have c5 := hA.c5
  by_cases h1 : c.down = true
  · have e : c.sync = (c, 6) := by unfold RC.sync; rw [if_pos h1]
    rw [e]
    rw [h1] at c5
    clear hL hf hn hn1 e h1
    go_enter Tryz.func28, Tryz.ntmps28
    go_wp2
    go_ret
    exact ⟨rfl, hA, Kp.refl _ _⟩
  · have h1' : c.down = false := by simpa using h1
    rw [h1'] at c5
    have hdo := do_sync d c ao m cap hL ⟨#[]⟩ ⟨#[]⟩ ⟨#[]⟩ w hA h1' hf hn hn1
    clear hL hf hn hn1 h1 h1'
    go_enter Tryz.func28, Tryz.ntmps28
    go_wp2_with (first
      | (go_at_call 68; refine hdo.mono ?_; rintro e w1 ⟨rfl, hs, hk⟩)
      | fail)
    go_ret
    exact ⟨rfl, hs, hk⟩
end Dk
namespace Dk
open Go Go.Proofs Go.RowKit Go.Maps

set_option maxRecDepth 100000 in
set_option maxHeartbeats 1000000 in
/-- A Write that can't be done. -/
theorem rwrite_err (d : Nat) (c : RC) (l : List Fl) (f b : ByteArray) (w : World) (hA : c.At d w) (hF : FL c.L l w) (hl : l.length ≤ 1000) (E : Int)
    (hE : c.down = true ∧ E = 6 ∨ c.down = false ∧ nameB f = false ∧ E = 1 ∨ c.down = false ∧ nameB f = true ∧ okF l f = false ∧ 100 ≤ l.length ∧ E = 5) :
    Calls Tryz.prog 22 #[.pointer (some ⟨d, 0, none⟩), .string f, .string b] w fun e w' => e = .returned (.int .i64 E) ∧ ∃ n, w' = w.drewN n := by
  obtain ⟨ao, cap, hL, hao⟩ := hF.form
  have c2 := hA.c2
  have c5 := hA.c5
  rw [hL] at c2 hF
  generalize c.down = down at *
  clear hL hA hao
  rcases hE with ⟨rfl, rfl⟩ | ⟨rfl, hn, rfl⟩ | ⟨rfl, hn, hok, h100, rfl⟩
  · go_enter Tryz.func22, Tryz.ntmps22
    go_wp2_with (first
      | (go_at_call 66; refine (at_any _ l f _ hF hl).mono ?_; rintro e w1 ⟨rfl, dn, rfl⟩; have c5' : (w.drewN dn).cell? ⟨d, 5, none⟩ = some (.bool true) := c5)
      | fail)
    go_ret
    exact ⟨rfl, dn, rfl⟩
  · go_enter Tryz.func22, Tryz.ntmps22
    go_wp2_with (first
      | (go_at_call 66; refine (at_any _ l f _ hF hl).mono ?_; rintro e w1 ⟨rfl, dn, rfl⟩; have c5' : (w.drewN dn).cell? ⟨d, 5, none⟩ = some (.bool false) := c5)
      | (go_at_call 67; refine (may_any f _).mono ?_; rw [hn]; rintro e w1 ⟨rfl, rfl⟩)
      | fail)
    go_ret
    exact ⟨rfl, dn, rfl⟩
  · go_enter Tryz.func22, Tryz.ntmps22
    go_wp2_with (first
      | (go_at_call 66; refine (at_any _ l f _ hF hl).mono ?_; rw [hok]; rintro e w1 ⟨rfl, dn, rfl⟩; have c5' : (w.drewN dn).cell? ⟨d, 5, none⟩ = some (.bool false) := c5; have c2' : (w.drewN dn).cell? ⟨d, 2, none⟩ = some (.slice ao l.length cap) := c2)
      | (go_at_call 67; refine (may_any f _).mono ?_; rw [hn]; rintro e w1 ⟨rfl, rfl⟩)
      | fail)
    go_ret
    exact ⟨rfl, dn, rfl⟩
end Dk
namespace Dk
open Go Go.Proofs Go.RowKit Go.Maps

set_option maxRecDepth 100000 in
set_option maxHeartbeats 1000000 in
theorem rmove_err (d : Nat) (c : RC) (l : List Fl) (f t : ByteArray) (w : World) (hA : c.At d w) (hF : FL c.L l w) (hl : l.length ≤ 1000) (E : Int)
    (hE : c.down = true ∧ E = 6 ∨ c.down = false ∧ okF l f = false ∧ E = 4 ∨ c.down = false ∧ okF l f = true ∧ nameB t = false ∧ E = 1) :
    Calls Tryz.prog 24 #[.pointer (some ⟨d, 0, none⟩), .string f, .string t] w fun e w' => e = .returned (.int .i64 E) ∧ ∃ n, w' = w.drewN n := by
  obtain ⟨ao, cap, hL, hao⟩ := hF.form
  have c2 := hA.c2
  have c5 := hA.c5
  rw [hL] at c2 hF
  generalize c.down = down at *
  clear hL hA hao
  rcases hE with ⟨rfl, rfl⟩ | ⟨rfl, hok, rfl⟩ | ⟨rfl, hok, hn, rfl⟩
  · go_enter Tryz.func24, Tryz.ntmps24
    go_wp2_with (first
      | (go_at_call 66; refine (at_any _ l f _ hF hl).mono ?_; rintro e w1 ⟨rfl, dn, rfl⟩; have c5' : (w.drewN dn).cell? ⟨d, 5, none⟩ = some (.bool true) := c5; have c2' : (w.drewN dn).cell? ⟨d, 2, none⟩ = some (.slice ao l.length cap) := c2)
      | fail)
    go_ret
    exact ⟨rfl, dn, rfl⟩
  · go_enter Tryz.func24, Tryz.ntmps24
    go_wp2_with (first
      | (go_at_call 66; refine (at_any _ l f _ hF hl).mono ?_; rw [hok]; rintro e w1 ⟨rfl, dn, rfl⟩; have c5' : (w.drewN dn).cell? ⟨d, 5, none⟩ = some (.bool false) := c5; have c2' : (w.drewN dn).cell? ⟨d, 2, none⟩ = some (.slice ao l.length cap) := c2)
      | fail)
    go_ret
    exact ⟨rfl, dn, rfl⟩
  · go_enter Tryz.func24, Tryz.ntmps24
    go_wp2_with (first
      | (go_at_call 66; refine (at_any _ l f _ hF hl).mono ?_; rw [hok]; rintro e w1 ⟨rfl, dn, rfl⟩; have c5' : (w.drewN dn).cell? ⟨d, 5, none⟩ = some (.bool false) := c5; have c2' : (w.drewN dn).cell? ⟨d, 2, none⟩ = some (.slice ao l.length cap) := c2)
      | (go_at_call 67; refine (may_any t _).mono ?_; rw [hn]; rintro e w1 ⟨rfl, rfl⟩)
      | fail)
    go_ret
    exact ⟨rfl, dn, rfl⟩

set_option maxRecDepth 100000 in
set_option maxHeartbeats 1000000 in
theorem rremove_err (d : Nat) (c : RC) (l : List Fl) (f : ByteArray) (w : World) (hA : c.At d w) (hF : FL c.L l w) (hl : l.length ≤ 1000) (E : Int)
    (hE : c.down = true ∧ E = 6 ∨ c.down = false ∧ okF l f = false ∧ E = 4) :
    Calls Tryz.prog 26 #[.pointer (some ⟨d, 0, none⟩), .string f] w fun e w' => e = .returned (.int .i64 E) ∧ ∃ n, w' = w.drewN n := by
  obtain ⟨ao, cap, hL, hao⟩ := hF.form
  have c2 := hA.c2
  have c5 := hA.c5
  rw [hL] at c2 hF
  generalize c.down = down at *
  clear hL hA hao
  rcases hE with ⟨rfl, rfl⟩ | ⟨rfl, hok, rfl⟩
  · go_enter Tryz.func26, Tryz.ntmps26
    go_wp2_with (first
      | (go_at_call 66; refine (at_any _ l f _ hF hl).mono ?_; rintro e w1 ⟨rfl, dn, rfl⟩; have c5' : (w.drewN dn).cell? ⟨d, 5, none⟩ = some (.bool true) := c5; have c2' : (w.drewN dn).cell? ⟨d, 2, none⟩ = some (.slice ao l.length cap) := c2)
      | fail)
    go_ret
    exact ⟨rfl, dn, rfl⟩
  · go_enter Tryz.func26, Tryz.ntmps26
    go_wp2_with (first
      | (go_at_call 66; refine (at_any _ l f _ hF hl).mono ?_; rw [hok]; rintro e w1 ⟨rfl, dn, rfl⟩; have c5' : (w.drewN dn).cell? ⟨d, 5, none⟩ = some (.bool false) := c5; have c2' : (w.drewN dn).cell? ⟨d, 2, none⟩ = some (.slice ao l.length cap) := c2)
      | fail)
    go_ret
    exact ⟨rfl, dn, rfl⟩

set_option maxRecDepth 100000 in
set_option maxHeartbeats 1000000 in
theorem rmove_ok (d : Nat) (c : RC) (l : List Fl) (f t : ByteArray) (w : World) (hA : c.At d w) (hF : FL c.L l w) (hl : l.length ≤ 1000) (hd : c.down = false) (hok : okF l f = true) (hn : nameB t = true) (Q : Ending → World → Prop)
    (hdo : ∀ dn, Calls Tryz.prog 68 #[.pointer (some ⟨d, 0, none⟩), opR 2 f t ⟨#[]⟩] (w.drewN dn) fun e w' => ∃ x : Int, e = .returned (.int .i64 x) ∧ Q (.returned (.int .i64 x)) w') :
    Calls Tryz.prog 24 #[.pointer (some ⟨d, 0, none⟩), .string f, .string t] w Q := by
  obtain ⟨ao, cap, hL, hao⟩ := hF.form
  have c2 := hA.c2
  have c5 := hA.c5
  rw [hL] at c2 hF
  generalize c.down = down at *
  clear hL hA hao
  subst hd
  go_enter Tryz.func24, Tryz.ntmps24
  go_wp2_with (first
      | (go_at_call 66; refine (at_any _ l f _ hF hl).mono ?_; rw [hok]; rintro e w1 ⟨rfl, dn, rfl⟩; have c5' : (w.drewN dn).cell? ⟨d, 5, none⟩ = some (.bool false) := c5; have c2' : (w.drewN dn).cell? ⟨d, 2, none⟩ = some (.slice ao l.length cap) := c2)
      | (go_at_call 67; refine (may_any t _).mono ?_; rw [hn]; rintro e w1 ⟨rfl, rfl⟩)
      | (go_at_call 68; refine (hdo _).mono ?_; rintro e w2 ⟨x, rfl, hq⟩)
      | fail)
  exact hq

set_option maxRecDepth 100000 in
set_option maxHeartbeats 1000000 in
theorem rremove_ok (d : Nat) (c : RC) (l : List Fl) (f : ByteArray) (w : World) (hA : c.At d w) (hF : FL c.L l w) (hl : l.length ≤ 1000) (hd : c.down = false) (hok : okF l f = true) (Q : Ending → World → Prop)
    (hdo : ∀ dn, Calls Tryz.prog 68 #[.pointer (some ⟨d, 0, none⟩), opR 3 f ⟨#[]⟩ ⟨#[]⟩] (w.drewN dn) fun e w' => ∃ x : Int, e = .returned (.int .i64 x) ∧ Q (.returned (.int .i64 x)) w') :
    Calls Tryz.prog 26 #[.pointer (some ⟨d, 0, none⟩), .string f] w Q := by
  obtain ⟨ao, cap, hL, hao⟩ := hF.form
  have c2 := hA.c2
  have c5 := hA.c5
  rw [hL] at c2 hF
  generalize c.down = down at *
  clear hL hA hao
  subst hd
  go_enter Tryz.func26, Tryz.ntmps26
  go_wp2_with (first
      | (go_at_call 66; refine (at_any _ l f _ hF hl).mono ?_; rw [hok]; rintro e w1 ⟨rfl, dn, rfl⟩; have c5' : (w.drewN dn).cell? ⟨d, 5, none⟩ = some (.bool false) := c5; have c2' : (w.drewN dn).cell? ⟨d, 2, none⟩ = some (.slice ao l.length cap) := c2)
      | (go_at_call 68; refine (hdo _).mono ?_; rintro e w2 ⟨x, rfl, hq⟩)
      | fail)
  exact hq

set_option maxRecDepth 100000 in
set_option maxHeartbeats 1000000 in
theorem rwrite_has (d : Nat) (c : RC) (l : List Fl) (f b : ByteArray) (w : World) (hA : c.At d w) (hF : FL c.L l w) (hl : l.length ≤ 1000) (hd : c.down = false) (hok : okF l f = true) (hn : nameB f = true) (Q : Ending → World → Prop)
    (hdo : ∀ dn, Calls Tryz.prog 68 #[.pointer (some ⟨d, 0, none⟩), opR 1 f ⟨#[]⟩ b] (w.drewN dn) fun e w' => ∃ x : Int, e = .returned (.int .i64 x) ∧ Q (.returned (.int .i64 x)) w') :
    Calls Tryz.prog 22 #[.pointer (some ⟨d, 0, none⟩), .string f, .string b] w Q := by
  obtain ⟨ao, cap, hL, hao⟩ := hF.form
  have c2 := hA.c2
  have c5 := hA.c5
  rw [hL] at c2 hF
  generalize c.down = down at *
  clear hL hA hao
  subst hd
  go_enter Tryz.func22, Tryz.ntmps22
  go_wp2_with (first
      | (go_at_call 66; refine (at_any _ l f _ hF hl).mono ?_; rw [hok]; rintro e w1 ⟨rfl, dn, rfl⟩; have c5' : (w.drewN dn).cell? ⟨d, 5, none⟩ = some (.bool false) := c5; have c2' : (w.drewN dn).cell? ⟨d, 2, none⟩ = some (.slice ao l.length cap) := c2)
      | (go_at_call 67; refine (may_any f _).mono ?_; rw [hn]; rintro e w1 ⟨rfl, rfl⟩)
      | (go_at_call 68; refine (hdo _).mono ?_; rintro e w2 ⟨x, rfl, hq⟩)
      | fail)
  exact hq

set_option maxRecDepth 100000 in
set_option maxHeartbeats 1000000 in
theorem rwrite_new (d : Nat) (c : RC) (l : List Fl) (f b : ByteArray) (w : World) (hA : c.At d w) (hF : FL c.L l w) (hl : l.length ≤ 1000) (hd : c.down = false) (hok : okF l f = false) (hn : nameB f = true) (h100 : l.length < 100) (Q : Ending → World → Prop)
    (hdo : ∀ dn, Calls Tryz.prog 68 #[.pointer (some ⟨d, 0, none⟩), opR 1 f ⟨#[]⟩ b] (w.drewN dn) fun e w' => ∃ x : Int, e = .returned (.int .i64 x) ∧ Q (.returned (.int .i64 x)) w') :
    Calls Tryz.prog 22 #[.pointer (some ⟨d, 0, none⟩), .string f, .string b] w Q := by
  obtain ⟨ao, cap, hL, hao⟩ := hF.form
  have c2 := hA.c2
  have c5 := hA.c5
  rw [hL] at c2 hF
  generalize c.down = down at *
  clear hL hA hao
  subst hd
  go_enter Tryz.func22, Tryz.ntmps22
  go_wp2_with (first
      | (go_at_call 66; refine (at_any _ l f _ hF hl).mono ?_; rw [hok]; rintro e w1 ⟨rfl, dn, rfl⟩; have c5' : (w.drewN dn).cell? ⟨d, 5, none⟩ = some (.bool false) := c5; have c2' : (w.drewN dn).cell? ⟨d, 2, none⟩ = some (.slice ao l.length cap) := c2)
      | (go_at_call 67; refine (may_any f _).mono ?_; rw [hn]; rintro e w1 ⟨rfl, rfl⟩)
      | (go_at_call 68; refine (hdo _).mono ?_; rintro e w2 ⟨x, rfl, hq⟩)
      | fail)
  exact hq
end Dk
namespace Dk
open Go Go.Proofs Go.RowKit Go.Maps

/-- An operation of the reference's. -/
structure Op4 where
  k : Int
  n : ByteArray
  t : ByteArray
  b : ByteArray
def Op4.cells (o : Op4) : List Value := [.int .i64 o.k, .string o.n, .string o.t, .string o.b]
def cellsP (l : List Op4) : List Value := l.flatMap Op4.cells
theorem cellsP_length (l : List Op4) : (cellsP l).length = l.length * 4 := by
  induction l with
  | nil => rfl
  | cons x l ih => simp only [cellsP, List.flatMap_cons, List.length_append, List.length_cons] at ih ⊢; rw [ih]; simp [Op4.cells]; omega
theorem infoP : (Tryz.prog.info? TO).map (fun i => (i.zero, i.size, i.bytes)) = some (some (.agg #[.int .i64 0, .string ⟨#[]⟩, .string ⟨#[]⟩, .string ⟨#[]⟩]), 4, 56) := by kernel_rfl
/-- The box of an operation, read whole. -/
theorem load_opR {w : World} {g : Nat} {x y z u : Value} (h : w.heap[g]? = some (.cells #[x, y, z, u] TO (0, 0))) : (loadVar TO ⟨g, 0, none⟩).run Tryz.prog w = .ok (.agg #[x, y, z, u]) w :=
  run_loadVar_row w g _ _ _ _ _ h Tryz.underlying128 rfl (by kernel_rfl)
end Dk
