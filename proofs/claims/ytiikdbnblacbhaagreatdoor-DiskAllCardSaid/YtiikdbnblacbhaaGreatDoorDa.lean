/- The small functions of the disk, walked; their conditions stand in each statement. -/
import Derived.Test.YtiikdbnblacbhaaGreatDoorProg
import Derived.Maps.OwnSet
import Derived.Maps.StringElems
import Derived.WalkKit
import Derived.WalkLawsBesides
import Derived.WalkSpells
import Derived.Outline
import Derived.Lib.Hide
import Derived.Lib.Builder
import Derived.Below
import Derived.Deep.Heap
set_option linter.unusedVariables false
set_option linter.unusedSimpArgs false
set_option linter.unusedSectionVars false
namespace Dk
open Go Go.Proofs Go.RowKit Go.Maps

/-- May a file be named so? -/
def nameB (s : ByteArray) : Bool := !s.toList.isEmpty && decide ((s.size : Int) ≤ 100)

theorem name_any (s : ByteArray) (w : World) : Calls Tryz.prog 106 #[.string s] w fun e w' => e = .returned (.bool (nameB s)) ∧ w' = w := by
  go_enter Tryz.func106, Tryz.ntmps106
  go_wp2
  all_goals (go_ret; exact ⟨by simp_all [nameB], rfl⟩)

/-- A disk's own cells. -/
structure DC where
  F : Nat
  S : Nat
  since : Value
  n : Int
  fuse : Int
  down : Bool
def DC.cells (c : DC) : Array Value := #[.map (some c.F), .map (some c.S), c.since, .int .i64 c.n, .int .i64 c.fuse, .bool c.down]
def DC.At (c : DC) (d : Nat) (w : World) : Prop := w.heap[d]? = some (.cells c.cells 80 (0, 0))
theorem DC.At.lt {c : DC} {d : Nat} {w : World} (h : c.At d w) : d < w.heap.size := (Array.getElem?_eq_some_iff.1 h).1
theorem DC.At.c0 {c : DC} {d : Nat} {w : World} (h : c.At d w) : w.cell? ⟨d, 0, none⟩ = some (.map (some c.F)) := by rw [Lib.cell_of_heap h]; rfl
theorem DC.At.c1 {c : DC} {d : Nat} {w : World} (h : c.At d w) : w.cell? ⟨d, 1, none⟩ = some (.map (some c.S)) := by rw [Lib.cell_of_heap h]; rfl
theorem DC.At.c2 {c : DC} {d : Nat} {w : World} (h : c.At d w) : w.cell? ⟨d, 2, none⟩ = some c.since := by rw [Lib.cell_of_heap h]; rfl
theorem DC.At.c3 {c : DC} {d : Nat} {w : World} (h : c.At d w) : w.cell? ⟨d, 3, none⟩ = some (.int .i64 c.n) := by rw [Lib.cell_of_heap h]; rfl
theorem DC.At.c4 {c : DC} {d : Nat} {w : World} (h : c.At d w) : w.cell? ⟨d, 4, none⟩ = some (.int .i64 c.fuse) := by rw [Lib.cell_of_heap h]; rfl
theorem DC.At.c5 {c : DC} {d : Nat} {w : World} (h : c.At d w) : w.cell? ⟨d, 5, none⟩ = some (.bool c.down) := by rw [Lib.cell_of_heap h]; rfl
theorem DC.At.fz {c : DC} {d : Nat} {w : World} (h : c.At d w) (j : Nat) : w.frozen? ⟨d, j, none⟩ = false := Lib.frozen_of_heap h j
theorem heap_setCell {w : World} {b : Nat} {cs : Array Value} {T : TypeId} {fz : Nat × Nat} (h : w.heap[b]? = some (.cells cs T fz)) (j : Nat) (v : Value) : (w.setCell ⟨b, j, none⟩ v).heap[b]? = some (.cells (cs.setIfInBounds j v) T fz) := by
  simp [World.setCell, Array.getElem?_modify, h]
theorem DC.At.set3 {c : DC} {d : Nat} {w : World} (h : c.At d w) (x : Int) : DC.At { c with n := x } d (w.setCell ⟨d, 3, none⟩ (.int .i64 x)) := heap_setCell h 3 _
theorem DC.At.set4 {c : DC} {d : Nat} {w : World} (h : c.At d w) (x : Int) : DC.At { c with fuse := x } d (w.setCell ⟨d, 4, none⟩ (.int .i64 x)) := heap_setCell h 4 _
theorem DC.At.set5 {c : DC} {d : Nat} {w : World} (h : c.At d w) (x : Bool) : DC.At { c with down := x } d (w.setCell ⟨d, 5, none⟩ (.bool x)) := heap_setCell h 5 _

theorem down_any (c : DC) (d : Nat) (w : World) (h : c.At d w) : Calls Tryz.prog 35 #[.pointer (some ⟨d, 0, none⟩)] w fun e w' => e = .returned (.bool c.down) ∧ w' = w := by
  have c5 := h.c5
  clear h
  go_enter Tryz.func35, Tryz.ntmps35
  go_wp2
  go_ret
  exact ⟨rfl, rfl⟩

theorem burns_down (c : DC) (d : Nat) (w : World) (h : c.At d w) (h0 : c.fuse = 0) : Calls Tryz.prog 69 #[.pointer (some ⟨d, 0, none⟩)] w fun e w' => e = .returned (.bool false) ∧ w' = w.setCell ⟨d, 5, none⟩ (.bool true) := by
  have c4 := h.c4
  have c5 := h.c5
  have f5 := h.fz 5
  rw [h0] at c4
  clear h h0
  go_enter Tryz.func69, Tryz.ntmps69
  go_wp2
  go_ret
  exact ⟨rfl, rfl⟩
theorem burns_some (c : DC) (d : Nat) (w : World) (h : c.At d w) (h0 : 0 < c.fuse) (h1 : c.fuse ≤ 9223372036854775807) (hn : 0 ≤ c.n) (hn1 : c.n < 9223372036854775807) : Calls Tryz.prog 69 #[.pointer (some ⟨d, 0, none⟩)] w fun e w' => e = .returned (.bool true) ∧ w' = (w.setCell ⟨d, 4, none⟩ (.int .i64 (c.fuse - 1))).setCell ⟨d, 3, none⟩ (.int .i64 (c.n + 1)) := by
  have c4 := h.c4
  have f4 := h.fz 4
  have c3 := (h.set4 (c.fuse - 1)).c3
  have f3 := (h.set4 (c.fuse - 1)).fz 3
  have k1 : ¬ c.fuse = 0 := by omega
  generalize c.fuse = x at *
  simp only at c3
  generalize c.n = y at *
  clear h
  go_enter Tryz.func69, Tryz.ntmps69
  go_wp2
  go_ret
  exact ⟨rfl, rfl⟩
theorem burns_none (c : DC) (d : Nat) (w : World) (h : c.At d w) (h0 : c.fuse < 0) (h1 : -9223372036854775808 ≤ c.fuse) (hn : 0 ≤ c.n) (hn1 : c.n < 9223372036854775807) : Calls Tryz.prog 69 #[.pointer (some ⟨d, 0, none⟩)] w fun e w' => e = .returned (.bool true) ∧ w' = w.setCell ⟨d, 3, none⟩ (.int .i64 (c.n + 1)) := by
  have c4 := h.c4
  have c3 := h.c3
  have f3 := h.fz 3
  have k1 : ¬ c.fuse = 0 := by omega
  generalize c.fuse = x at *
  generalize c.n = y at *
  clear h
  go_enter Tryz.func69, Tryz.ntmps69
  go_wp2
  go_ret
  exact ⟨rfl, rfl⟩
end Dk
namespace Dk
open Go Go.Proofs Go.RowKit Go.Maps

abbrev MF := 77
abbrev TS := 9
theorem keyS : Keyed Tryz.prog TS := string_keyed Tryz.underlying9
theorem zeroS (w : World) : (zeroValue TS).run Tryz.prog w = .ok (.string ⟨#[]⟩) w := by kernel_rfl
/-- Files, as a map. -/
def Files (w : World) (b n : Nat) (D : DataW Unit) : Prop := w.ownsMap Tryz.prog TS (plainElem Tryz.prog TS) b n D
def kl (s : ByteArray) : Lit := .string s.data.toList
theorem keyOfS {s : ByteArray} (h : s.size ≤ maxLen) : keyOf Tryz.prog TS (.string s) = some (kl s) := WideMaps.keyOf_string_mk Tryz.underlying9 h
theorem empS : plainElem (H := Unit) Tryz.prog TS (.string ⟨#[]⟩) = some (.lit (.string []), []) := plainElem_string Tryz.underlying9 (by unfold maxLen; decide)

/-- Why an operation can't be done. -/
def canE (k : Int) (f b : ByteArray) (D : DataW Unit) : Int :=
  if k ≠ 1 ∧ Maps.has D (kl f) = false then 4
  else if (k = 1 ∧ nameB f = false) ∨ (k = 2 ∧ nameB b = false) then 1
  else if k = 1 ∧ Maps.has D (kl f) = false ∧ 100 ≤ Maps.size D then 5 else 0

set_option maxRecDepth 100000 in
set_option maxHeartbeats 1000000 in
theorem can_move_none (f b : ByteArray) (D : DataW Unit) (bF n : Nat) (w : World) (hown : Files w bF n D) (hf : f.size ≤ maxLen) (hh : Maps.has D (kl f) = false) :
    Calls Tryz.prog 60 #[.map (some bF), .agg #[.int .i64 2, .string f, .string b]] w fun e w' => e = .returned (.int .i64 4) ∧ Below w.heap.size w w' := by
  have hkey := keyOfS hf
  unfold Files at hown
  have hown1 := hown.alloc (.cells #[.int .i64 2, .string f, .string b] 114)
  go_enter Tryz.func60, Tryz.ntmps60
  go_wp2_with (first | (at_lookup; refine wpList_lookup_own_ok _ rfl _ _ 77 rfl TS TS keyS Tryz.underlying77 _ (zeroS _) (.lit (.string [])) [] empS bF n D rfl hown1 _ _ rfl hkey ?_; intro v ps hv; obtain ⟨s, rfl, _, _⟩ := plainElem_string_inv Tryz.underlying9 hv; clear hv) | (go_at_call 106; refine (name_any _ _).mono ?_; rintro e w' ⟨rfl, rfl⟩) | (at_len; refine wpList_len_own _ rfl _ 77 rfl TS TS Tryz.underlying77 _ bF n D rfl hown1 ?_))
  go_ret
  exact ⟨rfl, (Below.refl _ _).alloc (Nat.le_refl _) _⟩
set_option maxRecDepth 100000 in
set_option maxHeartbeats 1000000 in
theorem can_drop_none (f b : ByteArray) (D : DataW Unit) (bF n : Nat) (w : World) (hown : Files w bF n D) (hf : f.size ≤ maxLen) (hh : Maps.has D (kl f) = false) :
    Calls Tryz.prog 60 #[.map (some bF), .agg #[.int .i64 3, .string f, .string b]] w fun e w' => e = .returned (.int .i64 4) ∧ Below w.heap.size w w' := by
  have hkey := keyOfS hf
  unfold Files at hown
  have hown1 := hown.alloc (.cells #[.int .i64 3, .string f, .string b] 114)
  go_enter Tryz.func60, Tryz.ntmps60
  go_wp2_with (first | (at_lookup; refine wpList_lookup_own_ok _ rfl _ _ 77 rfl TS TS keyS Tryz.underlying77 _ (zeroS _) (.lit (.string [])) [] empS bF n D rfl hown1 _ _ rfl hkey ?_; intro v ps hv; obtain ⟨s, rfl, _, _⟩ := plainElem_string_inv Tryz.underlying9 hv; clear hv) | (go_at_call 106; refine (name_any _ _).mono ?_; rintro e w' ⟨rfl, rfl⟩) | (at_len; refine wpList_len_own _ rfl _ 77 rfl TS TS Tryz.underlying77 _ bF n D rfl hown1 ?_))
  go_ret
  exact ⟨rfl, (Below.refl _ _).alloc (Nat.le_refl _) _⟩
set_option maxRecDepth 100000 in
set_option maxHeartbeats 1000000 in
theorem can_move_form (f b : ByteArray) (D : DataW Unit) (bF n : Nat) (w : World) (hown : Files w bF n D) (hf : f.size ≤ maxLen) (hh : Maps.has D (kl f) = true) (hn : nameB b = false) :
    Calls Tryz.prog 60 #[.map (some bF), .agg #[.int .i64 2, .string f, .string b]] w fun e w' => e = .returned (.int .i64 1) ∧ Below w.heap.size w w' := by
  have hkey := keyOfS hf
  unfold Files at hown
  have hown1 := hown.alloc (.cells #[.int .i64 2, .string f, .string b] 114)
  go_enter Tryz.func60, Tryz.ntmps60
  go_wp2_with (first | (at_lookup; refine wpList_lookup_own_ok _ rfl _ _ 77 rfl TS TS keyS Tryz.underlying77 _ (zeroS _) (.lit (.string [])) [] empS bF n D rfl hown1 _ _ rfl hkey ?_; intro v ps hv; obtain ⟨s, rfl, _, _⟩ := plainElem_string_inv Tryz.underlying9 hv; clear hv) | (go_at_call 106; refine (name_any _ _).mono ?_; rintro e w' ⟨rfl, rfl⟩) | (at_len; refine wpList_len_own _ rfl _ 77 rfl TS TS Tryz.underlying77 _ bF n D rfl hown1 ?_))
  go_ret
  exact ⟨rfl, (Below.refl _ _).alloc (Nat.le_refl _) _⟩
set_option maxRecDepth 100000 in
set_option maxHeartbeats 1000000 in
theorem can_move_ok (f b : ByteArray) (D : DataW Unit) (bF n : Nat) (w : World) (hown : Files w bF n D) (hf : f.size ≤ maxLen) (hh : Maps.has D (kl f) = true) (hn : nameB b = true) :
    Calls Tryz.prog 60 #[.map (some bF), .agg #[.int .i64 2, .string f, .string b]] w fun e w' => e = .returned (.int .i64 0) ∧ Below w.heap.size w w' := by
  have hkey := keyOfS hf
  unfold Files at hown
  have hown1 := hown.alloc (.cells #[.int .i64 2, .string f, .string b] 114)
  go_enter Tryz.func60, Tryz.ntmps60
  go_wp2_with (first | (at_lookup; refine wpList_lookup_own_ok _ rfl _ _ 77 rfl TS TS keyS Tryz.underlying77 _ (zeroS _) (.lit (.string [])) [] empS bF n D rfl hown1 _ _ rfl hkey ?_; intro v ps hv; obtain ⟨s, rfl, _, _⟩ := plainElem_string_inv Tryz.underlying9 hv; clear hv) | (go_at_call 106; refine (name_any _ _).mono ?_; rintro e w' ⟨rfl, rfl⟩) | (at_len; refine wpList_len_own _ rfl _ 77 rfl TS TS Tryz.underlying77 _ bF n D rfl hown1 ?_))
  go_ret
  exact ⟨rfl, (Below.refl _ _).alloc (Nat.le_refl _) _⟩
set_option maxRecDepth 100000 in
set_option maxHeartbeats 1000000 in
theorem can_drop_ok (f b : ByteArray) (D : DataW Unit) (bF n : Nat) (w : World) (hown : Files w bF n D) (hf : f.size ≤ maxLen) (hh : Maps.has D (kl f) = true) :
    Calls Tryz.prog 60 #[.map (some bF), .agg #[.int .i64 3, .string f, .string b]] w fun e w' => e = .returned (.int .i64 0) ∧ Below w.heap.size w w' := by
  have hkey := keyOfS hf
  unfold Files at hown
  have hown1 := hown.alloc (.cells #[.int .i64 3, .string f, .string b] 114)
  go_enter Tryz.func60, Tryz.ntmps60
  go_wp2_with (first | (at_lookup; refine wpList_lookup_own_ok _ rfl _ _ 77 rfl TS TS keyS Tryz.underlying77 _ (zeroS _) (.lit (.string [])) [] empS bF n D rfl hown1 _ _ rfl hkey ?_; intro v ps hv; obtain ⟨s, rfl, _, _⟩ := plainElem_string_inv Tryz.underlying9 hv; clear hv) | (go_at_call 106; refine (name_any _ _).mono ?_; rintro e w' ⟨rfl, rfl⟩) | (at_len; refine wpList_len_own _ rfl _ 77 rfl TS TS Tryz.underlying77 _ bF n D rfl hown1 ?_))
  go_ret
  exact ⟨rfl, (Below.refl _ _).alloc (Nat.le_refl _) _⟩
set_option maxRecDepth 100000 in
set_option maxHeartbeats 1000000 in
theorem can_write_form (f b : ByteArray) (D : DataW Unit) (bF n : Nat) (w : World) (hown : Files w bF n D) (hf : f.size ≤ maxLen) (hn : nameB f = false) :
    Calls Tryz.prog 60 #[.map (some bF), .agg #[.int .i64 1, .string f, .string b]] w fun e w' => e = .returned (.int .i64 1) ∧ Below w.heap.size w w' := by
  have hkey := keyOfS hf
  unfold Files at hown
  have hown1 := hown.alloc (.cells #[.int .i64 1, .string f, .string b] 114)
  go_enter Tryz.func60, Tryz.ntmps60
  go_wp2_with (first | (at_lookup; refine wpList_lookup_own_ok _ rfl _ _ 77 rfl TS TS keyS Tryz.underlying77 _ (zeroS _) (.lit (.string [])) [] empS bF n D rfl hown1 _ _ rfl hkey ?_; intro v ps hv; obtain ⟨s, rfl, _, _⟩ := plainElem_string_inv Tryz.underlying9 hv; clear hv) | (go_at_call 106; refine (name_any _ _).mono ?_; rintro e w' ⟨rfl, rfl⟩) | (at_len; refine wpList_len_own _ rfl _ 77 rfl TS TS Tryz.underlying77 _ bF n D rfl hown1 ?_))
  go_ret
  exact ⟨rfl, (Below.refl _ _).alloc (Nat.le_refl _) _⟩
set_option maxRecDepth 100000 in
set_option maxHeartbeats 1000000 in
theorem can_write_has (f b : ByteArray) (D : DataW Unit) (bF n : Nat) (w : World) (hown : Files w bF n D) (hf : f.size ≤ maxLen) (hn : nameB f = true) (hh : Maps.has D (kl f) = true) :
    Calls Tryz.prog 60 #[.map (some bF), .agg #[.int .i64 1, .string f, .string b]] w fun e w' => e = .returned (.int .i64 0) ∧ Below w.heap.size w w' := by
  have hkey := keyOfS hf
  unfold Files at hown
  have hown1 := hown.alloc (.cells #[.int .i64 1, .string f, .string b] 114)
  go_enter Tryz.func60, Tryz.ntmps60
  go_wp2_with (first | (at_lookup; refine wpList_lookup_own_ok _ rfl _ _ 77 rfl TS TS keyS Tryz.underlying77 _ (zeroS _) (.lit (.string [])) [] empS bF n D rfl hown1 _ _ rfl hkey ?_; intro v ps hv; obtain ⟨s, rfl, _, _⟩ := plainElem_string_inv Tryz.underlying9 hv; clear hv) | (go_at_call 106; refine (name_any _ _).mono ?_; rintro e w' ⟨rfl, rfl⟩) | (at_len; refine wpList_len_own _ rfl _ 77 rfl TS TS Tryz.underlying77 _ bF n D rfl hown1 ?_))
  go_ret
  exact ⟨rfl, (Below.refl _ _).alloc (Nat.le_refl _) _⟩
set_option maxRecDepth 100000 in
set_option maxHeartbeats 1000000 in
theorem can_write_full (f b : ByteArray) (D : DataW Unit) (bF n : Nat) (w : World) (hown : Files w bF n D) (hf : f.size ≤ maxLen) (hn : nameB f = true) (hh : Maps.has D (kl f) = false) (hz : 100 ≤ (Maps.size D : Int)) :
    Calls Tryz.prog 60 #[.map (some bF), .agg #[.int .i64 1, .string f, .string b]] w fun e w' => e = .returned (.int .i64 5) ∧ Below w.heap.size w w' := by
  have hkey := keyOfS hf
  unfold Files at hown
  have hown1 := hown.alloc (.cells #[.int .i64 1, .string f, .string b] 114)
  have hl := hown1.len Tryz.underlying77 3
  go_enter Tryz.func60, Tryz.ntmps60
  go_wp2_with (first | (at_lookup; refine wpList_lookup_own_ok _ rfl _ _ 77 rfl TS TS keyS Tryz.underlying77 _ (zeroS _) (.lit (.string [])) [] empS bF n D rfl hown1 _ _ rfl hkey ?_; intro v ps hv; obtain ⟨s, rfl, _, _⟩ := plainElem_string_inv Tryz.underlying9 hv; clear hv) | (go_at_call 106; refine (name_any _ _).mono ?_; rintro e w' ⟨rfl, rfl⟩))
  go_ret
  exact ⟨rfl, (Below.refl _ _).alloc (Nat.le_refl _) _⟩
set_option maxRecDepth 100000 in
set_option maxHeartbeats 1000000 in
theorem can_write_new (f b : ByteArray) (D : DataW Unit) (bF n : Nat) (w : World) (hown : Files w bF n D) (hf : f.size ≤ maxLen) (hn : nameB f = true) (hh : Maps.has D (kl f) = false) (hz : (Maps.size D : Int) < 100) :
    Calls Tryz.prog 60 #[.map (some bF), .agg #[.int .i64 1, .string f, .string b]] w fun e w' => e = .returned (.int .i64 0) ∧ Below w.heap.size w w' := by
  have hkey := keyOfS hf
  unfold Files at hown
  have hown1 := hown.alloc (.cells #[.int .i64 1, .string f, .string b] 114)
  have hl := hown1.len Tryz.underlying77 3
  go_enter Tryz.func60, Tryz.ntmps60
  go_wp2_with (first | (at_lookup; refine wpList_lookup_own_ok _ rfl _ _ 77 rfl TS TS keyS Tryz.underlying77 _ (zeroS _) (.lit (.string [])) [] empS bF n D rfl hown1 _ _ rfl hkey ?_; intro v ps hv; obtain ⟨s, rfl, _, _⟩ := plainElem_string_inv Tryz.underlying9 hv; clear hv) | (go_at_call 106; refine (name_any _ _).mono ?_; rintro e w' ⟨rfl, rfl⟩))
  go_ret
  exact ⟨rfl, (Below.refl _ _).alloc (Nat.le_refl _) _⟩
end Dk
namespace Dk
open Go Go.Proofs Go.RowKit Go.Maps

/-- But for some blocks the world is as it was. -/
structure Kp (S : Nat → Prop) (w w' : World) : Prop where
  os : w'.os = w.os
  tape : w'.tape = w.tape
  output : w'.output = w.output
  size : w.heap.size ≤ w'.heap.size
  block : ∀ k, k < w.heap.size → ¬ S k → w'.heap[k]? = w.heap[k]?
theorem Kp.refl (S : Nat → Prop) (w : World) : Kp S w w := ⟨rfl, rfl, rfl, Nat.le_refl _, fun _ _ _ => rfl⟩
theorem Kp.trans {S S' : Nat → Prop} {a b c : World} (h : Kp S a b) (k : Kp S' b c) (hs : ∀ i, i < a.heap.size → S' i → S i) : Kp S a c :=
  ⟨k.os.trans h.os, k.tape.trans h.tape, k.output.trans h.output, Nat.le_trans h.size k.size, fun i hi hn => (k.block i (Nat.lt_of_lt_of_le hi h.size) (fun hs' => hn (hs i hi hs'))).trans (h.block i hi hn)⟩
theorem Kp.mono {S S' : Nat → Prop} {a b : World} (h : Kp S a b) (hs : ∀ i, i < a.heap.size → S i → S' i) : Kp S' a b := ⟨h.os, h.tape, h.output, h.size, fun i hi hn => h.block i hi (fun h' => hn (hs i hi h'))⟩
theorem Kp.of_below {S : Nat → Prop} {w w' : World} (h : Below w.heap.size w w') : Kp S w w' := ⟨h.os, h.tape, h.output, h.size, fun k hk _ => h.block k hk⟩
theorem Kp.below {S : Nat → Prop} {w w' : World} (h : Kp S w w') (hS : ∀ k, k < w.heap.size → ¬ S k) : Below w.heap.size w w' := ⟨h.os, h.tape, h.output, h.size, fun k hk => h.block k hk (hS k hk)⟩
theorem Kp.alloc {S : Nat → Prop} {a b : World} (h : Kp S a b) (o : Obj) : Kp S a (b.alloc o) := h.trans (Kp.of_below (S := S) ((Below.refl _ _).alloc (Nat.le_refl _) o)) (fun _ _ h => h)
theorem Kp.drew {S : Nat → Prop} {a b : World} (h : Kp S a b) : Kp S a b.drew := ⟨h.os, h.tape, h.output, h.size, h.block⟩
theorem Kp.setCell {S : Nat → Prop} {a b : World} (h : Kp S a b) {p : Addr} (hp : p.block < a.heap.size → S p.block) (v : Value) : Kp S a (b.setCell p v) :=
  ⟨h.os, h.tape, h.output, by simpa [World.setCell] using h.size, fun k hk hn => by
    rw [Deep.blk_setCell_other _ _ _ _ (fun e => hn (by subst e; exact hp hk)), h.block k hk hn]⟩
theorem Kp.grown {S : Nat → Prop} {a b c : World} {row : Option Nat} (h : Kp S a b) (g : b.grownBy c row) (hr : ∀ r, row = some r → r < a.heap.size → S r) : Kp S a c :=
  ⟨g.os.trans h.os, g.tape.trans h.tape, g.output.trans h.output, Nat.le_trans h.size g.size, fun k hk hn => by
    rw [g.block k (Nat.lt_of_lt_of_le hk h.size) (fun e => hn (hr k e.symm hk)), h.block k hk hn]⟩
theorem Files.tight {w : World} {b n : Nat} {D : DataW Unit} (h : Files w b n D) : Files w b (Maps.size D) D := by
  obtain ⟨es, clock, hb, F, hs, rfl⟩ := h
  exact ⟨es, clock, hb, F, by simp [Maps.size, length_sorted], rfl⟩
theorem Files.lt {w : World} {b n : Nat} {D : DataW Unit} (h : Files w b n D) : b < w.heap.size := World.ownsMap.lt h
theorem Files.kp {w w' : World} {b n : Nat} {D : DataW Unit} {S : Nat → Prop} (h : Files w b n D) (k : Kp S w w') (hb : ¬ S b) : Files w' b n D := by
  have hl := h.lt
  obtain ⟨es, clock, hm, F, hs, hD⟩ := h
  exact ⟨es, clock, (k.block b hl hb).trans hm, F, hs, hD⟩
theorem Kp.cell {S : Nat → Prop} {a b : World} (h : Kp S a b) {p : Addr} (hl : p.block < a.heap.size) (hn : ¬ S p.block) : b.cell? p = a.cell? p := by
  unfold World.cell?
  rw [h.block _ hl hn]
theorem Kp.frozen {S : Nat → Prop} {a b : World} (h : Kp S a b) {p : Addr} (hl : p.block < a.heap.size) (hn : ¬ S p.block) : b.frozen? p = a.frozen? p := by
  unfold World.frozen?
  rw [h.block _ hl hn]
/-- A box beside a map that is turned. -/
theorem box_turned {w w1 : World} {x y z : Value} {T : TypeId} {b : Nat} (h : (w.alloc (.cells #[x, y, z] T)).mapTurned w1 b) (hb : b < w.heap.size) :
    w1.cell? ⟨w.heap.size, 0, none⟩ = some x ∧ w1.cell? ⟨w.heap.size, 1, none⟩ = some y ∧ w1.cell? ⟨w.heap.size, 2, none⟩ = some z := by
  have k : Kp (· = b) (w.alloc (.cells #[x, y, z] T)) w1 := (Kp.refl _ _).grown h.grown (fun r e _ => by cases e; rfl)
  have hh := Deep.blk_alloc_new w (.cells #[x, y, z] T)
  have hs : w.heap.size < (w.alloc (.cells #[x, y, z] T)).heap.size := by rw [Deep.nblk_alloc]; omega
  refine ⟨?_, ?_, ?_⟩ <;> (rw [k.cell hs (by show ¬ w.heap.size = b; omega), Lib.cell_of_heap hh]; rfl)
def sd (s : ByteArray) : DataW Unit := .lit (.string s.data.toList)
theorem plainS {s : ByteArray} (h : s.size ≤ maxLen) : plainElem (H := Unit) Tryz.prog TS (.string s) = some (sd s, []) := plainElem_string Tryz.underlying9 h

set_option maxRecDepth 100000 in
set_option maxHeartbeats 1000000 in
theorem does_write (f b : ByteArray) (D : DataW Unit) (bF n : Nat) (w : World) (hown : Files w bF n D) (hf : f.size ≤ maxLen) (hb : b.size ≤ maxLen) (hn : n < maxLen) :
    Calls Tryz.prog 61 #[.map (some bF), .agg #[.int .i64 1, .string f, .string b]] w fun e w' => e = .returned (.tuple #[]) ∧ Files w' bF (n + 1) (D.put (kl f) (sd b)) ∧ Kp (· = bF) w w' := by
  have hkey := keyOfS hf
  have hval := plainS hb
  unfold Files at hown
  have hown1 := hown.alloc (.cells #[.int .i64 1, .string f, .string b] 114)
  go_enter Tryz.func61, Tryz.ntmps61
  go_wp2_with (first
    | (at_mapUpdate; refine wpList_mapUpdate_in _ rfl _ _ _ 77 rfl TS TS keyS Tryz.underlying77 _ bF n D rfl hown1 hn _ _ _ rfl rfl hkey _ [] hval ?_; intro w1 hown2 hturn)
    | fail)
  go_end0
  exact ⟨rfl, hown2, ((Kp.refl _ w).alloc _).grown hturn.grown (fun r e _ => by cases e; rfl)⟩

set_option maxRecDepth 100000 in
set_option maxHeartbeats 1000000 in
theorem does_drop (f b : ByteArray) (D : DataW Unit) (bF n : Nat) (w : World) (hown : Files w bF n D) (hf : f.size ≤ maxLen) :
    Calls Tryz.prog 61 #[.map (some bF), .agg #[.int .i64 3, .string f, .string b]] w fun e w' => e = .returned (.tuple #[]) ∧ Files w' bF n (D.del (kl f)) ∧ Kp (· = bF) w w' := by
  have hkey := keyOfS hf
  unfold Files at hown
  have hown1 := hown.alloc (.cells #[.int .i64 3, .string f, .string b] 114)
  go_enter Tryz.func61, Tryz.ntmps61
  go_wp2_with (first
    | (at_delete; refine wpList_delete_own _ rfl _ _ 77 TS rfl TS keyS Tryz.underlying77 _ bF n D rfl hown1 _ _ rfl hkey ?_; intro w1 hown2 hturn)
    | fail)
  go_end0
  exact ⟨rfl, hown2, ((Kp.refl _ w).alloc _).grown hturn.grown (fun r e _ => by cases e; rfl)⟩

/-- What stands in a file; the empty text, where there is none. -/
def txt (D : DataW Unit) (f : ByteArray) : DataW Unit := D.atKey (kl f) (.lit (.string []))
set_option maxRecDepth 100000 in
set_option maxHeartbeats 1000000 in
theorem does_move (f b : ByteArray) (D : DataW Unit) (bF n : Nat) (w : World) (hown : Files w bF n D) (hf : f.size ≤ maxLen) (hb : b.size ≤ maxLen) (hn : n < maxLen) :
    Calls Tryz.prog 61 #[.map (some bF), .agg #[.int .i64 2, .string f, .string b]] w fun e w' => e = .returned (.tuple #[]) ∧ Files w' bF (n + 1) ((D.del (kl f)).put (kl b) (txt D f)) ∧ Kp (· = bF) w w' := by
  have hkey := keyOfS hf
  have hkeyb := keyOfS hb
  unfold Files at hown
  have hown1 := hown.alloc (.cells #[.int .i64 2, .string f, .string b] 114)
  obtain ⟨v, ps, hrun, hv⟩ := hown1.lookup keyS Tryz.underlying77 (zeroS _) empS hkey
  obtain ⟨s, rfl, hs, hsz⟩ := plainElem_string_inv Tryz.underlying9 hv
  have hval := plainS hsz
  have hlt := World.ownsMap.lt hown
  have hT : Hid (txt D f = sd s) := congrArg Prod.fst hs
  clear hv hs
  go_enter Tryz.func61, Tryz.ntmps61
  go_wp2_with (first
    | (at_delete; refine wpList_delete_own _ rfl _ _ 77 TS rfl TS keyS Tryz.underlying77 _ bF n D rfl hown1 _ _ rfl hkey ?_; intro w1 hown2 hturn; obtain ⟨c0, c1, c2⟩ := box_turned hturn hlt)
    | (at_mapUpdate; refine wpList_mapUpdate_in _ rfl _ _ _ 77 rfl TS TS keyS Tryz.underlying77 _ bF n (D.del (kl f)) rfl hown2 hn _ _ _ rfl rfl hkeyb _ [] hval ?_; intro w2 hown3 hturn2)
    | fail)
  go_end0
  refine ⟨rfl, by rw [hT.out]; exact hown3, (((Kp.refl _ w).alloc _).grown hturn.grown (fun r e _ => by cases e; rfl)).grown hturn2.grown (fun r e _ => by cases e; rfl)⟩
end Dk
