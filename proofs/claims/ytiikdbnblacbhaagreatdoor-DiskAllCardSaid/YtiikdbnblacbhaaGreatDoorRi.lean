/- DiskAll, walked; the conditions stand in the statement. -/
import Derived.Test.YtiikdbnblacbhaaGreatDoorRh
import Derived.Deep.Slices
import Derived.StillTailTactics
import Derived.StillTactics
set_option linter.unusedVariables false
set_option linter.unusedSimpArgs false
set_option linter.unusedSectionVars false
namespace Dk
open Go Go.Proofs Go.RowKit Go.Maps

/-- An element of the argument. -/
structure OpA where
  k : Int
  N : Int
  f : ByteArray
  t : ByteArray
  b : ByteArray
  keep : Int
structure OpA.Ok (o : OpA) : Prop where
  N : o.N ≤ 9223372036854775807
  f : o.f.size ≤ maxLen
  t : o.t.size ≤ maxLen
  b : o.b.size ≤ maxLen
  k0 : 0 ≤ o.keep
  k1 : o.keep < 18446744073709551616
/-- It lies in the argument's row. -/
structure OpAt (a : Addr) (i : Nat) (o : OpA) (w : World) : Prop where
  c0 : w.cell? ((a.add (i * 6)).add 0) = some (.int .i64 o.k)
  c1 : w.cell? ((a.add (i * 6)).add 1) = some (.int .i64 o.N)
  c2 : w.cell? ((a.add (i * 6)).add 2) = some (.string o.f)
  c3 : w.cell? ((a.add (i * 6)).add 3) = some (.string o.t)
  c4 : w.cell? ((a.add (i * 6)).add 4) = some (.string o.b)
  c5 : w.cell? ((a.add (i * 6)).add 5) = some (.int .u64 o.keep)
theorem add_block (a : Addr) (n : Nat) : (a.add n).block = a.block := by unfold Addr.add; split <;> rfl
theorem OpAt.below {a : Addr} {i : Nat} {o : OpA} {W w : World} (h : OpAt a i o W) (hb : Below W.heap.size W w) (ha : a.block < W.heap.size) : OpAt a i o w := by
  have key : ∀ j, w.cell? ((a.add (i * 6)).add j) = W.cell? ((a.add (i * 6)).add j) := fun j => hb.cell (by rw [add_block, add_block]; exact ha)
  exact ⟨(key 0).trans h.c0, (key 1).trans h.c1, (key 2).trans h.c2, (key 3).trans h.c3, (key 4).trans h.c4, (key 5).trans h.c5⟩
/-- The box of an element. -/
abbrev boxA (o : OpA) : Obj := .cells #[.int .i64 o.k, .int .i64 o.N, .string o.f, .string o.t, .string o.b, .int .u64 o.keep] TB
theorem text110 (s : ByteArray) (hs : s.size ≤ maxLen) (w : World) : Calls Tryz.prog 20 #[.string s, .int .i64 110] w fun e w' => e = .returned (.string (cutB s 110)) ∧ w' = w := text_any s 110 hs (by decide) w
theorem text30 (s : ByteArray) (hs : s.size ≤ maxLen) (w : World) : Calls Tryz.prog 20 #[.string s, .int .i64 30] w fun e w' => e = .returned (.string (cutB s 30)) ∧ w' = w := text_any s 30 hs (by decide) w
theorem boxA_cells {w : World} {g : Nat} {o : OpA} (h : w.heap[g]? = some (boxA o)) : w.cell? ⟨g, 0, none⟩ = some (.int .i64 o.k) ∧ w.cell? ⟨g, 1, none⟩ = some (.int .i64 o.N) ∧ w.cell? ⟨g, 2, none⟩ = some (.string o.f) ∧ w.cell? ⟨g, 3, none⟩ = some (.string o.t) ∧ w.cell? ⟨g, 4, none⟩ = some (.string o.b) ∧ w.cell? ⟨g, 5, none⟩ = some (.int .u64 o.keep) := by
  refine ⟨?_, ?_, ?_, ?_, ?_, ?_⟩ <;> (rw [Lib.cell_of_heap h]; rfl)

set_option maxRecDepth 100000 in
set_option maxHeartbeats 8000000 in
theorem all_law (ao : Option Addr) (len cap : Nat) (W : World) (hao : len = 0 ∨ ∃ a, ao = some a ∧ a.block < W.heap.size ∧ ∀ i, i < len → ∃ o : OpA, o.Ok ∧ OpAt a i o W) (hlen : len ≤ maxLen)
    (hB : Calls Tryz.prog 8 #[] W fun e w' => e = .returned (.bool true) ∧ Below W.heap.size W w') :
    Calls Tryz.prog 6 #[.slice ao len cap] W fun e w' => e = .returned (.bool true) ∧ Below W.heap.size W w' := by
  have HAO := Lib.hid hao
  unfold maxLen at hlen
  clear hao
  go_enter Tryz.func6, Tryz.ntmps6
  go_wp2_with (first
    | (go_at_call 8; refine hB.mono ?_; rintro e w1 ⟨rfl, hb1⟩)
    | (go_at_call 10; refine (new_any _).mono ?_; rintro e w2 ⟨d, c, rfl, hD, hb2, f1⟩)
    | (go_at_call 19; refine (rnews_any _).mono ?_; rintro e w3 ⟨dr, cr, rfl, hR, hb3, f2⟩)
    | fail)
  have hT0 := two_new hb1 hD hb2 f1 hR hb3 f2
  clear hR hb3 f2 hD hb2 f1 hb1 hB
  go_loopw [6] (fun i wr => ∃ k : Nat, ∃ s r, k ≤ len ∧ k ≤ 60 ∧ i = .int .i64 k ∧ Inv k s r ∧ Two d dr s r W wr) (fun i _ => len - (RowKit.intOf i).toNat)
  case atStart => exact ⟨0, _, _, Nat.zero_le _, Nat.zero_le _, rfl, inv_new, hT0⟩
  case round =>
    obtain ⟨k, s, r, hk, hk60, rfl, hI, hT⟩ := hrel
    clear hT0
    have hk00 : (0 : Int) ≤ (k : Int) := Int.natCast_nonneg _
    have HI := Lib.hid hI
    have hfit := hI.fits hk60
    have rfit := hI.rfits hk60
    clear hI
    by_cases hlt : k < len
    · by_cases h60 : k < 60
      · have h60' : decide ((k : Int) < 60) = true := by simp; omega
        obtain ⟨a, rfl, ha, hop⟩ := HAO.out.resolve_left (by omega)
        obtain ⟨o, ho, hat⟩ := hop k hlt
        obtain ⟨e0, e1, e2, e3, e4, e5⟩ := hat.below hT.bel ha
        clear hat hop
        obtain ⟨p, hp⟩ : ∃ p, a.add (k * 6) = p := ⟨_, rfl⟩
        rw [hp] at e0 e1 e2 e3 e4 e5
        obtain ⟨pb, po, ps⟩ := p
        have e0 : wr.cell? ⟨pb, po, ps⟩ = some (.int .i64 o.k) := e0
        have e1 : wr.cell? ⟨pb, po + 1, none⟩ = some (.int .i64 o.N) := e1
        have e2 : wr.cell? ⟨pb, po + 2, none⟩ = some (.string o.f) := e2
        have e3 : wr.cell? ⟨pb, po + 3, none⟩ = some (.string o.t) := e3
        have e4 : wr.cell? ⟨pb, po + 4, none⟩ = some (.string o.b) := e4
        have e5 : wr.cell? ⟨pb, po + 5, none⟩ = some (.int .u64 o.keep) := e5
        have hb1 : (wr.alloc (boxA o)).heap[wr.heap.size]? = some (boxA o) := Deep.blk_alloc_new wr (boxA o)
        have hbl : Below wr.heap.size wr (wr.alloc (boxA o)) := (Below.refl _ _).alloc (Nat.le_refl _) _
        go_wp2
        clear e0 e1 e2 e3 e4 e5 hp
        generalize wr.alloc (boxA o) = W1 at *
        have hb2 : W1.drew.heap[wr.heap.size]? = some (boxA o) := hb1
        have hbl2 : Below wr.heap.size wr W1.drew := hbl.drew
        obtain ⟨_, _, b2, b3, b4, _⟩ := boxA_cells hb1
        refine wp_region_still_tail 10 (by kernel_rfl) (by kernel_rfl) ?_
        simp only [List.take_succ_cons, List.take_zero, List.drop_succ_cons, List.drop_zero]
        repeat still_step
        still_call (text110 o.f ho.f _)
        repeat still_step
        still_call (text110 o.t ho.t _)
        repeat still_step
        still_call (text30 o.b ho.b _)
        repeat still_step
        refine wpStill_nil ?_
        change wpList _ _ _ _ _ W1.drew
        clear b2 b3 b4 hb1 hbl
        generalize W1.drew = W2 at *
        have hFs := cutB_max o.f 110 (by decide)
        have hTs := cutB_max o.t 110 (by decide)
        have hBs := cutB_max o.b 30 (by decide)
        obtain ⟨oN, ok0, ok1⟩ : o.N ≤ 9223372036854775807 ∧ 0 ≤ o.keep ∧ o.keep < 18446744073709551616 := ⟨ho.N, ho.k0, ho.k1⟩
        obtain ⟨ok, oN', of, ot, ob, okeep⟩ := o
        simp only at hFs hTs hBs oN ok0 ok1
        generalize cutB of 110 = F at *
        generalize cutB ot 110 = T at *
        generalize cutB ob 30 = B at *
        have hb3 : (W2.setCell ⟨wr.heap.size, 2, none⟩ (.string F)).heap[wr.heap.size]? = some (boxA ⟨ok, oN', F, ot, ob, okeep⟩) := heap_setCell hb2 2 _
        have hb4 : ((W2.setCell ⟨wr.heap.size, 2, none⟩ (.string F)).setCell ⟨wr.heap.size, 3, none⟩ (.string T)).heap[wr.heap.size]? = some (boxA ⟨ok, oN', F, T, ob, okeep⟩) := heap_setCell hb3 3 _
        have hb5 : (((W2.setCell ⟨wr.heap.size, 2, none⟩ (.string F)).setCell ⟨wr.heap.size, 3, none⟩ (.string T)).setCell ⟨wr.heap.size, 4, none⟩ (.string B)).heap[wr.heap.size]? = some (boxA ⟨ok, oN', F, T, B, okeep⟩) := heap_setCell hb4 4 _
        have b2 := (boxA_cells hb2).2.2.1
        have b3 := (boxA_cells hb3).2.2.2.1
        have b4 := (boxA_cells hb4).2.2.2.2.1
        have g2 : W2.frozen? ⟨wr.heap.size, 2, none⟩ = false := Lib.frozen_of_heap hb2 2
        have g3 : (W2.setCell ⟨wr.heap.size, 2, none⟩ (.string F)).frozen? ⟨wr.heap.size, 3, none⟩ = false := Lib.frozen_of_heap hb3 3
        have g4 : ((W2.setCell ⟨wr.heap.size, 2, none⟩ (.string F)).setCell ⟨wr.heap.size, 3, none⟩ (.string T)).frozen? ⟨wr.heap.size, 4, none⟩ = false := Lib.frozen_of_heap hb4 4
        have b5 := (boxA_cells hb5).1
        have hbl5 : Below wr.heap.size wr (((W2.setCell ⟨wr.heap.size, 2, none⟩ (.string F)).setCell ⟨wr.heap.size, 3, none⟩ (.string T)).setCell ⟨wr.heap.size, 4, none⟩ (.string B)) := ((hbl2.setCell (p := ⟨wr.heap.size, 2, none⟩) (Nat.le_refl _) _).setCell (p := ⟨wr.heap.size, 3, none⟩) (Nat.le_refl _) _).setCell (p := ⟨wr.heap.size, 4, none⟩) (Nat.le_refl _) _
        have hT5 := hT.below hbl5
        clear hbl5 hbl2 hT ho
        simp only at b2 b3 b4 b5
        by_cases hk0 : ok = 0
        · subst hk0
          obtain ⟨hx, hI2⟩ := inv_op HI.out ⟨1, F, B⟩ ⟨.inl rfl, hFs, hBs⟩
          have hw : ∀ w, Two d dr s r W w → Calls Tryz.prog 21 #[.pointer (some ⟨d, 0, none⟩), .string F, .string B] w fun e w' => e = .returned (.int .i64 (s.op ⟨1, F, B⟩).2) ∧ Two d dr (s.op ⟨1, F, B⟩).1 r W w' ∧ Boxes w w' := fun w h => two_write h hfit F B hFs hBs
          have hrw : ∀ s w, Two d dr s r W w → Calls Tryz.prog 22 #[.pointer (some ⟨dr, 0, none⟩), .string F, .string B] w fun e w' => e = .returned (.int .i64 (r.op ⟨1, F, B⟩).2) ∧ Two d dr s (r.op ⟨1, F, B⟩).1 W w' ∧ Boxes w w' := fun s w h => two_rwrite h rfit F B
          generalize s.op ⟨1, F, B⟩ = so at *
          generalize r.op ⟨1, F, B⟩ = ro at *
          obtain ⟨s2, xs⟩ := so
          obtain ⟨r2, xr⟩ := ro
          simp only at hx hw hrw hI2
          subst hx
          go_wp2
          generalize ((W2.setCell ⟨wr.heap.size, 2, none⟩ (Value.string F)).setCell ⟨wr.heap.size, 3, none⟩ (Value.string T)).setCell ⟨wr.heap.size, 4, none⟩ (Value.string B) = w5 at *
          clear b2 b3 b4 b5 g2 g3 g4 hb2 hb3 hb4
          have hT5d : Two d dr s r W w5.drew := hT5.below (Below.refl _ _).drew
          have hb5d : w5.drew.heap[wr.heap.size]? = some (boxA ⟨0, oN', F, T, B, okeep⟩) := hb5
          obtain ⟨_, b1, b2, b3, b4, b5'⟩ := boxA_cells hb5
          simp only at b1 b2 b3 b4 b5'
          go_region_held3 (fun w' => w'.cell? ⟨wr.heap.size, 2, none⟩ = some (.string F) ∧ w'.cell? ⟨wr.heap.size, 4, none⟩ = some (.string B))
            (first
              | go_keep
              | exact ⟨q2, q4⟩
              | exact ⟨z2, z4⟩)
            (first
              | (go_at_call 21; refine (hw _ hT5d).mono ?_; rintro e w6 ⟨rfl, hT6, hK6⟩; have hb6 : w6.heap[wr.heap.size]? = some (boxA ⟨0, oN', F, T, B, okeep⟩) := hK6 _ _ _ hb5d; obtain ⟨q0, q1, q2, q3, q4, q5⟩ := boxA_cells hb6; simp only at q0 q1 q2 q3 q4 q5)
              | (go_at_call 22; refine (hrw _ _ hT6).mono ?_; rintro e w7 ⟨rfl, hT7, hK7⟩; have hb7 : w7.heap[wr.heap.size]? = some (boxA ⟨0, oN', F, T, B, okeep⟩) := hK7 _ _ _ hb6; obtain ⟨z0, z1, z2, z3, z4, z5⟩ := boxA_cells hb7; simp only at z0 z1 z2 z3 z4 z5))
          clear hw hrw hT5d hb5d hT6 hK6 hK7 q0 q1 q2 q3 q4 q5 z0 z1 z2 z3 z4 z5 b1 b2 b3 b4 b5'
          go_wp2_with (first | (go_at_call 34; refine (two_same hT7 hI2.sim).mono ?_; rintro e w8 ⟨rfl, hT8⟩) | fail)
          go_roundw
          case rel => exact ⟨k + 1, _, _, by omega, by omega, by go_num, hI2, hT8⟩
          case measure => simp [RowKit.intOf]; omega
        have dk0 : (ok == 0) = false := by simpa using hk0
        by_cases hk1 : ok = 1
        · subst hk1
          obtain ⟨hx, hI2⟩ := inv_op HI.out ⟨2, F, T⟩ ⟨.inr (.inl rfl), hFs, hTs⟩
          have hw : ∀ w, Two d dr s r W w → Calls Tryz.prog 23 #[.pointer (some ⟨d, 0, none⟩), .string F, .string T] w fun e w' => e = .returned (.int .i64 (s.op ⟨2, F, T⟩).2) ∧ Two d dr (s.op ⟨2, F, T⟩).1 r W w' ∧ Boxes w w' := fun w h => two_move h hfit F T hFs hTs
          have hrw : ∀ s w, Two d dr s r W w → Calls Tryz.prog 24 #[.pointer (some ⟨dr, 0, none⟩), .string F, .string T] w fun e w' => e = .returned (.int .i64 (r.op ⟨2, F, T⟩).2) ∧ Two d dr s (r.op ⟨2, F, T⟩).1 W w' ∧ Boxes w w' := fun s w h => two_rmove h rfit F T
          generalize s.op ⟨2, F, T⟩ = so at *
          generalize r.op ⟨2, F, T⟩ = ro at *
          obtain ⟨s2, xs⟩ := so
          obtain ⟨r2, xr⟩ := ro
          simp only at hx hw hrw hI2
          subst hx
          go_wp2
          generalize ((W2.setCell ⟨wr.heap.size, 2, none⟩ (Value.string F)).setCell ⟨wr.heap.size, 3, none⟩ (Value.string T)).setCell ⟨wr.heap.size, 4, none⟩ (Value.string B) = w5 at *
          clear b2 b3 b4 b5 g2 g3 g4 hb2 hb3 hb4
          have hT5d : Two d dr s r W w5.drew := hT5.below (Below.refl _ _).drew
          have hb5d : w5.drew.heap[wr.heap.size]? = some (boxA ⟨1, oN', F, T, B, okeep⟩) := hb5
          obtain ⟨_, b1, b2, b3, b4, b5'⟩ := boxA_cells hb5
          simp only at b1 b2 b3 b4 b5'
          go_region_held3 (fun w' => w'.cell? ⟨wr.heap.size, 2, none⟩ = some (.string F) ∧ w'.cell? ⟨wr.heap.size, 3, none⟩ = some (.string T))
            (first
              | go_keep
              | exact ⟨q2, q3⟩
              | exact ⟨z2, z3⟩)
            (first
              | (go_at_call 23; refine (hw _ hT5d).mono ?_; rintro e w6 ⟨rfl, hT6, hK6⟩; have hb6 : w6.heap[wr.heap.size]? = some (boxA ⟨1, oN', F, T, B, okeep⟩) := hK6 _ _ _ hb5d; obtain ⟨q0, q1, q2, q3, q4, q5⟩ := boxA_cells hb6; simp only at q0 q1 q2 q3 q4 q5)
              | (go_at_call 24; refine (hrw _ _ hT6).mono ?_; rintro e w7 ⟨rfl, hT7, hK7⟩; have hb7 : w7.heap[wr.heap.size]? = some (boxA ⟨1, oN', F, T, B, okeep⟩) := hK7 _ _ _ hb6; obtain ⟨z0, z1, z2, z3, z4, z5⟩ := boxA_cells hb7; simp only at z0 z1 z2 z3 z4 z5))
          clear hw hrw hT5d hb5d hT6 hK6 hK7 q0 q1 q2 q3 q4 q5 z0 z1 z2 z3 z4 z5 b1 b2 b3 b4 b5'
          go_wp2_with (first | (go_at_call 34; refine (two_same hT7 hI2.sim).mono ?_; rintro e w8 ⟨rfl, hT8⟩) | fail)
          go_roundw
          case rel => exact ⟨k + 1, _, _, by omega, by omega, by go_num, hI2, hT8⟩
          case measure => simp [RowKit.intOf]; omega
        have dk1 : (ok == 1) = false := by simpa using hk1
        by_cases hk2 : ok = 2
        · subst hk2
          obtain ⟨hx, hI2⟩ := inv_op HI.out ⟨3, F, noB⟩ ⟨.inr (.inr rfl), hFs, by show (0 : Nat) ≤ maxLen; unfold maxLen; omega⟩
          have hw : ∀ w, Two d dr s r W w → Calls Tryz.prog 25 #[.pointer (some ⟨d, 0, none⟩), .string F] w fun e w' => e = .returned (.int .i64 (s.op ⟨3, F, noB⟩).2) ∧ Two d dr (s.op ⟨3, F, noB⟩).1 r W w' ∧ Boxes w w' := fun w h => two_remove h hfit F hFs
          have hrw : ∀ s w, Two d dr s r W w → Calls Tryz.prog 26 #[.pointer (some ⟨dr, 0, none⟩), .string F] w fun e w' => e = .returned (.int .i64 (r.op ⟨3, F, noB⟩).2) ∧ Two d dr s (r.op ⟨3, F, noB⟩).1 W w' ∧ Boxes w w' := fun s w h => two_rremove h rfit F
          generalize s.op ⟨3, F, noB⟩ = so at *
          generalize r.op ⟨3, F, noB⟩ = ro at *
          obtain ⟨s2, xs⟩ := so
          obtain ⟨r2, xr⟩ := ro
          simp only at hx hw hrw hI2
          subst hx
          go_wp2
          generalize ((W2.setCell ⟨wr.heap.size, 2, none⟩ (Value.string F)).setCell ⟨wr.heap.size, 3, none⟩ (Value.string T)).setCell ⟨wr.heap.size, 4, none⟩ (Value.string B) = w5 at *
          clear b2 b3 b4 b5 g2 g3 g4 hb2 hb3 hb4
          have hT5d : Two d dr s r W w5.drew := hT5.below (Below.refl _ _).drew
          have hb5d : w5.drew.heap[wr.heap.size]? = some (boxA ⟨2, oN', F, T, B, okeep⟩) := hb5
          obtain ⟨_, b1, b2, b3, b4, b5'⟩ := boxA_cells hb5
          simp only at b1 b2 b3 b4 b5'
          go_region_held3 (fun w' => w'.cell? ⟨wr.heap.size, 2, none⟩ = some (.string F))
            (first
              | go_keep
              | exact q2
              | exact z2)
            (first
              | (go_at_call 25; refine (hw _ hT5d).mono ?_; rintro e w6 ⟨rfl, hT6, hK6⟩; have hb6 : w6.heap[wr.heap.size]? = some (boxA ⟨2, oN', F, T, B, okeep⟩) := hK6 _ _ _ hb5d; obtain ⟨q0, q1, q2, q3, q4, q5⟩ := boxA_cells hb6; simp only at q0 q1 q2 q3 q4 q5)
              | (go_at_call 26; refine (hrw _ _ hT6).mono ?_; rintro e w7 ⟨rfl, hT7, hK7⟩; have hb7 : w7.heap[wr.heap.size]? = some (boxA ⟨2, oN', F, T, B, okeep⟩) := hK7 _ _ _ hb6; obtain ⟨z0, z1, z2, z3, z4, z5⟩ := boxA_cells hb7; simp only at z0 z1 z2 z3 z4 z5))
          clear hw hrw hT5d hb5d hT6 hK6 hK7 q0 q1 q2 q3 q4 q5 z0 z1 z2 z3 z4 z5 b1 b2 b3 b4 b5'
          go_wp2_with (first | (go_at_call 34; refine (two_same hT7 hI2.sim).mono ?_; rintro e w8 ⟨rfl, hT8⟩) | fail)
          go_roundw
          case rel => exact ⟨k + 1, _, _, by omega, by omega, by go_num, hI2, hT8⟩
          case measure => simp [RowKit.intOf]; omega
        have dk2 : (ok == 2) = false := by simpa using hk2
        by_cases hk3 : ok = 3
        · subst hk3
          obtain ⟨hx, hI2⟩ := inv_sync HI.out
          have hw : ∀ w, Two d dr s r W w → Calls Tryz.prog 27 #[.pointer (some ⟨d, 0, none⟩)] w fun e w' => e = .returned (.int .i64 s.sync.2) ∧ Two d dr s.sync.1 r W w' ∧ Boxes w w' := fun w h => two_sync h hfit
          have hrw : ∀ s w, Two d dr s r W w → Calls Tryz.prog 28 #[.pointer (some ⟨dr, 0, none⟩)] w fun e w' => e = .returned (.int .i64 r.sync.2) ∧ Two d dr s r.sync.1 W w' ∧ Boxes w w' := fun s w h => two_rsync h rfit
          generalize s.sync = so at *
          generalize r.sync = ro at *
          obtain ⟨s2, xs⟩ := so
          obtain ⟨r2, xr⟩ := ro
          simp only at hx hw hrw hI2
          subst hx
          go_wp2_with (first
            | (go_at_call 27; refine (hw _ hT5).mono ?_; rintro e w6 ⟨rfl, hT6, hK6⟩)
            | (go_at_call 28; refine (hrw _ _ hT6).mono ?_; rintro e w7 ⟨rfl, hT7, hK7⟩)
            | (go_at_call 34; refine (two_same hT7 hI2.sim).mono ?_; rintro e w8 ⟨rfl, hT8⟩)
            | fail)
          go_roundw
          case rel => exact ⟨k + 1, _, _, by omega, by omega, by go_num, hI2, hT8⟩
          case measure => simp [RowKit.intOf]; omega
        have dk3 : (ok == 3) = false := by simpa using hk3
        by_cases hk5 : ok = 5
        · subst hk5
          have hI2 := inv_fuse HI.out oN' oN
          obtain ⟨_, c1, _, _, _, _⟩ := boxA_cells hb5
          simp only at c1
          go_wp2_with (first
            | (go_at_call 29; refine (two_fuse hT5 oN').mono ?_; rintro e w6 ⟨rfl, hT6, hK6⟩; have hb6 : w6.heap[wr.heap.size]? = some (boxA ⟨5, oN', F, T, B, okeep⟩) := hK6 _ _ _ hb5; obtain ⟨q0, q1, q2, q3, q4, q5⟩ := boxA_cells hb6; simp only at q0 q1 q2 q3 q4 q5)
            | (go_at_call 30; refine (two_rfuse hT6 oN').mono ?_; rintro e w7 ⟨rfl, hT7, hK7⟩)
            | (go_at_call 34; refine (two_same hT7 hI2.sim).mono ?_; rintro e w8 ⟨rfl, hT8⟩)
            | fail)
          go_roundw
          case rel => exact ⟨k + 1, _, _, by omega, by omega, by go_num, hI2, hT8⟩
          case measure => simp [RowKit.intOf]; omega
        have dk5 : (ok == 5) = false := by simpa using hk5
        by_cases hk6 : ok = 6
        · subst hk6
          have hI2 := inv_crash HI.out okeep
          obtain ⟨_, _, _, _, _, c5⟩ := boxA_cells hb5
          simp only at c5
          go_wp2_with (first
            | (go_at_call 16; refine (two_crash hT5 hfit okeep ok0 ok1).mono ?_; rintro e w6 ⟨rfl, hT6, hK6⟩; have hb6 : w6.heap[wr.heap.size]? = some (boxA ⟨6, oN', F, T, B, okeep⟩) := hK6 _ _ _ hb5; obtain ⟨q0, q1, q2, q3, q4, q5⟩ := boxA_cells hb6; simp only at q0 q1 q2 q3 q4 q5)
            | (go_at_call 31; refine (two_rcrash hT6 HI.out hk60 okeep ok0 ok1).mono ?_; rintro e w7 ⟨rfl, hT7, hK7⟩)
            | (go_at_call 34; refine (two_same hT7 hI2.sim).mono ?_; rintro e w8 ⟨rfl, hT8⟩)
            | fail)
          go_roundw
          case rel => exact ⟨k + 1, _, _, by omega, by omega, by go_num, hI2, hT8⟩
          case measure => simp [RowKit.intOf]; omega
        have dk6 : (ok == 6) = false := by simpa using hk6
        have hI2 := Inv.succ HI.out
        obtain ⟨_, _, c2, _, _, _⟩ := boxA_cells hb5
        simp only at c2
        have hrd := two_read hT5 HI.out.sim F hFs
        have hrr := two_rread hT5 rfit F
        generalize rreadF r.down r.L F = rf at *
        obtain ⟨rx, ry⟩ := rf
        simp only at hrd hrr
        have q1 : (rx.toList == rx.toList) = true := beq_self_eq_true _
        go_wp2_with (first
          | (go_at_call 32; refine hrd.mono ?_; rintro e w6 ⟨rfl, rfl⟩)
          | (go_at_call 33; refine hrr.mono ?_; rintro e w7 ⟨rfl, dn, rfl⟩; have hT7 := hT5.below ((Below.refl _ _).drewN_ (n := dn)))
          | (go_at_call 34; refine (two_same hT7 hI2.sim).mono ?_; rintro e w8 ⟨rfl, hT8⟩)
          | fail)
        go_roundw
        case rel => exact ⟨k + 1, _, _, by omega, by omega, by go_num, hI2, hT8⟩
        case measure => simp [RowKit.intOf]; omega
      · have h60' : decide ((k : Int) < 60) = false := by simp; omega
        have hc := inv_crash HI.out 5
        go_wp2_with (first
          | (go_at_call 16; refine (two_crash hT hfit 5 (by decide) (by decide)).mono ?_; rintro e w6 ⟨rfl, hT6, hK6⟩)
          | (go_at_call 31; refine (two_rcrash hT6 HI.out hk60 5 (by decide) (by decide)).mono ?_; rintro e w7 ⟨rfl, hT7, hK7⟩)
          | (go_at_call 34; refine (two_same hT7 hc.sim).mono ?_; rintro e w8 ⟨rfl, hT8⟩)
          | fail)
        go_ret
        exact ⟨rfl, hT8.bel⟩
    · have hc := inv_crash HI.out 5
      go_wp2_with (first
        | (go_at_call 16; refine (two_crash hT hfit 5 (by decide) (by decide)).mono ?_; rintro e w6 ⟨rfl, hT6, hK6⟩)
        | (go_at_call 31; refine (two_rcrash hT6 HI.out hk60 5 (by decide) (by decide)).mono ?_; rintro e w7 ⟨rfl, hT7, hK7⟩)
        | (go_at_call 34; refine (two_same hT7 hc.sim).mono ?_; rintro e w8 ⟨rfl, hT8⟩)
        | fail)
      go_ret
      exact ⟨rfl, hT8.bel⟩
end Dk
