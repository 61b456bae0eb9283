/- An operation done to the list of files, walked; the conditions stand in each statement. -/
import Derived.Test.YtiikdbnblacbhaaGreatDoorRa
import Derived.OwnWalk
import Derived.Laws.AppendOwnNone
set_option linter.unusedVariables false
set_option linter.unusedSimpArgs false
set_option linter.unusedSectionVars false
namespace Dk
open Go Go.Proofs Go.RowKit Go.Maps

theorem FL.cap {ao : Option Addr} {n cap : Nat} {l : List Fl} {w : World} (h : FL (.slice ao n cap) l w) : n = l.length ∧ l.length ≤ cap ∧ (l.length = 0 ∧ ao = none ∧ cap = 0 ∨ ∃ g, ao = some ⟨g, 0, none⟩) := by
  rcases h.2 with ⟨hv, h0⟩ | ⟨g, cap', cur, hv, _, _, hle, _⟩
  · simp only [Value.slice.injEq] at hv
    obtain ⟨rfl, rfl, rfl⟩ := hv
    exact ⟨h0.symm, by omega, .inl ⟨h0, rfl, rfl⟩⟩
  · simp only [Value.slice.injEq] at hv
    obtain ⟨rfl, rfl, rfl⟩ := hv
    exact ⟨rfl, hle, .inr ⟨g, rfl⟩⟩

/-- A new file, room or none in the slice. -/
theorem done_new (v : Value) (l : List Fl) (n t b : ByteArray) (w : World) (h : FL v l w) (hl : l.length < 100) (hok : okF l n = false) :
    Calls Tryz.prog 70 #[v, opR 1 n t b] w fun e w' => ∃ v, e = .returned v ∧ FL v (l.take (atN l n) ++ (n, b) :: l.drop (atN l n)) w' ∧ Below w.heap.size w w' := by
  obtain ⟨ao, cap, rfl, _⟩ := h.form
  obtain ⟨_, hc, h0 | ⟨g, rfl⟩⟩ := h.cap
  · obtain ⟨h0, rfl, rfl⟩ := h0
    obtain rfl : l = [] := List.eq_nil_of_length_eq_zero h0
    exact done_new_d n t b w h
  · have hk := atN_le l n
    by_cases h1 : atN l n < cap
    · exact done_new_a g cap l n t b w h hl hok h1 hc
    · obtain rfl : cap = atN l n := by omega
      exact done_new_c g l n t b w h hl hok (by omega)

theorem cellsF_set : ∀ (l : List Fl) (k : Nat) (hk : k < l.length) (b : ByteArray), cellsF (l.set k (l[k].1, b)) = (cellsF l).set (k * 2 + 1) (.string b)
  | [], k, hk, _ => by simp at hk
  | p :: l, 0, _, b => by simp [cellsF, Fl.cells]
  | p :: l, k + 1, hk, b => by
    have ih := cellsF_set l k (by simpa using hk) b
    simp only [cellsF, List.set_cons_succ, List.flatMap_cons, List.getElem_cons_succ] at ih ⊢
    rw [ih, show (k + 1) * 2 + 1 = (k * 2 + 1) + 1 + 1 by omega]
    simp [Fl.cells]
theorem row_set {w : World} {B g n cap k : Nat} {l : List Fl} (h : w.ownsRow B TF 2 (.slice (some ⟨g, 0, none⟩) n cap) n (cellsF l)) (hn : n = l.length) (hk : k < l.length) (b : ByteArray) :
    (w.setCell ⟨g, k * 2 + 1, none⟩ (.string b)).ownsRow B TF 2 (.slice (some ⟨g, 0, none⟩) n cap) n (cellsF (l.set k (l[k].1, b))) := by
  obtain ⟨_, h⟩ := h
  refine ⟨by rw [cellsF_length, List.length_set, ← hn], ?_⟩
  rcases h with ⟨hv, _⟩ | ⟨g', cap', cur, hv, hb, hg, hle, hmax, hcs, htake⟩
  · cases hv
  · simp only [Value.slice.injEq, Option.some.injEq, Addr.mk.injEq, and_true, true_and] at hv
    obtain ⟨rfl, rfl⟩ := hv
    refine .inr ⟨g, cap, cur.setIfInBounds (k * 2 + 1) (.string b), rfl, hb, heap_setCell hg _ _, hle, hmax, by simpa using hcs, ?_⟩
    rw [cellsF_set l k hk b, ← htake, Array.toList_setIfInBounds, List.take_set]
theorem row_at {w : World} {B n : Nat} {v : Value} {l : List Fl} (h : w.ownsRow B TF 2 v n (cellsF l)) (hn : n = l.length) (h0 : 0 < l.length) :
    ∃ g cap, v = .slice (some ⟨g, 0, none⟩) n cap ∧ B ≤ g ∧ g < w.heap.size ∧ ∀ k (hk : k < l.length), w.cell? ⟨g, k * 2 + 1, none⟩ = some (.string l[k].2) ∧ w.frozen? ⟨g, k * 2 + 1, none⟩ = false := by
  have h' := h
  rcases h'.2 with ⟨hv, hz⟩ | ⟨g, cap, cur, rfl, hb, hg, _⟩
  · omega
  · refine ⟨g, cap, rfl, hb, (Array.getElem?_eq_some_iff.1 hg).1, fun k hk => ⟨?_, Lib.frozen_of_heap hg _⟩⟩
    exact (FL.file (FL.mk h hn rfl) k hk).2
theorem appL_all {ops : Array Oper} {rest : List Oper} {o : Oper} {a : Act} {wx : World} {Q : Exit → Act → World → Prop} {l : List Fl} {g cap : Nat} (hgd : o.guard = none) (x : Operand)
    (ho : o.op = .call { callee := .builtin .append, args := #[.const (.slice none 0 0), x], argTypes := #[119, 119] })
    (c : Nat) (hx : a.eval x = .slice (some ⟨g, 0, none⟩) l.length c) (hF : FL (.slice (some ⟨g, 0, none⟩) l.length cap) l wx) (hl : l.length ≤ 1000)
    (h : ∀ v' w', w'.ownsRow wx.heap.size TF 2 v' l.length (cellsF l) → Below wx.heap.size wx w' → wpList Tryz.prog ops Q rest (a.put o.dst v') w') : wpList Tryz.prog ops Q (o :: rest) a wx := by
  obtain ⟨i0, hi0, hz0, hz1, hz2⟩ := info_parts infoF
  refine wpList_append_own wx hgd _ _ _ ho wx.heap.size TF i0 _ 2 32 Tryz.underlying119 hi0 hz0 hz1 hz2 rfl (by omega) (.slice none 0 0) 0 [] rfl (World.ownsRow_nil _ _ _ _) ⟨g, 0, none⟩ l.length c (cellsF l) hx
    (cellsF_length l) (fun j u hj => hF.cells j u hj) (cellsF_one _) (by unfold maxLen; omega) (by omega) (Nat.le_refl _) (fun v' w' h1 h2 h3 => h v' w' (by simpa using h1) ⟨h2.os, h2.tape, h2.output, h2.size, fun i hi => h2.block i hi (by simp [Value.ownBlock])⟩)

set_option maxRecDepth 100000 in
set_option maxHeartbeats 4000000 in
theorem done_set (v : Value) (l : List Fl) (n t b : ByteArray) (w : World) (h : FL v l w) (hl : l.length ≤ 100) (hok : okF l n = true) (hk : atN l n < l.length) :
    Calls Tryz.prog 70 #[v, opR 1 n t b] w fun e w' => ∃ v, e = .returned v ∧ FL v (l.set (atN l n) (l[atN l n].1, b)) w' ∧ Below w.heap.size w w' := by
  obtain ⟨ao, cap, rfl, hao⟩ := h.form
  obtain ⟨g, rfl⟩ := hao.resolve_left (by omega)
  clear hao
  have hb0 := Deep.blk_alloc_new w (.cells #[.int .i64 1, .string n, .string t, .string b] TO)
  have h1 : FL (.slice (some ⟨g, 0, none⟩) l.length cap) l (w.alloc (.cells #[.int .i64 1, .string n, .string t, .string b] TO)) := h.below ((Below.refl _ _).alloc (Nat.le_refl _) _)
  have hbl : Below w.heap.size w (w.alloc (.cells #[.int .i64 1, .string n, .string t, .string b] TO)) := (Below.refl _ _).alloc (Nat.le_refl _) _
  have hsz := (Array.getElem?_eq_some_iff.1 hb0).1
  have e3' : (w.alloc (.cells #[.int .i64 1, .string n, .string t, .string b] TO)).cell? ⟨w.heap.size, 3, none⟩ = some (.string b) := by rw [Lib.cell_of_heap hb0]; rfl
  go_enter Tryz.func70, Tryz.ntmps70
  go_wp2_with (first
    | (go_at_call 66; refine (at_any _ l n _ h1 (by omega)).mono ?_; rw [hok]; rintro e w1 ⟨rfl, dn, rfl⟩)
    | (at_builtin; go_loud (refine appL_all (l := l) (g := g) (cap := cap) (by rfl) (.tmp 38) (by rfl) cap (by rfl) h1 (by omega) ?_); go_loud (intro v1 w3 hown1 hB3; obtain ⟨g1, cap1, rfl, hg1, hg1', hcell⟩ := row_at hown1 rfl (by omega); obtain ⟨s1, f1⟩ := hcell (atN l n) hk; have e3 : w3.cell? ⟨w.heap.size, 3, none⟩ = some (.string b) := (hB3.cell (p := ⟨w.heap.size, 3, none⟩) hsz).trans e3'))
    | fail)
  have hB : Below w.heap.size w w3 := ⟨hB3.os.trans hbl.os, hB3.tape, hB3.output, Nat.le_trans hbl.size hB3.size, fun k hk => (hB3.block k (Nat.lt_of_lt_of_le hk hbl.size)).trans (hbl.block k hk)⟩
  go_ret
  exact ⟨_, rfl, FL.mk (row_set hown1 rfl hk b) (by simp) rfl, hB.setCell (p := ⟨g1, atN l n * 2 + 1, none⟩) (Nat.le_trans hbl.size hg1) _⟩

set_option maxRecDepth 100000 in
set_option maxHeartbeats 4000000 in
theorem done_full (v : Value) (l : List Fl) (n t b : ByteArray) (w : World) (h : FL v l w) (hl : l.length ≤ 1000) (hl' : 100 ≤ l.length) (hok : okF l n = false) :
    Calls Tryz.prog 70 #[v, opR 1 n t b] w fun e w' => e = .returned v ∧ FL v l w' ∧ Below w.heap.size w w' := by
  obtain ⟨ao, cap, rfl, _⟩ := h.form
  have h1 : FL (.slice ao l.length cap) l (w.alloc (.cells #[.int .i64 1, .string n, .string t, .string b] TO)) := h.below ((Below.refl _ _).alloc (Nat.le_refl _) _)
  have hbl : Below w.heap.size w (w.alloc (.cells #[.int .i64 1, .string n, .string t, .string b] TO)) := (Below.refl _ _).alloc (Nat.le_refl _) _
  go_enter Tryz.func70, Tryz.ntmps70
  go_wp2_with (first
    | (go_at_call 66; refine (at_any _ l n _ h1 (by omega)).mono ?_; rw [hok]; rintro e w1 ⟨rfl, dn, rfl⟩)
    | fail)
  go_ret
  exact ⟨rfl, h1, ⟨hbl.os, hbl.tape, hbl.output, hbl.size, hbl.block⟩⟩

set_option maxRecDepth 100000 in
set_option maxHeartbeats 4000000 in
theorem done_none (v : Value) (l : List Fl) (k : Int) (n t b : ByteArray) (w : World) (h : FL v l w) (hl : l.length ≤ 1000) (hk : k = 2 ∨ k = 3) (hok : okF l n = false) :
    Calls Tryz.prog 70 #[v, opR k n t b] w fun e w' => e = .returned v ∧ FL v l w' ∧ Below w.heap.size w w' := by
  obtain ⟨ao, cap, rfl, _⟩ := h.form
  rcases hk with rfl | rfl
  · have h1 : FL (.slice ao l.length cap) l (w.alloc (.cells #[.int .i64 2, .string n, .string t, .string b] TO)) := h.below ((Below.refl _ _).alloc (Nat.le_refl _) _)
    have hbl : Below w.heap.size w (w.alloc (.cells #[.int .i64 2, .string n, .string t, .string b] TO)) := (Below.refl _ _).alloc (Nat.le_refl _) _
    go_enter Tryz.func70, Tryz.ntmps70
    go_wp2_with (first
      | (go_at_call 66; refine (at_any _ l n _ h1 (by omega)).mono ?_; rw [hok]; rintro e w1 ⟨rfl, dn, rfl⟩)
      | fail)
    go_ret
    exact ⟨rfl, h1, ⟨hbl.os, hbl.tape, hbl.output, hbl.size, hbl.block⟩⟩
  · have h1 : FL (.slice ao l.length cap) l (w.alloc (.cells #[.int .i64 3, .string n, .string t, .string b] TO)) := h.below ((Below.refl _ _).alloc (Nat.le_refl _) _)
    have hbl : Below w.heap.size w (w.alloc (.cells #[.int .i64 3, .string n, .string t, .string b] TO)) := (Below.refl _ _).alloc (Nat.le_refl _) _
    go_enter Tryz.func70, Tryz.ntmps70
    go_wp2_with (first
      | (go_at_call 66; refine (at_any _ l n _ h1 (by omega)).mono ?_; rw [hok]; rintro e w1 ⟨rfl, dn, rfl⟩)
      | fail)
    go_ret
    exact ⟨rfl, h1, ⟨hbl.os, hbl.tape, hbl.output, hbl.size, hbl.block⟩⟩
end Dk
namespace Dk
open Go Go.Proofs Go.RowKit Go.Maps

theorem wrap_nat (n : Nat) (h : n < 1000000) : IntKind.i64.wrap (n : Int) = n := by
  have e : (n : Int) % 2 ^ 64 = n := Int.emod_eq_of_lt (by omega) (by omega)
  simp only [IntKind.wrap, IntKind.bits, IntKind.signed, e]
  rw [if_neg]
  simp
  omega
theorem okF_lt {l : List Fl} {n : ByteArray} (h : okF l n = true) : atN l n < l.length := by
  by_cases h1 : atN l n < l.length
  · exact h1
  · rw [okF_end (by omega)] at h; cases h
/-- A file written. -/
def writeF (l : List Fl) (n b : ByteArray) : List Fl :=
  if h : okF l n = true then l.set (atN l n) ((l[atN l n]'(okF_lt h)).1, b) else if 100 ≤ l.length then l else l.take (atN l n) ++ (n, b) :: l.drop (atN l n)
theorem writeF_length (l : List Fl) (n b : ByteArray) (hl : l.length ≤ 100) : (writeF l n b).length ≤ 100 := by
  have := atN_le l n
  unfold writeF
  split
  · simpa using hl
  · split
    · exact hl
    · simp; omega
theorem done_write (v : Value) (l : List Fl) (n t b : ByteArray) (w : World) (h : FL v l w) (hl : l.length ≤ 100) :
    Calls Tryz.prog 70 #[v, opR 1 n t b] w fun e w' => ∃ v, e = .returned v ∧ FL v (writeF l n b) w' ∧ Below w.heap.size w w' := by
  by_cases hok : okF l n = true
  · have := done_set v l n t b w h hl hok (okF_lt hok)
    unfold writeF
    rw [dif_pos hok]
    exact this
  · have hok' : okF l n = false := Bool.eq_false_iff.2 hok
    unfold writeF
    rw [dif_neg hok]
    by_cases h1 : 100 ≤ l.length
    · rw [if_pos h1]
      exact (done_full v l n t b w h (by omega) h1 hok').mono fun e w' h => ⟨v, h⟩
    · rw [if_neg h1]
      exact done_new v l n t b w h (by omega) hok'
/-- What is left without a file. -/
def restF (l : List Fl) (n : ByteArray) : List Fl := l.take (atN l n) ++ l.drop (atN l n + 1)
theorem restF_length (l : List Fl) (n : ByteArray) (hl : l.length ≤ 100) : (restF l n).length ≤ 100 := by
  unfold restF; simp; omega
def getF (l : List Fl) (n : ByteArray) : ByteArray := match l[atN l n]? with
  | some p => p.2
  | none => ⟨#[]⟩
theorem getF_at {l : List Fl} {n : ByteArray} (h : atN l n < l.length) : getF l n = l[atN l n].2 := by
  unfold getF
  rw [List.getElem?_eq_getElem h]

set_option maxRecDepth 100000 in
set_option maxHeartbeats 4000000 in
theorem done_leave_3a (g cap : Nat) (l : List Fl) (n t b : ByteArray) (w : World) (k k1 : Nat) (h : FL (.slice (some ⟨g, 0, none⟩) l.length cap) l w) (hl : l.length ≤ 100) (hok : okF l n = true) (hkk : atN l n = k) (hk1 : k1 = k + 1) (hk : k < l.length) (hc : k1 < cap) (hlc : l.length ≤ cap) :
    Calls Tryz.prog 70 #[(.slice (some ⟨g, 0, none⟩) l.length cap), opR 3 n t b] w fun e w' => ∃ v, e = .returned v ∧ FL v (restF l n) w' ∧ Below w.heap.size w w' := by
  have hb0 := Deep.blk_alloc_new w (.cells #[.int .i64 3, .string n, .string t, .string b] TO)
  have h1 : FL (.slice (some ⟨g, 0, none⟩) l.length cap) l (w.alloc (.cells #[.int .i64 3, .string n, .string t, .string b] TO)) := h.below ((Below.refl _ _).alloc (Nat.le_refl _) _)
  have hbl : Below w.heap.size w (w.alloc (.cells #[.int .i64 3, .string n, .string t, .string b] TO)) := (Below.refl _ _).alloc (Nat.le_refl _) _
  obtain ⟨x, hx⟩ : ∃ x, x = l[k].2 := ⟨_, rfl⟩
  have hgx := Lib.hid (show getF l n = x by subst hkk; exact (getF_at hk).trans hx.symm)
  have hrest := Lib.hid (show restF l n = l.take k ++ l.drop k1 by subst hk1; subst hkk; rfl)
  have hkk' := Lib.hid hkk
  have hk1' := Lib.hid hk1
  have i1 : k ≤ l.length := by omega
  have i2 : (0 : Int) ≤ (k : Int) := by omega
  have i3 : (k : Int) ≤ (l.length : Int) := by omega
  have i4 : (0 : Int) ≤ (k1 : Int) := by omega
  have i5 : (k1 : Int) ≤ (l.length : Int) := by omega
  have i6 : k1 ≤ l.length := by omega
  have i7 : (k : Int) ≤ (cap : Int) := by omega
  have i8 : (k1 : Int) ≤ (cap : Int) := by omega
  have i9 : ¬ cap = k1 := by omega
  have wr : IntKind.i64.wrap ((k : Int) + 1) = (k1 : Int) := by rw [show (k : Int) + 1 = (k1 : Int) by omega]; exact wrap_nat k1 (by omega)
  have s1 : (w.alloc (.cells #[.int .i64 3, .string n, .string t, .string b] TO)).cell? ⟨g, k * 2 + 1, none⟩ = some (.string x) := by rw [hx]; exact (h1.file _ hk).2
  clear hx hkk hk1
  go_enter Tryz.func70, Tryz.ntmps70
  go_wp2_with (first
    | (go_at_call 66; refine (at_any _ l n _ h1 (by omega)).mono ?_; rw [hok, hkk'.out]; rintro e w1 ⟨rfl, dn, rfl⟩; have s2 : ((w.alloc (.cells #[.int .i64 3, .string n, .string t, .string b] TO)).drewN dn).cell? ⟨g, k * 2 + 1, none⟩ = some (.string x) := s1)
    | fail)
  have hb1 : ((w.alloc (.cells #[.int .i64 3, .string n, .string t, .string b] TO)).drewN dn).heap[w.heap.size]? = some (.cells #[.int .i64 3, .string n, .string t, .string b] TO (0, 0)) := hb0
  have h2 : FL (.slice (some ⟨g, 0, none⟩) l.length cap) l ((w.alloc (.cells #[.int .i64 3, .string n, .string t, .string b] TO)).drewN dn) := h1
  have hbW : Below w.heap.size w ((w.alloc (.cells #[.int .i64 3, .string n, .string t, .string b] TO)).drewN dn) := ⟨hbl.os, hbl.tape, hbl.output, hbl.size, hbl.block⟩
  clear hb0 h1 hbl s1 s2
  generalize (w.alloc (.cells #[.int .i64 3, .string n, .string t, .string b] TO)).drewN dn = W at *
  have b0 : W.cell? ⟨w.heap.size, 0, none⟩ = some (.int .i64 3) := by rw [Lib.cell_of_heap hb1]; rfl
  have b2 : W.cell? ⟨w.heap.size, 2, none⟩ = some (.string t) := by rw [Lib.cell_of_heap hb1]; rfl
  have hsz : w.heap.size < W.heap.size := (Array.getElem?_eq_some_iff.1 hb1).1
  have hB : Below W.heap.size W W.drew := (Below.refl _ _).drew
  go_region_held3 (fun w' => Below W.heap.size W w' ∧ w'.cell? ⟨w.heap.size, 0, none⟩ = some (.int .i64 3) ∧ w'.cell? ⟨w.heap.size, 2, none⟩ = some (.string t))
    ((go_split_ands; refine ⟨?_, ?_, ?_⟩ <;> first
      | go_keep
      | exact (by assumption : Below W.heap.size W _).trans (hg1.mono (by assumption : Below W.heap.size W _).size)
      | exact (((by assumption : Below W.heap.size W _).trans (hg1.mono (by assumption : Below W.heap.size W _).size)).cell (p := ⟨w.heap.size, 0, none⟩) hsz).trans b0
      | exact (((by assumption : Below W.heap.size W _).trans (hg1.mono (by assumption : Below W.heap.size W _).size)).cell (p := ⟨w.heap.size, 2, none⟩) hsz).trans b2
      | exact Below.grown (by assumption) hg3 (by assumption : Below W.heap.size W _).size (fun k hk => (World.ownsRow.lt hown1 k hk).1)
      | exact ((Below.grown (by assumption) hg3 (by assumption : Below W.heap.size W _).size (fun k hk => (World.ownsRow.lt hown1 k hk).1)).cell (p := ⟨w.heap.size, 0, none⟩) hsz).trans b0
      | exact ((Below.grown (by assumption) hg3 (by assumption : Below W.heap.size W _).size (fun k hk => (World.ownsRow.lt hown1 k hk).1)).cell (p := ⟨w.heap.size, 2, none⟩) hsz).trans b2))
    (first
      | (refine app_nil (by rfl) (.tmp 77) (by rfl) k cap (by rfl) (by go_split_ands; assumption) h2 (by omega) (by omega) ?_; intro v1 w3 hown1 hg1)
      | (refine app_tail (by rfl) (.tmp 78) (.tmp 82) (by rfl) k k1 (l.length - k1) (cap - k1) (by rfl) v1 _ (by rfl) hown1 h2 (by go_split_ands; assumption) (by omega) (by omega) (by omega) (by omega) ?_; intro v3 w5 hown3 hg3))
  all_goals
    have hB5 : Below W.heap.size W w5 := (by go_split_ands; assumption)
    have c0 : w5.cell? ⟨w.heap.size, 0, none⟩ = some (.int .i64 3) := (by go_split_ands; assumption)
    have c2 : w5.cell? ⟨w.heap.size, 2, none⟩ = some (.string t) := (by go_split_ands; assumption)
    have hF5 : FL v3 (restF l n) w5 := FL.mk (l := restF l n) hown3 (by rw [hrest.out]; have := hk1'.out; simp; omega) (by rw [hrest.out]; simp [cellsF])
    go_wp2
    go_ret
    exact ⟨v3, rfl, hF5, hbW.trans (hB5.mono hbW.size)⟩

set_option maxRecDepth 100000 in
set_option maxHeartbeats 4000000 in
theorem done_leave_3c (g : Nat) (l : List Fl) (n t b : ByteArray) (w : World) (k k1 : Nat) (h : FL (.slice (some ⟨g, 0, none⟩) l.length k1) l w) (hl : l.length ≤ 100) (hok : okF l n = true) (hkk : atN l n = k) (hk1 : k1 = k + 1) (hk : k < l.length) (hlc : l.length ≤ k1) :
    Calls Tryz.prog 70 #[(.slice (some ⟨g, 0, none⟩) l.length k1), opR 3 n t b] w fun e w' => ∃ v, e = .returned v ∧ FL v (restF l n) w' ∧ Below w.heap.size w w' := by
  have hb0 := Deep.blk_alloc_new w (.cells #[.int .i64 3, .string n, .string t, .string b] TO)
  have h1 : FL (.slice (some ⟨g, 0, none⟩) l.length k1) l (w.alloc (.cells #[.int .i64 3, .string n, .string t, .string b] TO)) := h.below ((Below.refl _ _).alloc (Nat.le_refl _) _)
  have hbl : Below w.heap.size w (w.alloc (.cells #[.int .i64 3, .string n, .string t, .string b] TO)) := (Below.refl _ _).alloc (Nat.le_refl _) _
  obtain ⟨x, hx⟩ : ∃ x, x = l[k].2 := ⟨_, rfl⟩
  have hgx := Lib.hid (show getF l n = x by subst hkk; exact (getF_at hk).trans hx.symm)
  have hrest := Lib.hid (show restF l n = l.take k ++ l.drop k1 by subst hk1; subst hkk; rfl)
  have hkk' := Lib.hid hkk
  have hk1' := Lib.hid hk1
  have i1 : k ≤ l.length := by omega
  have i2 : (0 : Int) ≤ (k : Int) := by omega
  have i3 : (k : Int) ≤ (l.length : Int) := by omega
  have i4 : (0 : Int) ≤ (k1 : Int) := by omega
  have i5 : (k1 : Int) ≤ (l.length : Int) := by omega
  have i6 : k1 ≤ l.length := by omega
  have i7 : (k : Int) ≤ (k1 : Int) := by omega
  have i8 : k ≤ k1 := by omega
  have wr : IntKind.i64.wrap ((k : Int) + 1) = (k1 : Int) := by rw [show (k : Int) + 1 = (k1 : Int) by omega]; exact wrap_nat k1 (by omega)
  have s1 : (w.alloc (.cells #[.int .i64 3, .string n, .string t, .string b] TO)).cell? ⟨g, k * 2 + 1, none⟩ = some (.string x) := by rw [hx]; exact (h1.file _ hk).2
  clear hx hkk hk1
  go_enter Tryz.func70, Tryz.ntmps70
  go_wp2_with (first
    | (go_at_call 66; refine (at_any _ l n _ h1 (by omega)).mono ?_; rw [hok, hkk'.out]; rintro e w1 ⟨rfl, dn, rfl⟩; have s2 : ((w.alloc (.cells #[.int .i64 3, .string n, .string t, .string b] TO)).drewN dn).cell? ⟨g, k * 2 + 1, none⟩ = some (.string x) := s1)
    | fail)
  have hb1 : ((w.alloc (.cells #[.int .i64 3, .string n, .string t, .string b] TO)).drewN dn).heap[w.heap.size]? = some (.cells #[.int .i64 3, .string n, .string t, .string b] TO (0, 0)) := hb0
  have h2 : FL (.slice (some ⟨g, 0, none⟩) l.length k1) l ((w.alloc (.cells #[.int .i64 3, .string n, .string t, .string b] TO)).drewN dn) := h1
  have hbW : Below w.heap.size w ((w.alloc (.cells #[.int .i64 3, .string n, .string t, .string b] TO)).drewN dn) := ⟨hbl.os, hbl.tape, hbl.output, hbl.size, hbl.block⟩
  clear hb0 h1 hbl s1 s2
  generalize (w.alloc (.cells #[.int .i64 3, .string n, .string t, .string b] TO)).drewN dn = W at *
  have b0 : W.cell? ⟨w.heap.size, 0, none⟩ = some (.int .i64 3) := by rw [Lib.cell_of_heap hb1]; rfl
  have b2 : W.cell? ⟨w.heap.size, 2, none⟩ = some (.string t) := by rw [Lib.cell_of_heap hb1]; rfl
  have hsz : w.heap.size < W.heap.size := (Array.getElem?_eq_some_iff.1 hb1).1
  have hB : Below W.heap.size W W.drew := (Below.refl _ _).drew
  go_region_held3 (fun w' => Below W.heap.size W w' ∧ w'.cell? ⟨w.heap.size, 0, none⟩ = some (.int .i64 3) ∧ w'.cell? ⟨w.heap.size, 2, none⟩ = some (.string t))
    ((go_split_ands; refine ⟨?_, ?_, ?_⟩ <;> first
      | go_keep
      | exact (by assumption : Below W.heap.size W _).trans (hg1.mono (by assumption : Below W.heap.size W _).size)
      | exact (((by assumption : Below W.heap.size W _).trans (hg1.mono (by assumption : Below W.heap.size W _).size)).cell (p := ⟨w.heap.size, 0, none⟩) hsz).trans b0
      | exact (((by assumption : Below W.heap.size W _).trans (hg1.mono (by assumption : Below W.heap.size W _).size)).cell (p := ⟨w.heap.size, 2, none⟩) hsz).trans b2
      | exact Below.grown (by assumption) hg3 (by assumption : Below W.heap.size W _).size (fun k hk => (World.ownsRow.lt hown1 k hk).1)
      | exact ((Below.grown (by assumption) hg3 (by assumption : Below W.heap.size W _).size (fun k hk => (World.ownsRow.lt hown1 k hk).1)).cell (p := ⟨w.heap.size, 0, none⟩) hsz).trans b0
      | exact ((Below.grown (by assumption) hg3 (by assumption : Below W.heap.size W _).size (fun k hk => (World.ownsRow.lt hown1 k hk).1)).cell (p := ⟨w.heap.size, 2, none⟩) hsz).trans b2))
    (first
      | (refine app_nil (by rfl) (.tmp 77) (by rfl) k k1 (by rfl) (by go_split_ands; assumption) h2 (by omega) (by omega) ?_; intro v1 w3 hown1 hg1)
      | (refine app_zero (by rfl) (.tmp 78) (.tmp 82) (by rfl) k 0 _ ⟨g, 0, none⟩ (by rfl) rfl v1 _ (by rfl) hown1 (by go_split_ands; assumption) (by omega) ?_; intro v3 w5 hown3 hg3))
  all_goals
    have hB5 : Below W.heap.size W w5 := (by go_split_ands; assumption)
    have c0 : w5.cell? ⟨w.heap.size, 0, none⟩ = some (.int .i64 3) := (by go_split_ands; assumption)
    have c2 : w5.cell? ⟨w.heap.size, 2, none⟩ = some (.string t) := (by go_split_ands; assumption)
    have hF5 : FL v3 (restF l n) w5 := FL.mk (l := restF l n) hown3 (by rw [hrest.out]; have := hk1'.out; simp; omega) (by rw [hrest.out]; rw [List.drop_eq_nil_of_le (by omega), List.append_nil])
    go_wp2
    go_ret
    exact ⟨v3, rfl, hF5, hbW.trans (hB5.mono hbW.size)⟩

set_option maxRecDepth 100000 in
set_option maxHeartbeats 4000000 in
theorem done_leave_2a (g cap : Nat) (l : List Fl) (n t b : ByteArray) (w : World) (k k1 : Nat) (h : FL (.slice (some ⟨g, 0, none⟩) l.length cap) l w) (hl : l.length ≤ 100) (hok : okF l n = true) (hkk : atN l n = k) (hk1 : k1 = k + 1) (hk : k < l.length) (hc : k1 < cap) (hlc : l.length ≤ cap) :
    Calls Tryz.prog 70 #[(.slice (some ⟨g, 0, none⟩) l.length cap), opR 2 n t b] w fun e w' => ∃ v, e = .returned v ∧ FL v (writeF (restF l n) t (getF l n)) w' ∧ Below w.heap.size w w' := by
  have hb0 := Deep.blk_alloc_new w (.cells #[.int .i64 2, .string n, .string t, .string b] TO)
  have h1 : FL (.slice (some ⟨g, 0, none⟩) l.length cap) l (w.alloc (.cells #[.int .i64 2, .string n, .string t, .string b] TO)) := h.below ((Below.refl _ _).alloc (Nat.le_refl _) _)
  have hbl : Below w.heap.size w (w.alloc (.cells #[.int .i64 2, .string n, .string t, .string b] TO)) := (Below.refl _ _).alloc (Nat.le_refl _) _
  obtain ⟨x, hx⟩ : ∃ x, x = l[k].2 := ⟨_, rfl⟩
  have hgx := Lib.hid (show getF l n = x by subst hkk; exact (getF_at hk).trans hx.symm)
  have hrest := Lib.hid (show restF l n = l.take k ++ l.drop k1 by subst hk1; subst hkk; rfl)
  have hkk' := Lib.hid hkk
  have hk1' := Lib.hid hk1
  have i1 : k ≤ l.length := by omega
  have i2 : (0 : Int) ≤ (k : Int) := by omega
  have i3 : (k : Int) ≤ (l.length : Int) := by omega
  have i4 : (0 : Int) ≤ (k1 : Int) := by omega
  have i5 : (k1 : Int) ≤ (l.length : Int) := by omega
  have i6 : k1 ≤ l.length := by omega
  have i7 : (k : Int) ≤ (cap : Int) := by omega
  have i8 : (k1 : Int) ≤ (cap : Int) := by omega
  have i9 : ¬ cap = k1 := by omega
  have wr : IntKind.i64.wrap ((k : Int) + 1) = (k1 : Int) := by rw [show (k : Int) + 1 = (k1 : Int) by omega]; exact wrap_nat k1 (by omega)
  have s1 : (w.alloc (.cells #[.int .i64 2, .string n, .string t, .string b] TO)).cell? ⟨g, k * 2 + 1, none⟩ = some (.string x) := by rw [hx]; exact (h1.file _ hk).2
  clear hx hkk hk1
  go_enter Tryz.func70, Tryz.ntmps70
  go_wp2_with (first
    | (go_at_call 66; refine (at_any _ l n _ h1 (by omega)).mono ?_; rw [hok, hkk'.out]; rintro e w1 ⟨rfl, dn, rfl⟩; have s2 : ((w.alloc (.cells #[.int .i64 2, .string n, .string t, .string b] TO)).drewN dn).cell? ⟨g, k * 2 + 1, none⟩ = some (.string x) := s1)
    | fail)
  have hb1 : ((w.alloc (.cells #[.int .i64 2, .string n, .string t, .string b] TO)).drewN dn).heap[w.heap.size]? = some (.cells #[.int .i64 2, .string n, .string t, .string b] TO (0, 0)) := hb0
  have h2 : FL (.slice (some ⟨g, 0, none⟩) l.length cap) l ((w.alloc (.cells #[.int .i64 2, .string n, .string t, .string b] TO)).drewN dn) := h1
  have hbW : Below w.heap.size w ((w.alloc (.cells #[.int .i64 2, .string n, .string t, .string b] TO)).drewN dn) := ⟨hbl.os, hbl.tape, hbl.output, hbl.size, hbl.block⟩
  clear hb0 h1 hbl s1 s2
  generalize (w.alloc (.cells #[.int .i64 2, .string n, .string t, .string b] TO)).drewN dn = W at *
  have b0 : W.cell? ⟨w.heap.size, 0, none⟩ = some (.int .i64 2) := by rw [Lib.cell_of_heap hb1]; rfl
  have b2 : W.cell? ⟨w.heap.size, 2, none⟩ = some (.string t) := by rw [Lib.cell_of_heap hb1]; rfl
  have hsz : w.heap.size < W.heap.size := (Array.getElem?_eq_some_iff.1 hb1).1
  have hB : Below W.heap.size W W.drew := (Below.refl _ _).drew
  go_region_held3 (fun w' => Below W.heap.size W w' ∧ w'.cell? ⟨w.heap.size, 0, none⟩ = some (.int .i64 2) ∧ w'.cell? ⟨w.heap.size, 2, none⟩ = some (.string t))
    ((go_split_ands; refine ⟨?_, ?_, ?_⟩ <;> first
      | go_keep
      | exact (by assumption : Below W.heap.size W _).trans (hg1.mono (by assumption : Below W.heap.size W _).size)
      | exact (((by assumption : Below W.heap.size W _).trans (hg1.mono (by assumption : Below W.heap.size W _).size)).cell (p := ⟨w.heap.size, 0, none⟩) hsz).trans b0
      | exact (((by assumption : Below W.heap.size W _).trans (hg1.mono (by assumption : Below W.heap.size W _).size)).cell (p := ⟨w.heap.size, 2, none⟩) hsz).trans b2
      | exact Below.grown (by assumption) hg3 (by assumption : Below W.heap.size W _).size (fun k hk => (World.ownsRow.lt hown1 k hk).1)
      | exact ((Below.grown (by assumption) hg3 (by assumption : Below W.heap.size W _).size (fun k hk => (World.ownsRow.lt hown1 k hk).1)).cell (p := ⟨w.heap.size, 0, none⟩) hsz).trans b0
      | exact ((Below.grown (by assumption) hg3 (by assumption : Below W.heap.size W _).size (fun k hk => (World.ownsRow.lt hown1 k hk).1)).cell (p := ⟨w.heap.size, 2, none⟩) hsz).trans b2))
    (first
      | (refine app_nil (by rfl) (.tmp 77) (by rfl) k cap (by rfl) (by go_split_ands; assumption) h2 (by omega) (by omega) ?_; intro v1 w3 hown1 hg1)
      | (refine app_tail (by rfl) (.tmp 78) (.tmp 82) (by rfl) k k1 (l.length - k1) (cap - k1) (by rfl) v1 _ (by rfl) hown1 h2 (by go_split_ands; assumption) (by omega) (by omega) (by omega) (by omega) ?_; intro v3 w5 hown3 hg3))
  all_goals
    have hB5 : Below W.heap.size W w5 := (by go_split_ands; assumption)
    have c0 : w5.cell? ⟨w.heap.size, 0, none⟩ = some (.int .i64 2) := (by go_split_ands; assumption)
    have c2 : w5.cell? ⟨w.heap.size, 2, none⟩ = some (.string t) := (by go_split_ands; assumption)
    have hF5 : FL v3 (restF l n) w5 := FL.mk (l := restF l n) hown3 (by rw [hrest.out]; have := hk1'.out; simp; omega) (by rw [hrest.out]; simp [cellsF])
    go_wp2_with (first
      | (go_at_call 70; refine (done_write v3 _ t ⟨#[]⟩ x _ hF5 (restF_length l n hl)).mono ?_; rintro e w6 ⟨v4, rfl, hF6, hB6⟩)
      | fail)
    go_ret
    rw [hgx.out]
    exact ⟨v4, rfl, hF6, (hbW.trans (hB5.mono hbW.size)).trans (hB6.mono (Nat.le_trans hbW.size hB5.size))⟩

set_option maxRecDepth 100000 in
set_option maxHeartbeats 4000000 in
theorem done_leave_2c (g : Nat) (l : List Fl) (n t b : ByteArray) (w : World) (k k1 : Nat) (h : FL (.slice (some ⟨g, 0, none⟩) l.length k1) l w) (hl : l.length ≤ 100) (hok : okF l n = true) (hkk : atN l n = k) (hk1 : k1 = k + 1) (hk : k < l.length) (hlc : l.length ≤ k1) :
    Calls Tryz.prog 70 #[(.slice (some ⟨g, 0, none⟩) l.length k1), opR 2 n t b] w fun e w' => ∃ v, e = .returned v ∧ FL v (writeF (restF l n) t (getF l n)) w' ∧ Below w.heap.size w w' := by
  have hb0 := Deep.blk_alloc_new w (.cells #[.int .i64 2, .string n, .string t, .string b] TO)
  have h1 : FL (.slice (some ⟨g, 0, none⟩) l.length k1) l (w.alloc (.cells #[.int .i64 2, .string n, .string t, .string b] TO)) := h.below ((Below.refl _ _).alloc (Nat.le_refl _) _)
  have hbl : Below w.heap.size w (w.alloc (.cells #[.int .i64 2, .string n, .string t, .string b] TO)) := (Below.refl _ _).alloc (Nat.le_refl _) _
  obtain ⟨x, hx⟩ : ∃ x, x = l[k].2 := ⟨_, rfl⟩
  have hgx := Lib.hid (show getF l n = x by subst hkk; exact (getF_at hk).trans hx.symm)
  have hrest := Lib.hid (show restF l n = l.take k ++ l.drop k1 by subst hk1; subst hkk; rfl)
  have hkk' := Lib.hid hkk
  have hk1' := Lib.hid hk1
  have i1 : k ≤ l.length := by omega
  have i2 : (0 : Int) ≤ (k : Int) := by omega
  have i3 : (k : Int) ≤ (l.length : Int) := by omega
  have i4 : (0 : Int) ≤ (k1 : Int) := by omega
  have i5 : (k1 : Int) ≤ (l.length : Int) := by omega
  have i6 : k1 ≤ l.length := by omega
  have i7 : (k : Int) ≤ (k1 : Int) := by omega
  have i8 : k ≤ k1 := by omega
  have wr : IntKind.i64.wrap ((k : Int) + 1) = (k1 : Int) := by rw [show (k : Int) + 1 = (k1 : Int) by omega]; exact wrap_nat k1 (by omega)
  have s1 : (w.alloc (.cells #[.int .i64 2, .string n, .string t, .string b] TO)).cell? ⟨g, k * 2 + 1, none⟩ = some (.string x) := by rw [hx]; exact (h1.file _ hk).2
  clear hx hkk hk1
  go_enter Tryz.func70, Tryz.ntmps70
  go_wp2_with (first
    | (go_at_call 66; refine (at_any _ l n _ h1 (by omega)).mono ?_; rw [hok, hkk'.out]; rintro e w1 ⟨rfl, dn, rfl⟩; have s2 : ((w.alloc (.cells #[.int .i64 2, .string n, .string t, .string b] TO)).drewN dn).cell? ⟨g, k * 2 + 1, none⟩ = some (.string x) := s1)
    | fail)
  have hb1 : ((w.alloc (.cells #[.int .i64 2, .string n, .string t, .string b] TO)).drewN dn).heap[w.heap.size]? = some (.cells #[.int .i64 2, .string n, .string t, .string b] TO (0, 0)) := hb0
  have h2 : FL (.slice (some ⟨g, 0, none⟩) l.length k1) l ((w.alloc (.cells #[.int .i64 2, .string n, .string t, .string b] TO)).drewN dn) := h1
  have hbW : Below w.heap.size w ((w.alloc (.cells #[.int .i64 2, .string n, .string t, .string b] TO)).drewN dn) := ⟨hbl.os, hbl.tape, hbl.output, hbl.size, hbl.block⟩
  clear hb0 h1 hbl s1 s2
  generalize (w.alloc (.cells #[.int .i64 2, .string n, .string t, .string b] TO)).drewN dn = W at *
  have b0 : W.cell? ⟨w.heap.size, 0, none⟩ = some (.int .i64 2) := by rw [Lib.cell_of_heap hb1]; rfl
  have b2 : W.cell? ⟨w.heap.size, 2, none⟩ = some (.string t) := by rw [Lib.cell_of_heap hb1]; rfl
  have hsz : w.heap.size < W.heap.size := (Array.getElem?_eq_some_iff.1 hb1).1
  have hB : Below W.heap.size W W.drew := (Below.refl _ _).drew
  go_region_held3 (fun w' => Below W.heap.size W w' ∧ w'.cell? ⟨w.heap.size, 0, none⟩ = some (.int .i64 2) ∧ w'.cell? ⟨w.heap.size, 2, none⟩ = some (.string t))
    ((go_split_ands; refine ⟨?_, ?_, ?_⟩ <;> first
      | go_keep
      | exact (by assumption : Below W.heap.size W _).trans (hg1.mono (by assumption : Below W.heap.size W _).size)
      | exact (((by assumption : Below W.heap.size W _).trans (hg1.mono (by assumption : Below W.heap.size W _).size)).cell (p := ⟨w.heap.size, 0, none⟩) hsz).trans b0
      | exact (((by assumption : Below W.heap.size W _).trans (hg1.mono (by assumption : Below W.heap.size W _).size)).cell (p := ⟨w.heap.size, 2, none⟩) hsz).trans b2
      | exact Below.grown (by assumption) hg3 (by assumption : Below W.heap.size W _).size (fun k hk => (World.ownsRow.lt hown1 k hk).1)
      | exact ((Below.grown (by assumption) hg3 (by assumption : Below W.heap.size W _).size (fun k hk => (World.ownsRow.lt hown1 k hk).1)).cell (p := ⟨w.heap.size, 0, none⟩) hsz).trans b0
      | exact ((Below.grown (by assumption) hg3 (by assumption : Below W.heap.size W _).size (fun k hk => (World.ownsRow.lt hown1 k hk).1)).cell (p := ⟨w.heap.size, 2, none⟩) hsz).trans b2))
    (first
      | (refine app_nil (by rfl) (.tmp 77) (by rfl) k k1 (by rfl) (by go_split_ands; assumption) h2 (by omega) (by omega) ?_; intro v1 w3 hown1 hg1)
      | (refine app_zero (by rfl) (.tmp 78) (.tmp 82) (by rfl) k 0 _ ⟨g, 0, none⟩ (by rfl) rfl v1 _ (by rfl) hown1 (by go_split_ands; assumption) (by omega) ?_; intro v3 w5 hown3 hg3))
  all_goals
    have hB5 : Below W.heap.size W w5 := (by go_split_ands; assumption)
    have c0 : w5.cell? ⟨w.heap.size, 0, none⟩ = some (.int .i64 2) := (by go_split_ands; assumption)
    have c2 : w5.cell? ⟨w.heap.size, 2, none⟩ = some (.string t) := (by go_split_ands; assumption)
    have hF5 : FL v3 (restF l n) w5 := FL.mk (l := restF l n) hown3 (by rw [hrest.out]; have := hk1'.out; simp; omega) (by rw [hrest.out]; rw [List.drop_eq_nil_of_le (by omega), List.append_nil])
    go_wp2_with (first
      | (go_at_call 70; refine (done_write v3 _ t ⟨#[]⟩ x _ hF5 (restF_length l n hl)).mono ?_; rintro e w6 ⟨v4, rfl, hF6, hB6⟩)
      | fail)
    go_ret
    rw [hgx.out]
    exact ⟨v4, rfl, hF6, (hbW.trans (hB5.mono hbW.size)).trans (hB6.mono (Nat.le_trans hbW.size hB5.size))⟩

/-- An operation done. -/
def doneF (l : List Fl) (k : Int) (n t b : ByteArray) : List Fl :=
  if k = 1 then writeF l n b else if okF l n = false then l else if k = 2 then writeF (restF l n) t (getF l n) else restF l n
theorem doneF_length (l : List Fl) (k : Int) (n t b : ByteArray) (hl : l.length ≤ 100) : (doneF l k n t b).length ≤ 100 := by
  unfold doneF
  split
  · exact writeF_length _ _ _ hl
  · split
    · exact hl
    · split
      · exact writeF_length _ _ _ (restF_length _ _ hl)
      · exact restF_length _ _ hl
theorem done_any (v : Value) (l : List Fl) (k : Int) (n t b : ByteArray) (w : World) (h : FL v l w) (hl : l.length ≤ 100) (hk : k = 1 ∨ k = 2 ∨ k = 3) :
    Calls Tryz.prog 70 #[v, opR k n t b] w fun e w' => ∃ v, e = .returned v ∧ FL v (doneF l k n t b) w' ∧ Below w.heap.size w w' := by
  rcases hk with rfl | hk
  · exact done_write v l n t b w h hl
  have h1 : ¬ k = 1 := by omega
  unfold doneF
  rw [if_neg h1]
  by_cases hok : okF l n = false
  · rw [if_pos hok]
    exact (done_none v l k n t b w h (by omega) hk hok).mono fun e w' h => ⟨v, h⟩
  · rw [if_neg hok]
    have hok' : okF l n = true := by simpa using hok
    have hlt := okF_lt hok'
    obtain ⟨ao, cap, rfl, hao⟩ := h.form
    obtain ⟨g, rfl⟩ := hao.resolve_left (by omega)
    obtain ⟨_, hc, _⟩ := h.cap
    rcases hk with rfl | rfl
    · rw [if_pos rfl]
      by_cases h2 : atN l n + 1 < cap
      · exact done_leave_2a g cap l n t b w _ _ h hl hok' rfl rfl hlt h2 hc
      · obtain rfl : cap = atN l n + 1 := by omega
        exact done_leave_2c g l n t b w _ _ h hl hok' rfl rfl hlt hc
    · rw [if_neg (by decide)]
      by_cases h2 : atN l n + 1 < cap
      · exact done_leave_3a g cap l n t b w _ _ h hl hok' rfl rfl hlt h2 hc
      · obtain rfl : cap = atN l n + 1 := by omega
        exact done_leave_3c g l n t b w _ _ h hl hok' rfl rfl hlt hc
end Dk
