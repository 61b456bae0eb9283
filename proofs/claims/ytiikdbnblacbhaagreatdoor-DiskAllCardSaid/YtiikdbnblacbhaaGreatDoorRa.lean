/- The list of files of the reference disk, and a new file in it, walked; the conditions stand in each statement. -/
import Derived.Test.YtiikdbnblacbhaaGreatDoorDb
import Derived.LoopTactic
import Derived.Deep.QuietTactic
import Derived.BigQuiet
import Derived.Deep.RegionLaw
import Derived.Deep.AppendLies
import Derived.BigRegion
import Derived.Deep.RegionHeld3
set_option linter.unusedVariables false
set_option linter.unusedSimpArgs false
set_option linter.unusedSectionVars false
namespace Dk
open Go Go.Proofs Go.RowKit Go.Maps

/-- A file. -/
abbrev Fl := ByteArray × ByteArray
def Fl.cells (p : Fl) : List Value := [.string p.1, .string p.2]
def cellsF (l : List Fl) : List Value := l.flatMap Fl.cells
theorem cellsF_length (l : List Fl) : (cellsF l).length = l.length * 2 := by
  induction l with
  | nil => rfl
  | cons x l ih => simp only [cellsF, List.flatMap_cons, List.length_append, List.length_cons] at ih ⊢; rw [ih]; simp [Fl.cells]; omega
theorem cellsF_get : ∀ (l : List Fl) (k : Nat) (hk : k < l.length) (j : Nat), j < 2 → (cellsF l)[k * 2 + j]? = (l[k].cells)[j]?
  | [], k, hk, _, _ => by simp at hk
  | o :: l, 0, _, j, hj => by
    have : cellsF (o :: l) = o.cells ++ cellsF l := by simp [cellsF]
    rw [this, Nat.zero_mul, Nat.zero_add, List.getElem?_append_left (by simp [Fl.cells]; omega)]
    rfl
  | o :: l, k + 1, hk, j, hj => by
    have : cellsF (o :: l) = o.cells ++ cellsF l := by simp [cellsF]
    rw [this, List.getElem?_append_right (by simp [Fl.cells]; omega)]
    have e : (k + 1) * 2 + j - o.cells.length = k * 2 + j := by simp [Fl.cells]; omega
    rw [e, cellsF_get l k (by simpa using hk) j hj]
    rfl
abbrev TF := 131
/-- A slice of files. -/
def FL (v : Value) (l : List Fl) (w : World) : Prop := w.ownsRow 0 TF 2 v l.length (cellsF l)
theorem FL.form {v : Value} {l : List Fl} {w : World} (h : FL v l w) : ∃ ao cap, v = .slice ao l.length cap ∧ (l.length = 0 ∨ ∃ g, ao = some ⟨g, 0, none⟩) := by
  rcases h.2 with ⟨hv, h0⟩ | ⟨g, cap, cur, hv, _⟩
  · exact ⟨none, 0, by rw [h0]; exact hv, .inl h0⟩
  · exact ⟨_, cap, hv, .inr ⟨g, rfl⟩⟩
theorem FL.file {g n cap : Nat} {l : List Fl} {w : World} (h : FL (.slice (some ⟨g, 0, none⟩) n cap) l w) (k : Nat) (hk : k < l.length) :
    w.cell? ⟨g, k * 2, none⟩ = some (.string l[k].1) ∧ w.cell? ⟨g, k * 2 + 1, none⟩ = some (.string l[k].2) := by
  rcases h.2 with ⟨hv, _⟩ | ⟨g', cap', cur, hv, _, hg, hle, _, hcs, htake⟩
  · cases hv
  · simp only [Value.slice.injEq, Option.some.injEq, Addr.mk.injEq, and_true] at hv
    obtain ⟨rfl, _, _⟩ := hv
    have key : ∀ j, j < 2 → cur[k * 2 + j]? = (l[k].cells)[j]? := fun j hj => by
      rw [← cellsF_get l k hk j hj, ← htake, List.getElem?_take_of_lt (by omega)]
      simp
    refine ⟨?_, ?_⟩
    · rw [Lib.cell_of_heap hg]; exact key 0 (by omega)
    · rw [Lib.cell_of_heap hg]; exact key 1 (by omega)

def ltB (a b : ByteArray) : Bool := Op.bytesLess a.toList b.toList
/-- Where a file is, or belongs. -/
def atN : List Fl → ByteArray → Nat
  | [], _ => 0
  | p :: l, n => if ltB p.1 n = true then atN l n + 1 else 0
theorem atN_le : ∀ (l : List Fl) (n : ByteArray), atN l n ≤ l.length
  | [], _ => Nat.le_refl _
  | p :: l, n => by
    have := atN_le l n
    unfold atN; split <;> simp <;> omega
theorem atN_step : ∀ (l : List Fl) (n : ByteArray) (k : Nat) (hk : k < l.length), k ≤ atN l n → (ltB l[k].1 n = true → k + 1 ≤ atN l n) ∧ (ltB l[k].1 n = false → k = atN l n)
  | [], n, k, hk, _ => by simp at hk
  | p :: l, n, 0, hk, _ => by
    unfold atN
    simp only [List.getElem_cons_zero]
    refine ⟨fun h => by rw [if_pos h]; omega, fun h => by rw [if_neg (by rw [h]; simp)]⟩
  | p :: l, n, k + 1, hk, h => by
    unfold atN at h ⊢
    by_cases hp : ltB p.1 n = true
    · rw [if_pos hp] at h ⊢
      have := atN_step l n k (by simpa using hk) (by omega)
      simp only [List.getElem_cons_succ]
      exact ⟨fun h => by have := this.1 h; omega, fun h => by have := this.2 h; omega⟩
    · rw [if_neg hp] at h; omega

/-- Is a file there? -/
def okF (l : List Fl) (n : ByteArray) : Bool := match l[atN l n]? with
  | some p => p.1.toList == n.toList
  | none => false
theorem okF_at {l : List Fl} {n : ByteArray} {k : Nat} (hk : k < l.length) (h : k = atN l n) : okF l n = (l[k].1.toList == n.toList) := by
  unfold okF
  rw [← h, List.getElem?_eq_getElem hk]
theorem okF_end {l : List Fl} {n : ByteArray} (h : l.length ≤ atN l n) : okF l n = false := by
  unfold okF
  rw [List.getElem?_eq_none h]
theorem ret_at {a : Int} {x : Bool} {k : Int} {y : Bool} (h1 : a = k) (h2 : x = y) : Ending.returned (.tuple #[.int .i64 a, .bool x]) = .returned (.tuple #[.int .i64 k, .bool y]) := by rw [h1, h2]

set_option maxRecDepth 100000 in
set_option maxHeartbeats 1000000 in
theorem at_any (v : Value) (l : List Fl) (name : ByteArray) (w : World) (h : FL v l w) (hl : l.length ≤ 1000) :
    Calls Tryz.prog 66 #[v, .string name] w fun e w' => e = .returned (.tuple #[.int .i64 (atN l name), .bool (okF l name)]) ∧ ∃ n, w' = w.drewN n := by
  obtain ⟨ao, cap, rfl, hao⟩ := h.form
  have HAO := Lib.hid hao
  clear hao
  have hal := atN_le l name
  go_enter Tryz.func66, Tryz.ntmps66
  go_wp2
  go_loop [6] (fun i => ∃ k : Nat, k ≤ atN l name ∧ i = .int .i64 k) (fun i => l.length - (intOf i).toNat)
  case atStart => exact ⟨0, Nat.zero_le _, rfl⟩
  case round =>
    obtain ⟨k, hk, rfl⟩ := hrel
    by_cases hlt : k < l.length
    · obtain ⟨g, rfl⟩ : ∃ g, ao = some ⟨g, 0, none⟩ := HAO.out.resolve_left (by omega)
      obtain ⟨e0, e1⟩ := h.file k hlt
      have hst := atN_step l name k hlt hk
      have hok := Lib.hid (fun h => okF_at (n := name) (k := k) hlt h)
      generalize l[k] = p at *
      by_cases hL : ltB p.1 name = true
      · have hL' : Op.bytesLess p.1.toList name.toList = true := hL
        have h1 := hst.1 hL
        clear hst hL
        go_wp2
        go_round
        case rel => exact ⟨k + 1, h1, by go_num⟩
        case measure => simp [intOf]; omega
      · have hL' : Op.bytesLess p.1.toList name.toList = false := Bool.eq_false_iff.2 hL
        have h1 := Lib.hid (hst.2 (Bool.eq_false_iff.2 hL))
        clear hst hL
        go_wp2
        go_quiet (fail)
        go_wp2
        go_ret2
        exact ⟨ret_at (by rw [← h1.out]) (hok.out h1.out).symm, ⟨_, rfl⟩⟩
    · have h1 := Lib.hid (show k = atN l name by omega)
      have hok := Lib.hid (okF_end (l := l) (n := name) (by omega))
      go_wp2
      go_quiet (fail)
      go_wp2
      go_ret2
      exact ⟨ret_at (by rw [← h1.out]) hok.out.symm, ⟨_, rfl⟩⟩
end Dk
namespace Dk
open Go Go.Proofs Go.RowKit Go.Maps

theorem infoF : (Tryz.prog.info? TF).map (fun i => (i.zero, i.size, i.bytes)) = some (some (.agg #[.string ⟨#[]⟩, .string ⟨#[]⟩]), 2, 32) := by kernel_rfl
/-- An operation of the reference's: what, of which file, to which, which text. -/
abbrev opR (k : Int) (n t b : ByteArray) : Value := .agg #[.int .i64 k, .string n, .string t, .string b]
abbrev TO := 128
theorem step_append_own {P : Program} {ops : Array Oper} {o : Oper} {a : Act} {w : World} {K : Act → World → Prop} {Q : Exit → Act → World → Prop} {E : Prop} (hgd : o.guard = none) (s x : Operand) (t : TypeId)
    (ho : o.op = .call { callee := .builtin .append, args := #[s, x], argTypes := #[t, t] })
    (base : Nat) (e : TypeId) (i : TypeInfo) (z : Value) (size bytes : Nat) (ht : P.underlying t = some (.slice e)) (hi : P.info? e = some i) (hz : i.zero = some z)
    (hsize : i.size = size) (hby : i.bytes = bytes) (hzs : z.cells.size = size) (hsz : 0 < size)
    (v : Value) (n : Nat) (xs : List Value) (hs : a.eval s = v) (hown : w.ownsRow base e size v n xs)
    (ad : Addr) (m c : Nat) (news : List Value) (hx : a.eval x = .slice (some ad) m c) (hl : news.length = m * size) (hnews : ∀ j u, news[j]? = some u → w.cell? (ad.add j) = some u) (h1 : ∀ u ∈ news, u.oneCell' = true)
    (h63 : n + m ≤ maxLen) (hbytes : (n + m) * bytes ≤ 140737488355328) (hbase : base ≤ w.heap.size)
    (h : ∀ v' w', w'.ownsRow base e size v' (n + m) (xs ++ news) → w.grownBy w' v.ownBlock → (v' = .slice none 0 0 ↔ v = .slice none 0 0 ∧ m = 0) → K (a.put o.dst v') w') :
    if Region.wanted o (yielded ops a.tmps) = true then Oper.wp P o a w K Q else E := by
  have hw : Region.wanted o (yielded ops a.tmps) = true := by simp [Region.wanted, hgd]
  rw [if_pos hw]
  exact wp_append_own w s x t ho base e i z size bytes ht hi hz hsize hby hzs hsz v n xs hs hown ad m c news hx hl hnews h1 h63 hbytes hbase h
theorem FL.kp {v : Value} {l : List Fl} {w w' : World} {S : Nat → Prop} (h : FL v l w) (k : Kp S w w') (hg : ∀ g, v.ownBlock = some g → ¬ S g) : FL v l w' := by
  unfold FL World.ownsRow at h ⊢
  refine ⟨h.1, h.2.imp id ?_⟩
  rintro ⟨g, cap, cur, rfl, h0, hb, r⟩
  exact ⟨g, cap, cur, rfl, h0, (k.block g (Array.getElem?_eq_some_iff.1 hb).1 (hg g rfl)).trans hb, r⟩
theorem FL.below {v : Value} {l : List Fl} {w w' : World} (h : FL v l w) (k : Below w.heap.size w w') : FL v l w' := h.kp (Kp.of_below (S := fun _ => False) k) (fun _ _ h => h)
theorem FL.lt {v : Value} {l : List Fl} {w : World} (h : FL v l w) {g : Nat} (hg : v.ownBlock = some g) : g < w.heap.size := (World.ownsRow.lt h g hg).2

theorem cellsF_one (l : List Fl) : ∀ u ∈ cellsF l, u.oneCell' = true := by
  intro u hu
  obtain ⟨p, _, hp⟩ := List.mem_flatMap.1 hu
  simp [Fl.cells] at hp
  rcases hp with rfl | rfl <;> rfl
theorem cellsF_append (a b : List Fl) : cellsF (a ++ b) = cellsF a ++ cellsF b := by simp [cellsF]
theorem FL.cells {g n cap : Nat} {l : List Fl} {w : World} (h : FL (.slice (some ⟨g, 0, none⟩) n cap) l w) : ∀ j u, (cellsF l)[j]? = some u → w.cell? ((⟨g, 0, none⟩ : Addr).add j) = some u := World.ownsRow.cells h rfl
theorem cellsF_take (l : List Fl) (k j : Nat) (u : Value) (h : (cellsF (l.take k))[j]? = some u) : (cellsF l)[j]? = some u := by
  have e : cellsF l = cellsF (l.take k) ++ cellsF (l.drop k) := by rw [← cellsF_append, List.take_append_drop]
  rw [e, List.getElem?_append_left (List.getElem?_eq_some_iff.1 h).1]
  exact h
theorem cellsF_drop (l : List Fl) (k j : Nat) (hk : k ≤ l.length) (u : Value) (h : (cellsF (l.drop k))[j]? = some u) : (cellsF l)[k * 2 + j]? = some u := by
  have e : cellsF l = cellsF (l.take k) ++ cellsF (l.drop k) := by rw [← cellsF_append, List.take_append_drop]
  have hl : (cellsF (l.take k)).length = k * 2 := by rw [cellsF_length, List.length_take, Nat.min_eq_left hk]
  rw [e, List.getElem?_append_right (by omega)]
  rw [hl, show k * 2 + j - k * 2 = j by omega]
  exact h
theorem step_append_none {P : Program} {ops : Array Oper} {o : Oper} {a : Act} {w : World} {K : Act → World → Prop} {Q : Exit → Act → World → Prop} {E : Prop} (hgd : o.guard = none) (s x : Operand) (t : TypeId)
    (ho : o.op = .call { callee := .builtin .append, args := #[s, x], argTypes := #[t, t] }) (base : Nat) (e : TypeId) (i : TypeInfo) (size : Nat) (ht : P.underlying t = some (.slice e)) (hi : P.info? e = some i)
    (v : Value) (n : Nat) (xs : List Value) (hs : a.eval s = v) (hown : w.ownsRow base e size v n xs) (hx : a.eval x = .slice none 0 0) (h : K (a.put o.dst v) w) :
    if Region.wanted o (yielded ops a.tmps) = true then Oper.wp P o a w K Q else E := by
  have hw : Region.wanted o (yielded ops a.tmps) = true := by simp [Region.wanted, hgd]
  rw [if_pos hw]
  have hrun := run_append_owned_none (P := P) (w := w) base t o.type e i size ht hi v n xs hown
  unfold Oper.wp
  simp [execOp, ho, resolve, invoke, builtin, hs, hx, hrun, Result.andThen]
  exact h
theorem addr_off (g a j : Nat) : (⟨g, a, none⟩ : Addr).add j = ⟨g, a + j, none⟩ := by unfold Addr.add; split <;> simp_all
theorem addr_off0 (g j : Nat) : (⟨g, 0, none⟩ : Addr).add j = ⟨g, j, none⟩ := by rw [addr_off, Nat.zero_add]
section
variable {ops : Array Oper} {o : Oper} {a : Act} {wx W : World} {K : Act → World → Prop} {Q : Exit → Act → World → Prop} {E : Prop} {l : List Fl} {g cap : Nat}
/-- The first of the three appends. -/
theorem app_nil (hgd : o.guard = none) (x : Operand) (ho : o.op = .call { callee := .builtin .append, args := #[.const (.slice none 0 0), x], argTypes := #[119, 119] })
    (k c : Nat) (hx : a.eval x = .slice (some ⟨g, 0, none⟩) k c) (hS : Below W.heap.size W wx) (hF : FL (.slice (some ⟨g, 0, none⟩) l.length cap) l W) (hk : k ≤ l.length) (hl : l.length ≤ 1000)
    (h : ∀ v' w', w'.ownsRow W.heap.size TF 2 v' k (cellsF (l.take k)) → Below wx.heap.size wx w' → K (a.put o.dst v') w') :
    if Region.wanted o (yielded ops a.tmps) = true then Oper.wp Tryz.prog o a wx K Q else E := by
  obtain ⟨i0, hi0, hz0, hz1, hz2⟩ := info_parts infoF
  have hF' : FL (.slice (some ⟨g, 0, none⟩) l.length cap) l wx := hF.below hS
  refine step_append_own hgd _ _ _ ho W.heap.size TF i0 _ 2 32 Tryz.underlying119 hi0 hz0 hz1 hz2 rfl (by omega) (.slice none 0 0) 0 [] rfl (World.ownsRow_nil _ _ _ _) ⟨g, 0, none⟩ k c (cellsF (l.take k)) hx
    (by rw [cellsF_length, List.length_take, Nat.min_eq_left hk]) (fun j u hj => hF'.cells j u (cellsF_take l k j u hj)) (cellsF_one _) (by unfold maxLen; omega) (by omega) hS.size (fun v' w' h1 h2 h3 => h v' w' (by simpa using h1) ⟨h2.os, h2.tape, h2.output, h2.size, fun i hi => h2.block i hi (by simp [Value.ownBlock])⟩)
/-- The second. -/
theorem app_one (hgd : o.guard = none) (s x : Operand) (ho : o.op = .call { callee := .builtin .append, args := #[s, x], argTypes := #[119, 119] })
    (n bb : Nat) (p : Fl) (hx : a.eval x = .slice (some ⟨bb, 0, none⟩) 1 1) (v : Value) (xs : List Value) (hs : a.eval s = v) (hown : wx.ownsRow W.heap.size TF 2 v n xs) (hc : wx.heap[bb]? = some (.cells #[.string p.1, .string p.2] TF (0, 0))) (hS : Below W.heap.size W wx) (hn : n ≤ 1000)
    (h : ∀ v' w', w'.ownsRow W.heap.size TF 2 v' (n + 1) (xs ++ Fl.cells p) → wx.grownBy w' v.ownBlock → K (a.put o.dst v') w') :
    if Region.wanted o (yielded ops a.tmps) = true then Oper.wp Tryz.prog o a wx K Q else E := by
  obtain ⟨i0, hi0, hz0, hz1, hz2⟩ := info_parts infoF
  exact step_append_own hgd _ _ _ ho W.heap.size TF i0 _ 2 32 Tryz.underlying119 hi0 hz0 hz1 hz2 rfl (by omega) v n xs hs hown ⟨bb, 0, none⟩ 1 1 (Fl.cells p) hx rfl
    (World.news_of_block (cs := #[.string p.1, .string p.2]) (t := TF) (fr := (0, 0)) hc) (by intro u hu; simp [Fl.cells] at hu; rcases hu with rfl | rfl <;> rfl) (by unfold maxLen; omega) (by omega) hS.size (fun v' w' h1 h2 _ => h v' w' h1 h2)
/-- The third. -/
theorem app_tail (hgd : o.guard = none) (s x : Operand) (ho : o.op = .call { callee := .builtin .append, args := #[s, x], argTypes := #[119, 119] })
    (n k m c : Nat) (hx : a.eval x = .slice (some ⟨g, k * 2, none⟩) m c) (v : Value) (xs : List Value) (hs : a.eval s = v) (hown : wx.ownsRow W.heap.size TF 2 v n xs) (hF : FL (.slice (some ⟨g, 0, none⟩) l.length cap) l W) (hS : Below W.heap.size W wx) (hk : k ≤ l.length) (hm : m = l.length - k) (hn : n ≤ 2000) (hl : l.length ≤ 1000)
    (h : ∀ v' w', w'.ownsRow W.heap.size TF 2 v' (n + m) (xs ++ cellsF (l.drop k)) → wx.grownBy w' v.ownBlock → K (a.put o.dst v') w') :
    if Region.wanted o (yielded ops a.tmps) = true then Oper.wp Tryz.prog o a wx K Q else E := by
  obtain ⟨i0, hi0, hz0, hz1, hz2⟩ := info_parts infoF
  have hF' : FL (.slice (some ⟨g, 0, none⟩) l.length cap) l wx := hF.below hS
  exact step_append_own hgd _ _ _ ho W.heap.size TF i0 _ 2 32 Tryz.underlying119 hi0 hz0 hz1 hz2 rfl (by omega) v n xs hs hown ⟨g, k * 2, none⟩ m c (cellsF (l.drop k)) hx
    (by rw [cellsF_length, List.length_drop, hm]) (fun j u hj => by rw [addr_off]; exact (by rw [← addr_off0]; exact hF'.cells _ u (cellsF_drop l k j hk u hj))) (cellsF_one _) (by unfold maxLen; omega) (by omega) hS.size (fun v' w' h1 h2 _ => h v' w' h1 h2)
/-- Nothing is appended. -/
theorem app_zero (hgd : o.guard = none) (s x : Operand) (ho : o.op = .call { callee := .builtin .append, args := #[s, x], argTypes := #[119, 119] })
    (n m c : Nat) (ad : Addr) (hx : a.eval x = .slice (some ad) m c) (hm : m = 0) (v : Value) (xs : List Value) (hs : a.eval s = v) (hown : wx.ownsRow W.heap.size TF 2 v n xs) (hS : Below W.heap.size W wx) (hn : n ≤ 2000)
    (h : ∀ v' w', w'.ownsRow W.heap.size TF 2 v' n xs → wx.grownBy w' v.ownBlock → K (a.put o.dst v') w') :
    if Region.wanted o (yielded ops a.tmps) = true then Oper.wp Tryz.prog o a wx K Q else E := by
  obtain ⟨i0, hi0, hz0, hz1, hz2⟩ := info_parts infoF
  exact step_append_own hgd _ _ _ ho W.heap.size TF i0 _ 2 32 Tryz.underlying119 hi0 hz0 hz1 hz2 rfl (by omega) v n xs hs hown ad m c [] hx
    (by simp [hm]) (fun j u hj => by simp at hj) (by simp) (by unfold maxLen; omega) (by omega) hS.size (fun v' w' h1 h2 _ => h v' w' (by simpa [hm] using h1) h2)
/-- Nil is appended. -/
theorem app_none (hgd : o.guard = none) (s x : Operand) (ho : o.op = .call { callee := .builtin .append, args := #[s, x], argTypes := #[119, 119] })
    (n : Nat) (hx : a.eval x = .slice none 0 0) (v : Value) (xs : List Value) (hs : a.eval s = v) (hown : wx.ownsRow W.heap.size TF 2 v n xs) (h : K (a.put o.dst v) wx) :
    if Region.wanted o (yielded ops a.tmps) = true then Oper.wp Tryz.prog o a wx K Q else E := by
  obtain ⟨i0, hi0, hz0, hz1, hz2⟩ := info_parts infoF
  exact step_append_none hgd _ _ _ ho W.heap.size TF i0 2 Tryz.underlying119 hi0 v n xs hs hown hx h
end

theorem FL.mk {v : Value} {l : List Fl} {w : World} {B n : Nat} {xs : List Value} (h : w.ownsRow B TF 2 v n xs) (hn : n = l.length) (hx : xs = cellsF l) : FL v l w := by
  subst hn; subst hx
  refine ⟨h.1, h.2.imp id ?_⟩
  rintro ⟨g, cap, cur, h1, _, r⟩
  exact ⟨g, cap, cur, h1, Nat.zero_le _, r⟩

set_option maxRecDepth 100000 in
set_option maxHeartbeats 4000000 in
theorem done_new_a (g cap : Nat) (l : List Fl) (n t b : ByteArray) (w : World) (h : FL (.slice (some ⟨g, 0, none⟩) l.length cap) l w) (hl : l.length < 100) (hok : okF l n = false) (hk0 : atN l n < cap) (hcap : l.length ≤ cap) :
    Calls Tryz.prog 70 #[(.slice (some ⟨g, 0, none⟩) l.length cap), opR 1 n t b] w fun e w' => ∃ v, e = .returned v ∧ FL v (l.take (atN l n) ++ (n, b) :: l.drop (atN l n)) w' ∧ Below w.heap.size w w' := by
  have hk := atN_le l n
  have i2 : (0 : Int) ≤ ((atN l n : Nat) : Int) := Int.natCast_nonneg _
  have i3 : ((atN l n : Nat) : Int) ≤ (l.length : Int) := by omega
  have i7 : ((atN l n : Nat) : Int) ≤ (cap : Int) := by omega
  have i9 : ¬ cap = atN l n := by omega
  have hb0 := Deep.blk_alloc_new w (.cells #[.int .i64 1, .string n, .string t, .string b] TO)
  have h1 : FL (.slice (some ⟨g, 0, none⟩) l.length cap) l (w.alloc (.cells #[.int .i64 1, .string n, .string t, .string b] TO)) := h.below ((Below.refl _ _).alloc (Nat.le_refl _) _)
  have hbl : Below w.heap.size w (w.alloc (.cells #[.int .i64 1, .string n, .string t, .string b] TO)) := (Below.refl _ _).alloc (Nat.le_refl _) _
  go_enter Tryz.func70, Tryz.ntmps70
  go_wp2_with (first
    | (go_at_call 66; refine (at_any _ l n _ h1 (by omega)).mono ?_; rw [hok]; rintro e w1 ⟨rfl, dn, rfl⟩)
    | fail)
  have hb1 : ((w.alloc (.cells #[.int .i64 1, .string n, .string t, .string b] TO)).drewN dn).heap[w.heap.size]? = some (.cells #[.int .i64 1, .string n, .string t, .string b] TO (0, 0)) := hb0
  have h2 : FL (.slice (some ⟨g, 0, none⟩) l.length cap) l ((w.alloc (.cells #[.int .i64 1, .string n, .string t, .string b] TO)).drewN dn) := h1
  have hbW : Below w.heap.size w ((w.alloc (.cells #[.int .i64 1, .string n, .string t, .string b] TO)).drewN dn) := ⟨hbl.os, hbl.tape, hbl.output, hbl.size, hbl.block⟩
  clear hb0 h1 hbl
  generalize (w.alloc (.cells #[.int .i64 1, .string n, .string t, .string b] TO)).drewN dn = W at *
  have b1 : W.cell? ⟨w.heap.size, 1, none⟩ = some (.string n) := by rw [Lib.cell_of_heap hb1]; rfl
  have b3 : W.cell? ⟨w.heap.size, 3, none⟩ = some (.string b) := by rw [Lib.cell_of_heap hb1]; rfl
  have hsz : w.heap.size < W.heap.size := (Array.getElem?_eq_some_iff.1 hb1).1
  have hB : Below W.heap.size W W.drew := (Below.refl _ _).drew
  go_region_held3 (fun w' => Below W.heap.size W w' ∧ w'.cell? ⟨w.heap.size, 1, none⟩ = some (.string n) ∧ w'.cell? ⟨w.heap.size, 3, none⟩ = some (.string b))
    ((go_split_ands; refine ⟨?_, ?_, ?_⟩ <;> first
      | go_keep
      | exact (by assumption : Below W.heap.size W _).trans (hg1.mono (by assumption : Below W.heap.size W _).size)
      | exact (((by assumption : Below W.heap.size W _).trans (hg1.mono (by assumption : Below W.heap.size W _).size)).cell (p := ⟨w.heap.size, 1, none⟩) hsz).trans b1
      | exact (((by assumption : Below W.heap.size W _).trans (hg1.mono (by assumption : Below W.heap.size W _).size)).cell (p := ⟨w.heap.size, 3, none⟩) hsz).trans b3
      | exact Below.alloc (by assumption) (by assumption : Below W.heap.size W _).size _
      | exact Below.grown (by assumption) hg2 (by assumption : Below W.heap.size W _).size (fun k hk => (World.ownsRow.lt hown1 k hk).1)
      | exact ((Below.grown (by assumption) hg2 (by assumption : Below W.heap.size W _).size (fun k hk => (World.ownsRow.lt hown1 k hk).1)).cell (p := ⟨w.heap.size, 1, none⟩) hsz).trans b1
      | exact ((Below.grown (by assumption) hg2 (by assumption : Below W.heap.size W _).size (fun k hk => (World.ownsRow.lt hown1 k hk).1)).cell (p := ⟨w.heap.size, 3, none⟩) hsz).trans b3
      | exact Below.grown (by assumption) hg3 (by assumption : Below W.heap.size W _).size (fun k hk => (World.ownsRow.lt hown2 k hk).1)
      | exact ((Below.grown (by assumption) hg3 (by assumption : Below W.heap.size W _).size (fun k hk => (World.ownsRow.lt hown2 k hk).1)).cell (p := ⟨w.heap.size, 1, none⟩) hsz).trans b1
      | exact ((Below.grown (by assumption) hg3 (by assumption : Below W.heap.size W _).size (fun k hk => (World.ownsRow.lt hown2 k hk).1)).cell (p := ⟨w.heap.size, 3, none⟩) hsz).trans b3))
    (first
      | (refine app_nil (by rfl) (.tmp 53) (by rfl) (atN l n) cap (by rfl) (by go_split_ands; assumption) h2 (by omega) (by omega) ?_; intro v1 w3 hown1 hg1)
      | (refine app_one (by rfl) (.tmp 54) (.tmp 60) (by rfl) (atN l n) w3.heap.size (n, b) (by rfl) v1 _ (by rfl) (hown1.alloc _) (Deep.blk_alloc_new w3 _) (by go_split_ands; assumption) (by omega) ?_; intro v2 w4 hown2 hg2)
      | (refine app_one (by rfl) (.tmp 54) (.tmp 60) (by rfl) (atN l n) W.heap.size (n, b) (by rfl) v1 _ (by rfl) hown1 ((hg1.block W.heap.size (by simp)).trans (Deep.blk_alloc_new W.drew _)) (by go_split_ands; assumption) (by omega) ?_; intro v2 w4 hown2 hg2)
      | (refine app_tail (by rfl) (.tmp 61) (.tmp 64) (by rfl) (atN l n + 1) (atN l n) (l.length - atN l n) (cap - atN l n) (by rfl) v2 _ (by rfl) hown2 h2 (by go_split_ands; assumption) (by omega) rfl (by omega) (by omega) ?_; intro v3 w5 hown3 hg3))
  all_goals
    have hB5 : Below W.heap.size W w5 := (by go_split_ands; assumption)
    go_wp2
    go_ret
    exact ⟨v3, rfl, FL.mk (l := l.take (atN l n) ++ (n, b) :: l.drop (atN l n)) hown3 (by simp; omega) (by simp [cellsF, Fl.cells]), hbW.trans (hB5.mono hbW.size)⟩
set_option maxRecDepth 100000 in
set_option maxHeartbeats 4000000 in
theorem done_new_c (g : Nat) (l : List Fl) (n t b : ByteArray) (w : World) (h : FL (.slice (some ⟨g, 0, none⟩) l.length (atN l n)) l w) (hl : l.length < 100) (hok : okF l n = false) (hk0 : l.length ≤ atN l n) :
    Calls Tryz.prog 70 #[(.slice (some ⟨g, 0, none⟩) l.length (atN l n)), opR 1 n t b] w fun e w' => ∃ v, e = .returned v ∧ FL v (l.take (atN l n) ++ (n, b) :: l.drop (atN l n)) w' ∧ Below w.heap.size w w' := by
  have hk := atN_le l n
  have hb0 := Deep.blk_alloc_new w (.cells #[.int .i64 1, .string n, .string t, .string b] TO)
  have h1 : FL (.slice (some ⟨g, 0, none⟩) l.length (atN l n)) l (w.alloc (.cells #[.int .i64 1, .string n, .string t, .string b] TO)) := h.below ((Below.refl _ _).alloc (Nat.le_refl _) _)
  have hbl : Below w.heap.size w (w.alloc (.cells #[.int .i64 1, .string n, .string t, .string b] TO)) := (Below.refl _ _).alloc (Nat.le_refl _) _
  go_enter Tryz.func70, Tryz.ntmps70
  go_wp2_with (first
    | (go_at_call 66; refine (at_any _ l n _ h1 (by omega)).mono ?_; rw [hok]; rintro e w1 ⟨rfl, dn, rfl⟩)
    | fail)
  have hb1 : ((w.alloc (.cells #[.int .i64 1, .string n, .string t, .string b] TO)).drewN dn).heap[w.heap.size]? = some (.cells #[.int .i64 1, .string n, .string t, .string b] TO (0, 0)) := hb0
  have h2 : FL (.slice (some ⟨g, 0, none⟩) l.length (atN l n)) l ((w.alloc (.cells #[.int .i64 1, .string n, .string t, .string b] TO)).drewN dn) := h1
  have hbW : Below w.heap.size w ((w.alloc (.cells #[.int .i64 1, .string n, .string t, .string b] TO)).drewN dn) := ⟨hbl.os, hbl.tape, hbl.output, hbl.size, hbl.block⟩
  clear hb0 h1 hbl
  generalize (w.alloc (.cells #[.int .i64 1, .string n, .string t, .string b] TO)).drewN dn = W at *
  have b1 : W.cell? ⟨w.heap.size, 1, none⟩ = some (.string n) := by rw [Lib.cell_of_heap hb1]; rfl
  have b3 : W.cell? ⟨w.heap.size, 3, none⟩ = some (.string b) := by rw [Lib.cell_of_heap hb1]; rfl
  have hsz : w.heap.size < W.heap.size := (Array.getElem?_eq_some_iff.1 hb1).1
  have hB : Below W.heap.size W W.drew := (Below.refl _ _).drew
  go_region_held3 (fun w' => Below W.heap.size W w' ∧ w'.cell? ⟨w.heap.size, 1, none⟩ = some (.string n) ∧ w'.cell? ⟨w.heap.size, 3, none⟩ = some (.string b))
    ((go_split_ands; refine ⟨?_, ?_, ?_⟩ <;> first
      | go_keep
      | exact (by assumption : Below W.heap.size W _).trans (hg1.mono (by assumption : Below W.heap.size W _).size)
      | exact (((by assumption : Below W.heap.size W _).trans (hg1.mono (by assumption : Below W.heap.size W _).size)).cell (p := ⟨w.heap.size, 1, none⟩) hsz).trans b1
      | exact (((by assumption : Below W.heap.size W _).trans (hg1.mono (by assumption : Below W.heap.size W _).size)).cell (p := ⟨w.heap.size, 3, none⟩) hsz).trans b3
      | exact Below.alloc (by assumption) (by assumption : Below W.heap.size W _).size _
      | exact Below.grown (by assumption) hg2 (by assumption : Below W.heap.size W _).size (fun k hk => (World.ownsRow.lt hown1 k hk).1)
      | exact ((Below.grown (by assumption) hg2 (by assumption : Below W.heap.size W _).size (fun k hk => (World.ownsRow.lt hown1 k hk).1)).cell (p := ⟨w.heap.size, 1, none⟩) hsz).trans b1
      | exact ((Below.grown (by assumption) hg2 (by assumption : Below W.heap.size W _).size (fun k hk => (World.ownsRow.lt hown1 k hk).1)).cell (p := ⟨w.heap.size, 3, none⟩) hsz).trans b3
      | exact Below.grown (by assumption) hg3 (by assumption : Below W.heap.size W _).size (fun k hk => (World.ownsRow.lt hown2 k hk).1)
      | exact ((Below.grown (by assumption) hg3 (by assumption : Below W.heap.size W _).size (fun k hk => (World.ownsRow.lt hown2 k hk).1)).cell (p := ⟨w.heap.size, 1, none⟩) hsz).trans b1
      | exact ((Below.grown (by assumption) hg3 (by assumption : Below W.heap.size W _).size (fun k hk => (World.ownsRow.lt hown2 k hk).1)).cell (p := ⟨w.heap.size, 3, none⟩) hsz).trans b3))
    (first
      | (refine app_nil (by rfl) (.tmp 53) (by rfl) (atN l n) (atN l n) (by rfl) (by go_split_ands; assumption) h2 (by omega) (by omega) ?_; intro v1 w3 hown1 hg1)
      | (refine app_one (by rfl) (.tmp 54) (.tmp 60) (by rfl) (atN l n) w3.heap.size (n, b) (by rfl) v1 _ (by rfl) (hown1.alloc _) (Deep.blk_alloc_new w3 _) (by go_split_ands; assumption) (by omega) ?_; intro v2 w4 hown2 hg2)
      | (refine app_one (by rfl) (.tmp 54) (.tmp 60) (by rfl) (atN l n) W.heap.size (n, b) (by rfl) v1 _ (by rfl) hown1 ((hg1.block W.heap.size (by simp)).trans (Deep.blk_alloc_new W.drew _)) (by go_split_ands; assumption) (by omega) ?_; intro v2 w4 hown2 hg2)
      | (refine app_zero (by rfl) (.tmp 61) (.tmp 64) (by rfl) (atN l n + 1) 0 _ ⟨g, 0, none⟩ (by rfl) rfl v2 _ (by rfl) hown2 (by go_split_ands; assumption) (by omega) ?_; intro v3 w5 hown3 hg3))
  all_goals
    have hB5 : Below W.heap.size W w5 := (by go_split_ands; assumption)
    go_wp2
    go_ret
    exact ⟨v3, rfl, FL.mk (l := l.take (atN l n) ++ (n, b) :: l.drop (atN l n)) hown3 (by simp; omega) (by rw [List.drop_eq_nil_of_le hk0]; simp [cellsF, Fl.cells]), hbW.trans (hB5.mono hbW.size)⟩
set_option maxRecDepth 100000 in
set_option maxHeartbeats 4000000 in
theorem done_new_d (n t b : ByteArray) (w : World) (h : FL (.slice none 0 0) [] w) :
    Calls Tryz.prog 70 #[.slice none 0 0, opR 1 n t b] w fun e w' => ∃ v, e = .returned v ∧ FL v [(n, b)] w' ∧ Below w.heap.size w w' := by
  have hb0 := Deep.blk_alloc_new w (.cells #[.int .i64 1, .string n, .string t, .string b] TO)
  have h1 : FL (.slice none 0 0) [] (w.alloc (.cells #[.int .i64 1, .string n, .string t, .string b] TO)) := h.below ((Below.refl _ _).alloc (Nat.le_refl _) _)
  have hbl : Below w.heap.size w (w.alloc (.cells #[.int .i64 1, .string n, .string t, .string b] TO)) := (Below.refl _ _).alloc (Nat.le_refl _) _
  go_enter Tryz.func70, Tryz.ntmps70
  go_wp2_with (first
    | (go_at_call 66; refine (at_any _ [] n _ h1 (by simp)).mono ?_; rw [show okF [] n = false from rfl, show atN [] n = 0 from rfl]; rintro e w1 ⟨rfl, dn, rfl⟩)
    | fail)
  have hb1 : ((w.alloc (.cells #[.int .i64 1, .string n, .string t, .string b] TO)).drewN dn).heap[w.heap.size]? = some (.cells #[.int .i64 1, .string n, .string t, .string b] TO (0, 0)) := hb0
  have hbW : Below w.heap.size w ((w.alloc (.cells #[.int .i64 1, .string n, .string t, .string b] TO)).drewN dn) := ⟨hbl.os, hbl.tape, hbl.output, hbl.size, hbl.block⟩
  clear hb0 h1 hbl
  generalize (w.alloc (.cells #[.int .i64 1, .string n, .string t, .string b] TO)).drewN dn = W at *
  have b1 : W.cell? ⟨w.heap.size, 1, none⟩ = some (.string n) := by rw [Lib.cell_of_heap hb1]; rfl
  have b3 : W.cell? ⟨w.heap.size, 3, none⟩ = some (.string b) := by rw [Lib.cell_of_heap hb1]; rfl
  have hsz : w.heap.size < W.heap.size := (Array.getElem?_eq_some_iff.1 hb1).1
  have hB : Below W.heap.size W W.drew := (Below.refl _ _).drew
  go_region_held3 (fun w' => Below W.heap.size W w' ∧ w'.cell? ⟨w.heap.size, 1, none⟩ = some (.string n) ∧ w'.cell? ⟨w.heap.size, 3, none⟩ = some (.string b))
    ((go_split_ands; refine ⟨?_, ?_, ?_⟩ <;> first
      | go_keep
      | exact Below.alloc (by assumption) (by assumption : Below W.heap.size W _).size _
      | exact Below.grown (by assumption) hg2 (by assumption : Below W.heap.size W _).size (fun k hk => by cases hk)
      | exact ((Below.grown (by assumption) hg2 (by assumption : Below W.heap.size W _).size (fun k hk => by cases hk)).cell (p := ⟨w.heap.size, 1, none⟩) hsz).trans b1
      | exact ((Below.grown (by assumption) hg2 (by assumption : Below W.heap.size W _).size (fun k hk => by cases hk)).cell (p := ⟨w.heap.size, 3, none⟩) hsz).trans b3))
    (first
      | (refine app_none (by rfl) (.const (.slice none 0 0)) (.tmp 53) (by rfl) 0 (by rfl) (.slice none 0 0) [] (by rfl) (World.ownsRow_nil _ _ _ _) (W := W) ?_)
      | (refine app_one (by rfl) (.tmp 54) (.tmp 60) (by rfl) 0 W.heap.size (n, b) (by rfl) (.slice none 0 0) [] (by rfl) (World.ownsRow_nil _ _ _ _) (Deep.blk_alloc_new W.drew _) (by go_split_ands; assumption) (by omega) ?_; intro v2 w4 hown2 hg2)
      | (refine app_none (by rfl) (.tmp 61) (.tmp 64) (by rfl) 1 (by rfl) v2 _ (by rfl) hown2 (W := W) ?_))
  all_goals
    have hB5 : Below W.heap.size W w4 := (by go_split_ands; assumption)
    go_wp2
    go_ret
    exact ⟨v2, rfl, FL.mk (l := [(n, b)]) hown2 rfl (by simp [cellsF, Fl.cells]), hbW.trans (hB5.mono hbW.size)⟩
end Dk
