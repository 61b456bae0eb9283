/- Oracles for loops over maps, for tables of calls; their conditions stand in each statement. -/
import Derived.Test.YtdimdhloklnkmaaGreatDoorAxD
import Derived.Maps.RangeRun
set_option linter.unusedVariables false
set_option linter.unusedSimpArgs false
set_option linter.unusedSectionVars false
namespace Ax
open Go
variable [Sy]

/-! ## Names for unknown values -/

/-- From 'base' on the names are those of these values. -/
noncomputable def nm (φ : Mp) (base : Nat) (vals : List Value) : Mp := fun id => if id < base then φ id else (vals[id - base]?).map fun v => ⟨0, 0, 0, 0, v⟩
theorem nm_old {φ : Mp} {base : Nat} {vals : List Value} {id : Nat} (h : id < base) : nm φ base vals id = φ id := by simp [nm, h]
theorem nm_new {φ : Mp} {base : Nat} {vals : List Value} {k : Nat} {v : Value} (h : vals[k]? = some v) : nm φ base vals (base + k) = some ⟨0, 0, 0, 0, v⟩ := by
  unfold nm
  rw [if_neg (by omega), show base + k - base = k by omega, h]; rfl
theorem nm_any {φ : Mp} {base : Nat} {vals : List Value} {k : Nat} {v : Value} (h : vals[k]? = some v) : g (nm φ base vals) (.any (base + k)) = some v := by
  simp only [g, nm_new h, Option.map_some]
theorem nm_sub {φ : Mp} {base : Nat} {vals : List Value} (h : ∀ id, base ≤ id → φ id = none) : Sub φ (nm φ base vals) := by
  intro id L e
  by_cases hb : id < base
  · rw [nm_old hb]; exact e
  · rw [h id (by omega)] at e; cases e
theorem nm_none {φ : Mp} {base : Nat} {vals : List Value} {id : Nat} (h : base + vals.length ≤ id) : nm φ base vals id = none := by
  unfold nm
  rw [if_neg (by omega), List.getElem?_eq_none (by omega)]; rfl

section
variable {φ0 φ2 φ3 : Mp}

/-- What was known is the same under more names. -/
theorem g_back (s2 : Sub φ0 φ2) {v : AV} {X V : Value} (h0 : g φ0 v = some X) (h2 : g φ2 v = some V) : g φ0 v = some V := by
  have := g_sub s2 h0; rw [h2] at this; simp only [Option.some.injEq] at this; subst this; exact h0
theorem gL_back (s2 : Sub φ0 φ2) {l : List AV} {X V : List Value} (h0 : gL φ0 l = some X) (h2 : gL φ2 l = some V) : gL φ0 l = some V := by
  have := gL_sub s2 h0; rw [h2] at this; simp only [Option.some.injEq] at this; subst this; exact h0
theorem gP_back (s2 : Sub φ0 φ2) {l : List (AV × AV)} {X V : List (Value × Value)} (h0 : gP φ0 l = some X) (h2 : gP φ2 l = some V) : gP φ0 l = some V := by
  have := gP_sub s2 h0; rw [h2] at this; simp only [Option.some.injEq] at this; subst this; exact h0
theorem gL_mem {φ : Mp} : ∀ {l : List AV} {X : List Value}, gL φ l = some X → ∀ v ∈ l, ∃ x, g φ v = some x
  | [], _, _, v, hv => by cases hv
  | u :: l, X, h, v, hv => by
    simp only [gL, Option.map_eq_some_iff, Option.bind_eq_some_iff] at h
    obtain ⟨x, hx, xs, hxs, _⟩ := h
    rcases List.mem_cons.1 hv with rfl | hv
    · exact ⟨x, hx⟩
    · exact gL_mem hxs v hv
theorem gL_of_mem {φ : Mp} : ∀ {l : List AV}, (∀ v ∈ l, ∃ x, g φ v = some x) → ∃ X, gL φ l = some X
  | [], _ => ⟨[], rfl⟩
  | u :: l, h => by
    obtain ⟨x, hx⟩ := h u (List.mem_cons_self ..)
    obtain ⟨xs, hxs⟩ := gL_of_mem (l := l) fun v hv => h v (List.mem_cons_of_mem _ hv)
    exact ⟨x :: xs, by simp [gL, hx, hxs]⟩

theorem At.back (s2 : Sub φ0 φ2) {L : Lc} {o : AO} {w0 w : World} (h0 : At φ0 L o w0) (h2 : At φ2 L o w) : At φ0 L o w := by
  cases o with
  | row el cs tail =>
    obtain ⟨_, _, _, _, _, k, _⟩ := h0
    obtain ⟨c, lo, hi, xs, h1, h2, h3⟩ := h2
    exact ⟨c, lo, hi, xs, h1, gL_back s2 k h2, h3⟩
  | mp es =>
    obtain ⟨_, _, _, k, _⟩ := h0
    obtain ⟨ents, clock, h1, h2, h3⟩ := h2
    exact ⟨ents, clock, h1, gP_back s2 k h2, h3⟩
  | sit s pos => exact h2
  | perm el sz es =>
    obtain ⟨ps0, hp0, _, _, _, _, _, k, _⟩ := h0
    obtain ⟨ps, hp, c, lo, hi, xs, h1, h2, h3⟩ := h2
    obtain ⟨X, hX⟩ := gL_of_mem (φ := φ0) (l := ps.flatten) fun v hv => by
      obtain ⟨l, hl, hvl⟩ := List.mem_flatten.1 hv
      exact gL_mem k v (List.mem_flatten.2 ⟨l, (hp.trans hp0.symm).mem_iff.1 hl, hvl⟩)
    exact ⟨ps, hp, c, lo, hi, xs, h1, gL_back s2 hX h2, h3⟩
  | fmp es j =>
    obtain ⟨_, _, M0, _, k, _, _, hj, _⟩ := h0
    obtain ⟨ents, clock, M, h1, h2, h3, h4, h5, h6⟩ := h2
    have := s2 _ _ hj
    rw [h5] at this; simp only [Option.some.injEq] at this; subst this
    exact ⟨ents, clock, M, h1, gP_back s2 k h2, h3, h4, hj, h6⟩

variable {ng : Nat} {gl : Nat → Option (List AV)} {h0 h2 : Hp} {w0 w w' : World}

/-- What is behind some steps, seen by the names and the objects from ahead of them: if these are as they were. -/
theorem Rel.back (hR0 : Rel ng gl φ0 h0 w0) (hR2 : Rel ng gl φ2 h2 w) (hS : Stp φ0 h0 w0 φ2 h2 w) (hob : ∀ id o, h0.get id = some o → ∃ u, h2.get id = some u ∧ ∀ L, At φ2 L u w → At φ2 L o w) :
    Rel ng gl φ0 h0 w ∧ Stp φ0 h0 w0 φ0 h0 w := by
  refine ⟨⟨fun id o ho => ?_, hR0.inj, hR0.fresh, hR2.ngle, fun n cs hc => ?_⟩, ⟨⟨Sub.refl _, hS.os, hS.tape, hS.output, hS.size, hS.block, fun b hb => .inl hb, hS.cells, fun id o L h1 h2 _ => ⟨id, o, L, h1, h2, rfl, Nat.le_refl _, Nat.le_refl _⟩⟩, fun _ _ => rfl, Nat.le_refl _⟩⟩
  · obtain ⟨L, hL, hng, hat⟩ := hR0.at_ id o ho
    obtain ⟨u, hu, hconv⟩ := hob id o ho
    obtain ⟨L2, hL2, _, hat2⟩ := hR2.at_ id u hu
    have := hS.sub _ _ hL
    rw [hL2] at this; simp only [Option.some.injEq] at this; subst this
    exact ⟨L2, hL, hng, hat.back hS.sub (hconv _ hat2)⟩
  · obtain ⟨_, _, _, _, _, _, k, _⟩ := hR0.gl_ n cs hc
    obtain ⟨hn, c, el, fz, xs, e1, e2, e3⟩ := hR2.gl_ n cs hc
    exact ⟨hn, c, el, fz, xs, e1, gL_back hS.sub k e2, e3⟩

/-- Names for values. -/
theorem Rel.names (hR : Rel ng gl φ0 h0 w) (vals : List Value) : Rel ng gl (nm φ0 h0.nxt vals) { tr := h0.tr, nxt := h0.nxt + vals.length } w ∧ Stp φ0 h0 w (nm φ0 h0.nxt vals) { tr := h0.tr, nxt := h0.nxt + vals.length } w := by
  have hs : Sub φ0 (nm φ0 h0.nxt vals) := nm_sub hR.fresh
  have hsame : ∀ id o, h0.get id = some o → nm φ0 h0.nxt vals id = φ0 id := fun id o ho => by
    obtain ⟨L, hL, _⟩ := hR.at_ id o ho
    rw [hL, hs _ _ hL]
  refine ⟨⟨fun id o ho => ?_, fun i j o u L M hi hj hL hM => ?_, fun id hid => nm_none hid, hR.ngle, fun n cs hc => ?_⟩, ⟨⟨hs, rfl, rfl, rfl, Nat.le_refl _, fun _ _ _ => rfl, fun b hb => ?_, fun b c el fz _ hc => ⟨c, fz, hc, rfl, fun _ _ => rfl⟩, fun id o L h1 h2 _ => ?_⟩, fun id hid => nm_old hid, Nat.le_add_right _ _⟩⟩
  · obtain ⟨L, hL, hng, hat⟩ := hR.at_ id o ho
    exact ⟨L, hs _ _ hL, hng, hat.sub hs⟩
  · exact hR.inj i j o u L M hi hj (by rw [← hsame i o hi]; exact hL) (by rw [← hsame j u hj]; exact hM)
  · obtain ⟨hn, c, el, fz, xs, e1, e2, e3⟩ := hR.gl_ n cs hc
    exact ⟨hn, c, el, fz, xs, e1, gL_sub hs e2, e3⟩
  · obtain ⟨id, o, L, h1, h2, h3⟩ := hb
    exact .inl ⟨id, o, L, h1, by rw [← hsame id o h1]; exact h2, h3⟩
  · exact ⟨id, o, L, h1, by rw [← hsame id o h1]; exact h2, rfl, Nat.le_refl _, Nat.le_refl _⟩

/-- A map whose stamps have a name. -/
theorem Rel.freeze {φ : Mp} {h : Hp} (hR : Rel ng gl φ h w) {mid j : Nat} {es : List (AV × AV)} {L M : Lc} {ents : Array MapEntry} {clock : Nat} (hm : h.get mid = some (.mp es)) (hL : φ mid = some L)
    (hb : w.heap[L.blk]? = some (.map ents clock)) (hj : φ j = some M) (hst : M.val = stamps ents clock) :
    Rel ng gl φ (h.set mid (.fmp es j)) w ∧ Stp φ h w φ (h.set mid (.fmp es j)) w := by
  have hget : ∀ id o, (h.set mid (.fmp es j)).get id = some o → ∃ o', h.get id = some o' := fun id o ho => by
    rw [Hp.get_set] at ho
    by_cases hi : id = mid
    · subst hi; exact ⟨_, hm⟩
    · rw [if_neg hi] at ho; exact ⟨o, ho⟩
  refine ⟨⟨fun id o ho => ?_, fun i k o u L M hi hk hL hM => ?_, hR.fresh, hR.ngle, hR.gl_⟩, ⟨⟨Sub.refl _, rfl, rfl, rfl, Nat.le_refl _, fun _ _ _ => rfl, fun b hb => ?_, fun b c el fz _ hc => ⟨c, fz, hc, rfl, fun _ _ => rfl⟩, fun id o L h1 h2 _ => ?_⟩, fun _ _ => rfl, Nat.le_refl _⟩⟩
  · rw [Hp.get_set] at ho
    by_cases hi : id = mid
    · subst hi
      rw [if_pos rfl] at ho; simp only [Option.some.injEq] at ho; subst ho
      obtain ⟨L', hL', hng, ents', clock', e1, e2, e3, e4⟩ := hR.at_ id _ hm
      rw [hL] at hL'; simp only [Option.some.injEq] at hL'; subst hL'
      rw [hb] at e1; simp only [Option.some.injEq, Obj.map.injEq] at e1
      obtain ⟨rfl, rfl⟩ := e1
      exact ⟨L, hL, hng, ents, clock, M, hb, e2, e3, e4, hj, hst⟩
    · rw [if_neg hi] at ho; exact hR.at_ id o ho
  · obtain ⟨o', ho'⟩ := hget i o hi
    obtain ⟨u', hu'⟩ := hget k u hk
    exact hR.inj i k o' u' L M ho' hu' hL hM
  · obtain ⟨id, o, L, h1, h2, h3⟩ := hb
    obtain ⟨o', ho'⟩ := hget id o h1
    exact .inl ⟨id, o', L, ho', h2, h3⟩
  · obtain ⟨o', ho'⟩ := hget id o h1
    exact ⟨id, o', L, ho', h2, rfl, Nat.le_refl _, Nat.le_refl _⟩

/-- Nothing that the names know of has turned. -/
theorem Rel.beside (hR0 : Rel ng gl φ0 h0 w0) (hR : Rel ng gl φ0 h0 w) (hS : Stp φ0 h0 w0 φ0 h0 w) (os : w'.os = w.os) (tape : w'.tape = w.tape) (output : w'.output = w.output) (hsz : w.heap.size ≤ w'.heap.size) (hold : ∀ b, b < w0.heap.size → w'.heap[b]? = w.heap[b]?) :
    Rel ng gl φ0 h0 w' ∧ Stp φ0 h0 w0 φ0 h0 w' := by
  refine ⟨⟨fun id o ho => ?_, hR.inj, hR.fresh, Nat.le_trans hR.ngle hsz, fun n cs hc => ?_⟩, ⟨⟨Sub.refl _, os.trans hS.os, tape.trans hS.tape, output.trans hS.output, Nat.le_trans hS.size hsz, fun b hb hn => (hold b hb).trans (hS.block b hb hn), fun b hb => .inl hb, fun b c el fz hb hc => ?_, fun id o L h1 h2 _ => ⟨id, o, L, h1, h2, rfl, Nat.le_refl _, Nat.le_refl _⟩⟩, fun _ _ => rfl, Nat.le_refl _⟩⟩
  · obtain ⟨L, hL, _, hat0⟩ := hR0.at_ id o ho
    obtain ⟨L', hL', hng, hat⟩ := hR.at_ id o ho
    rw [hL] at hL'; simp only [Option.some.injEq] at hL'; subst hL'
    exact ⟨L, hL, hng, hat.frame (hold _ hat0.lt)⟩
  · obtain ⟨hn, c, el, fz, xs, e1, e2, e3⟩ := hR.gl_ n cs hc
    exact ⟨hn, c, el, fz, xs, by rw [hold n (Nat.lt_of_lt_of_le hn hR0.ngle)]; exact e1, e2, e3⟩
  · obtain ⟨c', fz', e1, e2, e3⟩ := hS.cells b c el fz hb hc
    exact ⟨c', fz', by rw [hold b hb]; exact e1, e2, e3⟩
end

/-- Two maps of one row of stamps and the same entries are one. -/
theorem ents_ext {a b : Array MapEntry} {c d : Nat} (h : (a.toList.map fun e => (e.key, e.val)) = b.toList.map fun e => (e.key, e.val)) (hs : stamps a c = stamps b d) : a = b ∧ c = d := by
  unfold stamps at hs
  simp only [Value.tuple.injEq] at hs
  have hs := congrArg Array.toList hs
  simp only [List.cons.injEq, Value.int.injEq, true_and] at hs
  obtain ⟨h1, h2⟩ := hs
  refine ⟨?_, by exact_mod_cast h1⟩
  apply Array.ext'
  have hb : a.toList.map (·.born) = b.toList.map (·.born) := by
    have := congrArg (List.map fun v => match v with | Value.int _ (.ofNat n) => n | _ => 0) h2
    rw [List.map_map, List.map_map] at this
    exact this
  generalize a.toList = l at h hb
  generalize b.toList = m at h hb
  clear h1 h2
  induction l generalizing m with
  | nil => cases m with
    | nil => rfl
    | cons y m => simp at h
  | cons x l ih => cases m with
    | nil => simp at h
    | cons y m =>
      simp only [List.map_cons, List.cons.injEq, Prod.mk.injEq] at h hb
      obtain ⟨⟨e1, e2⟩, e3⟩ := h
      obtain ⟨e4, e5⟩ := hb
      rw [ih m e3 e5]
      cases x; cases y; simp only at e1 e2 e4; subst e1 e2 e4; rfl

/-! ## Frames with unknown slots -/

/-- These slots are named from 'b' on. -/
noncomputable def dirt : Nat → List Nat → T AV → T AV
  | _, [], fr => fr
  | b, t :: l, fr => dirt (b + 1) l (fr.put (some (.any b)) (Ps.key t))
theorem dirt_get : ∀ {l : List Nat} {b : Nat} {fr : T AV} {t : Nat}, t ∉ l → (dirt b l fr).get (Ps.key t) = fr.get (Ps.key t)
  | [], _, _, _, _ => rfl
  | u :: l, b, fr, t, h => by
    simp only [List.mem_cons, not_or] at h
    show (dirt (b + 1) l _).get _ = _
    rw [dirt_get h.2, T.get_put, if_neg (fun e => h.1 (Ps.key_inj e))]
theorem dirt_fr {φ : Mp} {a : Act} : ∀ {l : List Nat} {b : Nat} {fr : T AV}, (∀ k t, l[k]? = some t → g φ (.any (b + k)) = some (a.tmps.getD t undef)) →
    (∀ t, t ∉ l → g φ ((Od.t (Ps.key t)).rd fr) = some (a.tmps.getD t undef)) → FR φ (dirt b l fr) a
  | [], _, _, _, h => fun t => h t (by simp)
  | u :: l, b, fr, hk, h => by
    refine dirt_fr (l := l) (b := b + 1) (fun k t hkt => ?_) fun t ht => ?_
    · have := hk (k + 1) t (by simpa using hkt)
      rw [show b + 1 + k = b + (k + 1) by omega]; exact this
    · simp only [Od.rd, T.get_put]
      by_cases htu : t = u
      · subst htu
        rw [if_pos rfl]
        have := hk 0 t rfl
        exact this
      · rw [if_neg (fun e => htu (Ps.key_inj e))]
        exact h t (by simp [htu, ht])

/-! ## The same tree -/
section
variable {α : Type} (eq : α → α → Bool)
noncomputable def oEq : Option α → Option α → Bool
  | none, none => true
  | some a, some b => eq a b
  | _, _ => false
noncomputable def s8 {β : Type} (f : β → β → Bool) (a b : S8 β) : Bool := f a.a0 b.a0 && (f a.a1 b.a1 && (f a.a2 b.a2 && (f a.a3 b.a3 && (f a.a4 b.a4 && (f a.a5 b.a5 && (f a.a6 b.a6 && f a.a7 b.a7))))))
theorem s8_ok {β : Type} {f : β → β → Bool} {a b : S8 β} (h : s8 f a b = true) (d : D8) : f (S8.sel d a) (S8.sel d b) = true := by
  simp only [s8, Bool.and_eq_true] at h
  obtain ⟨h0, h1, h2, h3, h4, h5, h6, h7⟩ := h
  cases d <;> assumption
noncomputable def farEq : List (Nat × Option α) → List (Nat × Option α) → Bool
  | [], [] => true
  | x :: l, y :: m => Nat.beq x.1 y.1 && (oEq eq x.2 y.2 && farEq l m)
  | _, _ => false
theorem farEq_ok : ∀ {l m : List (Nat × Option α)}, farEq eq l m = true → ∀ n, oEq eq (T.look n l) (T.look n m) = true
  | [], [], _, n => rfl
  | x :: l, y :: m, h, n => by
    simp only [farEq, Bool.and_eq_true, Nat.beq_eq] at h
    obtain ⟨h1, h2, h3⟩ := h
    show oEq eq (bif Nat.beq x.1 n then x.2 else T.look n l) (bif Nat.beq y.1 n then y.2 else T.look n m) = true
    rw [h1]
    cases Nat.beq y.1 n with
    | true => exact h2
    | false => exact farEq_ok h3 n
  | [], _ :: _, h, _ => by cases h
  | _ :: _, [], h, _ => by cases h
noncomputable def tEq (a b : T α) : Bool := s8 (s8 (oEq eq)) a.lo b.lo && (s8 (s8 (s8 (s8 (oEq eq)))) a.hi b.hi && farEq eq a.far b.far)
theorem tEq_ok {a b : T α} (h : tEq eq a b = true) (p : Ps) : oEq eq (a.get p) (b.get p) = true := by
  simp only [tEq, Bool.and_eq_true] at h
  obtain ⟨h1, h2, h3⟩ := h
  cases p with
  | lo x y => exact s8_ok (s8_ok h1 x) y
  | hi x y z u => exact s8_ok (s8_ok (s8_ok (s8_ok h2 x) y) z) u
  | far n => exact farEq_ok eq h3 n
end
theorem frEq_ok {a b : T AV} (h : tEq avEq a b = true) (p : Ps) : a.get p = b.get p := by
  have := tEq_ok avEq h p
  cases ha : a.get p <;> cases hb : b.get p <;> rw [ha, hb] at this
  · cases this
  · cases this
  · rw [avEq_ok _ _ this]

/-! ## The same objects -/
noncomputable def sameLL : List (List AV) → List (List AV) → Bool
  | [], [] => true
  | a :: l, b :: m => avEqL a b && sameLL l m
  | _, _ => false
theorem sameLL_ok : ∀ {a b : List (List AV)}, sameLL a b = true → a = b
  | [], [], _ => rfl
  | a :: l, b :: m, h => by
    simp only [sameLL, Bool.and_eq_true] at h
    rw [avEqL_ok _ _ h.1, sameLL_ok h.2]
  | [], _ :: _, h => by cases h
  | _ :: _, [], h => by cases h
noncomputable def sameM : AO → AO → Bool
  | .fmp es j, .fmp es' j' => sameP es es' && Nat.beq j j'
  | .perm el sz es, .perm el' sz' es' => Nat.beq el el' && (Nat.beq sz sz' && sameLL es es')
  | o, u => sameO o u
theorem sameM_ok {o u : AO} (h : sameM o u = true) : o = u := by
  unfold sameM at h
  split at h
  · simp only [Bool.and_eq_true, Nat.beq_eq] at h
    rw [sameP_ok h.1, h.2]
  · simp only [Bool.and_eq_true, Nat.beq_eq] at h
    rw [h.1, h.2.1, sameLL_ok h.2.2]
  · exact sameO_ok h
noncomputable def heldAt (h h' : Hp) (i : Nat) : Bool := match h.get i with
  | none => true
  | some o => match h'.get i with
    | some u => sameM o u
    | none => false
theorem heldAt_ok {h h' : Hp} {i : Nat} (hh : heldAt h h' i = true) {o : AO} (ho : h.get i = some o) : h'.get i = some o := by
  unfold heldAt at hh
  rw [ho] at hh
  simp only at hh
  split at hh
  · rename_i u hu
    rw [hu, sameM_ok hh]
  · cases hh
/-- All objects below the number k are as they were. -/
noncomputable def heldTo (h h' : Hp) (k : Nat) : Bool := Nat.rec true (fun i ih => heldAt h h' i && ih) k
theorem heldTo_ok {h h' : Hp} : ∀ {k : Nat}, heldTo h h' k = true → ∀ i, i < k → ∀ o, h.get i = some o → h'.get i = some o
  | 0, _, i, hi, _, _ => by omega
  | k + 1, hh, i, hi, o, ho => by
    have hh : (heldAt h h' k && heldTo h h' k) = true := hh
    rw [Bool.and_eq_true] at hh
    by_cases hik : i = k
    · subst hik; exact heldAt_ok hh.1 ho
    · exact heldTo_ok hh.2 i (by omega) o ho
end Ax
namespace Ax
open Go Go.ChangeMaps
variable [Sy]

theorem wp_monoQ {P : Program} {o : Oper} {a : Act} {w : World} {K K' : Act → World → Prop} {Q Q' : Exit → Act → World → Prop} (h : ∀ a w, K a w → K' a w) (hq : ∀ e a w, e ≠ .normal → Q e a w → Q' e a w) (hh : o.wp P a w K Q) : o.wp P a w K' Q' := by
  unfold Oper.wp at *
  generalize (execOp a.eval o).run P w = r at *
  cases r with
  | ok n w' =>
    cases n <;> simp only [Oper.upon] at hh ⊢ <;>
      first
        | exact h _ _ hh
        | exact Calls.mono hh (fun e w'' he => by
            cases e with
            | returned v => exact h _ _ he
            | panicked c => exact hq _ _ _ (by simp) he
            | outgrown => obtain ⟨a, w, he⟩ := he; exact ⟨a, w, hq _ _ _ (by simp) he⟩)
        | exact Rows.mono hh (fun _ _ he => h _ _ he)
  | halt x w' => cases x <;> simp only [Oper.upon] at hh ⊢ <;> first | exact hq _ _ _ (by simp) hh | exact hh

/-- Operations, and then some more. -/
noncomputable def andThen (P : Program) (ops : Array Oper) (Q : Exit → Act → World → Prop) (l : List Nat) : Exit → Act → World → Prop := fun e a w => match e with
  | .normal => wpOps P ops Q l a w
  | e => Q e a w
theorem andThen_ne {P : Program} {ops : Array Oper} {Q : Exit → Act → World → Prop} {l : List Nat} {e : Exit} {a : Act} {w : World} (he : e ≠ .normal) (h : andThen P ops Q l e a w) : Q e a w := by
  cases e <;> first | exact (he rfl).elim | exact h
theorem wpOps_app {P : Program} {ops : Array Oper} {Q : Exit → Act → World → Prop} : ∀ (l1 l2 : List Nat) (a : Act) (w : World), wpOps P ops (andThen P ops Q l2) l1 a w → wpOps P ops Q (l1 ++ l2) a w
  | [], _, _, _, h => h
  | i :: l, l2, a, w, h => by
    show wpOps P ops Q (i :: (l ++ l2)) a w
    unfold wpOps at h ⊢
    split
    · rename_i hi
      rw [hi] at h
      exact wpOps_app l l2 a w h
    · rename_i o hi
      rw [hi] at h
      simp only at h ⊢
      split
      · rename_i hw
        rw [if_pos hw] at h
        rcases h with h | ⟨h1, a', w', h2⟩
        · exact .inl (wp_monoQ (fun a w h => wpOps_app l l2 a w h) (fun e a w he h => andThen_ne he h) h)
        · exact .inr ⟨h1, a', w', andThen_ne (by simp) h2⟩
      · rename_i hw
        rw [if_neg hw] at h
        exact wpOps_app l l2 _ w h
/-- One operation that is wanted and gives a value. -/
theorem wpOps_one {P : Program} {ops : Array Oper} {Q : Exit → Act → World → Prop} {i : Nat} {l : List Nat} {a : Act} {w w' : World} {o : Oper} {v : Value} {d : Nat} (ho : ops[i]? = some o) (hg : o.guard = none) (hd : o.dst = some d)
    (hrun : (execOp a.eval o).run P w = .ok (.value v) w') (h : wpOps P ops Q l (a.put (some d) v) w') : wpOps P ops Q (i :: l) a w := by
  unfold wpOps
  rw [ho]
  have hw : Region.wanted o (yielded ops a.tmps) = true := by simp [Region.wanted, hg]
  simp only [hw, if_true]
  refine .inl ?_
  unfold Oper.wp
  rw [hrun]
  simp only [Oper.upon, hd]
  exact h

/-- The code of a loop over a map, ahead of it and behind it. -/
structure MB where
  c1 : Code
  c2 : Code
  c3 : Code
  X : Code
  c5 : Code
  id4 : Nat
  id0 : Nat
  id5 : Nat
  id1 : Nat
  id6 : Nat
  l4 : List Oper
  o4 : Oper
  o50 : Oper
  o51 : Oper
  o60 : Oper
  l6 : List Oper
  tIt : Nat
  tN : Nat
  tB : Nat
  tE : Nat
  xm : Operand
  tm : TypeId
  tk : TypeId
  te : TypeId
namespace MB
noncomputable def ops4 (m : MB) : Array Oper := (m.l4 ++ [m.o4]).toArray
noncomputable def ops5 (m : MB) : Array Oper := #[m.o50, m.o51]
noncomputable def ops6 (m : MB) : Array Oper := (m.o60 :: m.l6).toArray
noncomputable def round (m : MB) : Code := .seq (.region m.id5 m.ops5 false) (.seq (.cond (.tmp m.tB) .skip (.exit m.id0)) (.block m.id1 (.seq (.region m.id6 m.ops6 false) m.X)))
noncomputable def code (m : MB) : Code := .seq m.c1 (.seq m.c2 (.seq m.c3 (.seq (.seq (.region m.id4 m.ops4 false) (.block m.id0 (.loop m.round))) m.c5)))
structure Ok (m : MB) (P : Program) (n : Nat) : Prop where
  o4 : m.o4.op = .range m.tm m.xm ∧ m.o4.dst = some m.tIt ∧ m.o4.guard = none
  o50 : m.o50.op = .next (.tmp m.tIt) false ∧ m.o50.dst = some m.tN ∧ m.o50.guard = none
  o51 : m.o51.op = .extract (.tmp m.tN) 0 ∧ m.o51.dst = some m.tB ∧ m.o51.guard = none
  o60 : m.o60.op = .entry (.tmp m.tIt) ∧ m.o60.dst = some m.tE ∧ m.o60.guard = none
  map : P.underlying m.tm = some (.map m.tk m.te)
  lt : m.tIt < n ∧ m.tN < n ∧ m.tB < n ∧ m.tE < n
  ne : m.tN ≠ m.tIt ∧ m.tB ≠ m.tIt ∧ m.tE ≠ m.tIt ∧ m.tB ≠ m.tN ∧ m.tE ≠ m.tN ∧ m.tE ≠ m.tB
end MB

section
variable {D : List Deferred} {E : Env} {ng n : Nat} {φ0 : Mp} {fr0 : T AV} {h0 : Hp} {w0 : World} {m : MB} {dl : List Nat} {mid : Nat} {es : List (AV × AV)} {L : Lc} {ents : Array MapEntry} {clock : Nat}

/-- The frame at the loop's head, as far as it is known. -/
noncomputable def hdF (m : MB) (dl : List Nat) (base : Nat) (fr0 : T AV) : T AV := dirt (base + 2) dl (fr0.put (some (.any (base + 1))) (Ps.key m.tIt))
/-- The heap there. -/
noncomputable def hdH (dl : List Nat) (h0 : Hp) : Hp := { tr := h0.tr, nxt := h0.nxt + (dl.length + 2) }
noncomputable def hdZ (dl : List Nat) (h0 : Hp) (mid : Nat) (es : List (AV × AV)) : Hp := (hdH dl h0).set mid (.fmp es h0.nxt)

/-- The loop's head. -/
structure Hd (D : List Deferred) (E : Env) (ng n : Nat) (φ0 : Mp) (fr0 : T AV) (h0 : Hp) (w0 : World) (m : MB) (dl : List Nat) (bm : Nat) (ents : Array MapEntry) (clock : Nat) (a : Act) (w : World) (seen : Array Nat) : Prop where
  rel : Rel ng (glF E.gl) φ0 h0 w
  stp : Stp φ0 h0 w0 φ0 h0 w
  it : w.heap[w0.heap.size]? = some (.mapIter (some bm) clock seen clock)
  mp : w.heap[bm]? = some (.map ents clock)
  sz : n ≤ a.tmps.size
  df : a.defers = D
  fr : ∀ t, t ∉ dl → t ≠ m.tIt → g φ0 ((Od.t (Ps.key t)).rd fr0) = some (a.tmps.getD t undef)
  pt : a.tmps.getD m.tIt undef = .pointer (some ⟨w0.heap.size, 0, none⟩)

/-- The values that have names there. -/
noncomputable def hdV (dl : List Nat) (ents : Array MapEntry) (clock r : Nat) (a : Act) : List Value := stamps ents clock :: Value.pointer (some ⟨r, 0, none⟩) :: dl.map fun t => a.tmps.getD t undef

theorem hdV_len {r : Nat} {a : Act} : (hdV dl ents clock r a).length = dl.length + 2 := by simp [hdV]

/-- From the head: what the evaluator may begin with. -/
theorem Hd.inv {bm : Nat} {a : Act} {w : World} {seen : Array Nat} (hH : Hd D E ng n φ0 fr0 h0 w0 m dl bm ents clock a w seen) (hR0 : Rel ng (glF E.gl) φ0 h0 w0) (hdl : m.tIt ∉ dl) :
    Inv D ng E.gl n (nm φ0 h0.nxt (hdV dl ents clock w0.heap.size a)) (hdF m dl h0.nxt fr0) (hdH dl h0) a w ∧ Stp φ0 h0 w0 (nm φ0 h0.nxt (hdV dl ents clock w0.heap.size a)) (hdH dl h0) w := by
  obtain ⟨hR, hS⟩ := hH.rel.names (hdV dl ents clock w0.heap.size a)
  rw [hdV_len] at hR hS
  have hsub : Sub φ0 (nm φ0 h0.nxt (hdV dl ents clock w0.heap.size a)) := hS.sub
  refine ⟨⟨dirt_fr (fun k t hk => ?_) (fun t ht => ?_), hH.sz, hR, hH.df⟩, hH.stp.trans hS⟩
  · rw [Nat.add_assoc, Nat.add_comm 2 k]
    refine nm_any ?_
    show (dl.map fun t => a.tmps.getD t undef)[k]? = _
    rw [List.getElem?_map, hk]; rfl
  · simp only [Od.rd, T.get_put]
    by_cases hti : t = m.tIt
    · subst hti
      rw [if_pos rfl]
      simp only
      rw [hH.pt]
      exact nm_any (k := 1) rfl
    · rw [if_neg (fun e => hti (Ps.key_inj e))]
      exact g_sub hsub (hH.fr t ht hti)

/-- With the map's stamps named. -/
theorem Hd.invZ {bm : Nat} {a : Act} {w : World} {seen : Array Nat} (hH : Hd D E ng n φ0 fr0 h0 w0 m dl bm ents clock a w seen) (hR0 : Rel ng (glF E.gl) φ0 h0 w0) (hdl : m.tIt ∉ dl) (hm : h0.get mid = some (.mp es)) (hL : φ0 mid = some L) (hb : L.blk = bm) :
    Inv D ng E.gl n (nm φ0 h0.nxt (hdV dl ents clock w0.heap.size a)) (hdF m dl h0.nxt fr0) (hdZ dl h0 mid es) a w ∧ Stp φ0 h0 w0 (nm φ0 h0.nxt (hdV dl ents clock w0.heap.size a)) (hdZ dl h0 mid es) w := by
  obtain ⟨hI, hS⟩ := hH.inv hR0 hdl
  obtain ⟨hR2, hS2⟩ := hI.rel.freeze (mid := mid) (j := h0.nxt) (es := es) (L := L) (M := ⟨0, 0, 0, 0, stamps ents clock⟩) (ents := ents) (clock := clock) hm (hS.sub _ _ hL) (by rw [hb]; exact hH.mp) (nm_new (k := 0) rfl) rfl
  exact ⟨⟨hI.fr, hI.sz, hR2, hI.df⟩, hS.trans hS2⟩

/-- Back to the head. -/
theorem Hd.of (hR0 : Rel ng (glF E.gl) φ0 h0 w0) (hdl : m.tIt ∉ dl) (hm : h0.get mid = some (.mp es)) (hL : φ0 mid = some L) {a : Act} {w : World} {seen : Array Nat} (hH : Hd D E ng n φ0 fr0 h0 w0 m dl L.blk ents clock a w seen)
    (hP : ∃ X, gP φ0 es = some X ∧ X = ents.toList.map fun e => (e.key, e.val))
    {wN : World} {seen' : Array Nat} (hRN : Rel ng (glF E.gl) (nm φ0 h0.nxt (hdV dl ents clock w0.heap.size a)) (hdZ dl h0 mid es) wN) (hSN : Stp φ0 h0 w0 (nm φ0 h0.nxt (hdV dl ents clock w0.heap.size a)) (hdZ dl h0 mid es) wN)
    (hit : wN.heap[w0.heap.size]? = some (.mapIter (some L.blk) clock seen' clock))
    {φ2 : Mp} {f3 : T AV} {h3 : Hp} {a' : Act} {w' : World} (hI : Inv D ng E.gl n φ2 f3 h3 a' w') (hS : Stp (nm φ0 h0.nxt (hdV dl ents clock w0.heap.size a)) (hdZ dl h0 mid es) wN φ2 h3 w')
    (hfr : tEq avEq (dirt (h0.nxt + 2) dl f3) (hdF m dl h0.nxt fr0) = true) (hheld : heldTo (hdZ dl h0 mid es) h3 h0.nxt = true) :
    Hd D E ng n φ0 fr0 h0 w0 m dl L.blk ents clock a' w' seen' := by
  have hT := hSN.trans hS
  have hlt : ∀ id o, h0.get id = some o → id < h0.nxt := fun id o ho => by
    obtain ⟨L, hL, _⟩ := hR0.at_ id o ho
    rcases Nat.lt_or_ge id h0.nxt with h | h
    · exact h
    · rw [hR0.fresh id h] at hL; cases hL
  have hz : ∀ id, (hdZ dl h0 mid es).get id = if id = mid then some (.fmp es h0.nxt) else h0.get id := fun id => Hp.get_set _ _ _ _
  have hkeep : ∀ id o, (hdZ dl h0 mid es).get id = some o → id < h0.nxt → h3.get id = some o := fun id o ho hid => heldTo_ok hheld id hid o ho
  have hfm : h3.get mid = some (.fmp es h0.nxt) := hkeep mid _ (by rw [hz, if_pos rfl]) (hlt _ _ hm)
  obtain ⟨hR', hS'⟩ := Rel.back hR0 hI.rel hT fun id o ho => by
    by_cases hid : id = mid
    · subst hid
      rw [hm] at ho; simp only [Option.some.injEq] at ho; subst ho
      exact ⟨_, hfm, fun L h => h.mp_of_fmp⟩
    · exact ⟨o, hkeep id o (by rw [hz, if_neg hid]; exact ho) (hlt id o ho), fun L h => h⟩
  have hrN : wN.heap.size ≤ w'.heap.size := hS.size
  have hrlt : w0.heap.size < wN.heap.size := (Array.getElem?_eq_some_iff.1 hit).1
  have hrd : ¬ Dom (nm φ0 h0.nxt (hdV dl ents clock w0.heap.size a)) (hdZ dl h0 mid es) w0.heap.size := by
    rintro ⟨id, o, M, g1, g2, g3⟩
    have ho : ∃ o', h0.get id = some o' := by
      rw [hz] at g1
      by_cases hid : id = mid
      · subst hid; exact ⟨_, hm⟩
      · rw [if_neg hid] at g1; exact ⟨o, g1⟩
    obtain ⟨o', ho'⟩ := ho
    obtain ⟨M0, hM0, _, hat⟩ := hR0.at_ id o' ho'
    rw [nm_old (hlt _ _ ho'), hM0] at g2
    simp only [Option.some.injEq] at g2; subst g2
    have := hat.lt
    omega
  have hslot : ∀ t, t ∉ dl → f3.get (Ps.key t) = (fr0.put (some (.any (h0.nxt + 1))) (Ps.key m.tIt)).get (Ps.key t) := fun t ht => by
    have := frEq_ok hfr (Ps.key t)
    unfold hdF at this
    rw [dirt_get ht, dirt_get ht] at this
    exact this
  refine ⟨hR', hS', ?_, ?_, hI.sz, hI.df, fun t ht hti => ?_, ?_⟩
  · rw [hS.block _ hrlt hrd]; exact hit
  · -- the map
    obtain ⟨L2, hL2, _, ents', clock', M, e1, e2, e3, e4, e5, e6⟩ := hI.rel.at_ mid _ hfm
    rw [hT.sub _ _ hL] at hL2; simp only [Option.some.injEq] at hL2; subst hL2
    have hM : φ2 h0.nxt = some ⟨0, 0, 0, 0, stamps ents clock⟩ := hS.sub _ _ (nm_new (k := 0) rfl)
    rw [e5] at hM; simp only [Option.some.injEq] at hM; subst hM
    obtain ⟨X, hX, rfl⟩ := hP
    have := gP_sub hT.sub hX
    rw [e2] at this; simp only [Option.some.injEq] at this
    obtain ⟨rfl, rfl⟩ := ents_ext this e6.symm
    exact e1
  · have h1 := hI.fr t
    simp only [Od.rd] at h1 ⊢
    rw [hslot t ht, T.get_put, if_neg (fun e => hti (Ps.key_inj e))] at h1
    have h2 := hH.fr t ht hti
    simp only [Od.rd] at h2
    exact g_back hT.sub h2 h1
  · have h1 := hI.fr m.tIt
    simp only [Od.rd] at h1
    rw [hslot m.tIt hdl, T.get_put, if_pos rfl] at h1
    simp only at h1
    have h2 : g φ2 (.any (h0.nxt + 1)) = some (.pointer (some ⟨w0.heap.size, 0, none⟩)) := g_sub hS.sub (nm_any (k := 1) rfl)
    rw [h2] at h1
    simpa using h1.symm
end
end Ax
namespace Ax
open Go Go.ChangeMaps
variable [Sy]

section
variable {D : List Deferred} {E : Env} {ng n : Nat} {φ φ0 : Mp} {fr fr0 : T AV} {h h0 : Hp} {a : Act} {w w0 : World} {m : MB} {dl : List Nat} {mid : Nat} {es : List (AV × AV)} {L : Lc} {ents : Array MapEntry} {clock : Nat}
  {rec : IC → T AV → Hp → XR} {cal : FuncId → List AV → Hp → CR} {Q : Exit → Act → World → Prop}

theorem code_nor (hrec : CodeOk E ng rec) {c : Code} {fr' : T AV} {h' : Hp} (hr : rec (cCode E.P n c) fr h = .ok .nor fr' h') (hI : Inv D ng E.gl n φ fr h a w)
    (hQ : ∀ φ' a' w', Inv D ng E.gl n φ' fr' h' a' w' → Stp φ h w φ' h' w' → Q .normal a' w') : c.wp E.P Q a w :=
  hrec D n c fr h φ a w Q (by rw [hr]; trivial) hI fun e a' w' hp => by
    rw [hr] at hp
    cases e <;> first | exact hp.elim | (obtain ⟨φ', h1, h2⟩ := hp; exact hQ _ _ _ h1 h2)

theorem ops_nor (hX : ExtOk E.P ng E.gl (fun f => E.ext.get (Ps.key f))) (hcal : CalOk E.P ng E.gl cal) {ops : Array Oper} {l : List Oper} {k : Nat} (hl : ∀ i, l[i]? = ops[k + i]?) {fr' : T AV} {h' : Hp} (hr : runIOs E cal (l.map (cOper E.P n ops)) fr h = .ok fr' h')
    (hI : Inv D ng E.gl n φ fr h a w) (hQ : ∀ φ' a' w', Inv D ng E.gl n φ' fr' h' a' w' → Stp φ h w φ' h' w' → Q .normal a' w') : wpOps E.P ops Q (List.range' k l.length) a w :=
  runs_ok hX hcal l k fr h φ a w _ hl hI hr trivial fun e a' w' hp => by
    cases e <;> first | exact hp.elim | (obtain ⟨φ', h1, h2⟩ := hp; exact hQ _ _ _ h1 h2)

theorem Inv.slot (hI : Inv D ng E.gl n φ fr h a w) {d : Nat} {v : AV} {V : Value} (hd : d < n) (hv : g φ v = some V) : Inv D ng E.gl n φ (fr.put (some v) (Ps.key d)) h (a.put (some d) V) w :=
  ⟨hI.fr.put (Nat.lt_of_lt_of_le hd hI.sz) hv, by simpa [Act.put] using hI.sz, hI.rel, by simpa [Act.put] using hI.df⟩

theorem put_same {d : Nat} {V : Value} (hd : d < a.tmps.size) : (a.put (some d) V).tmps.getD d undef = V := by simp [Act.put, Array.getD, hd]
theorem put_other {d t : Nat} {V : Value} (h : d ≠ t) : (a.put (some d) V).tmps.getD t undef = a.tmps.getD t undef := by
  simp only [Act.put, Array.getD_eq_getD_getElem?, Array.getElem?_setIfInBounds_ne h]
theorem put_size {d : Nat} {V : Value} : (a.put (some d) V).tmps.size = a.tmps.size := by simp [Act.put]

theorem gP_mem {φ : Mp} : ∀ {l : List (AV × AV)} {X : List (Value × Value)}, gP φ l = some X → ∀ y ∈ X, ∃ p ∈ l, g φ p.1 = some y.1 ∧ g φ p.2 = some y.2
  | [], X, h, y, hy => by simp only [gP, Option.some.injEq] at h; subst h; cases hy
  | (k, v) :: l, X, h, y, hy => by
    simp only [gP, Option.map_eq_some_iff, Option.bind_eq_some_iff] at h
    obtain ⟨x, hx, z, hz, r, hr, rfl⟩ := h
    rcases List.mem_cons.1 hy with rfl | hy
    · exact ⟨(k, v), List.mem_cons_self .., hx, hz⟩
    · obtain ⟨p, hp, h1⟩ := gP_mem hr y hy
      exact ⟨p, List.mem_cons_of_mem _ hp, h1⟩

/-- A round at an entry leaves all as it was. -/
noncomputable def roundOk (E : Env) (rec : IC → T AV → Hp → XR) (cal : FuncId → List AV → Hp → CR) (n : Nat) (m : MB) (dl : List Nat) (fr0 : T AV) (h0 : Hp) (mid : Nat) (es : List (AV × AV)) (kv : AV × AV) : Bool :=
  match runIOs E cal (m.l6.map (cOper E.P n m.ops6)) ((((hdF m dl h0.nxt fr0).put (some (.tup [.bool true, kv.1, kv.2])) (Ps.key m.tN)).put (some (.bool true)) (Ps.key m.tB)).put (some (.tup [kv.1, kv.2])) (Ps.key m.tE)) (hdZ dl h0 mid es) with
  | .ok f2 h2 => match rec (cCode E.P n m.X) f2 h2 with
    | .ok .nor f3 h3 => tEq avEq (dirt (h0.nxt + 2) dl f3) (hdF m dl h0.nxt fr0) && heldTo (hdZ dl h0 mid es) h3 h0.nxt
    | _ => false
  | _ => false

theorem setBlock_other {w : World} {r b : Nat} {o : Obj} (h : b ≠ r) : (setBlock w r o).heap[b]? = w.heap[b]? := by
  simp only [setBlock, Array.getElem?_setIfInBounds_ne (Ne.symm h)]

/-- The loop. -/
theorem loop_ok (hX : ExtOk E.P ng E.gl (fun f => E.ext.get (Ps.key f))) (hcal : CalOk E.P ng E.gl cal) (hrec : CodeOk E ng rec) (hok : m.Ok E.P n) (hR0 : Rel ng (glF E.gl) φ0 h0 w0) (hdl : m.tIt ∉ dl) (hm : h0.get mid = some (.mp es)) (hL : φ0 mid = some L)
    (hP : gP φ0 es = some (ents.toList.map fun e => (e.key, e.val))) (hborn : ∀ e ∈ ents.toList, e.born < clock) (hpw : (ents.toList.map (·.born)).Pairwise (· < ·)) (hround : es.all (roundOk E rec cal n m dl fr0 h0 mid es) = true)
    (hQ : ∀ a w seen, Hd D E ng n φ0 fr0 h0 w0 m dl L.blk ents clock a w seen → Q .normal ((a.put (some m.tN) (.tuple #[.bool false])).put (some m.tB) (.bool false)) w) :
    ∀ (N : Nat) (a : Act) (w : World) (seen : Array Nat), (leftOf ents seen).size < N → Hd D E ng n φ0 fr0 h0 w0 m dl L.blk ents clock a w seen → Code.rounds E.P m.round (Exit.inBlock m.id0 Q) N a w
  | 0, _, _, _, h, _ => by omega
  | N + 1, a, w, seen, hlt, hH => by
    obtain ⟨lIt, lN, lB, lE⟩ := hok.lt
    obtain ⟨n1, n2, n3, n4, n5, n6⟩ := hok.ne
    have hsz := hH.sz
    rw [rounds_succ]
    unfold MB.round
    refine wp_seq (wp_region ?_)
    have hr5 : List.range m.ops5.size = [0, 1] := rfl
    rw [hr5]
    have hev : a.eval (.tmp m.tIt) = .pointer (some ⟨w0.heap.size, 0, none⟩) := hH.pt
    obtain ⟨o50a, o50b, o50c⟩ := hok.o50
    obtain ⟨o51a, o51b, o51c⟩ := hok.o51
    obtain ⟨o60a, o60b, o60c⟩ := hok.o60
    rcases run_next_at (P := E.P) w m.o50.type w0.heap.size L.blk clock clock seen ents clock hH.it hH.mp hborn (Nat.le_refl _) with ⟨hz, hrun⟩ | ⟨e, he, w1, hw1, hrun⟩
    · -- no entry is left
      refine wpOps_one (o := m.o50) (d := m.tN) (v := .tuple #[.bool false]) (w' := w) rfl o50c o50b (by simp [execOp, o50a, hev, hrun]) ?_
      refine wpOps_one (o := m.o51) (d := m.tB) (v := .bool false) (w' := w) rfl o51c o51b (by
        have : (a.put (some m.tN) (.tuple #[.bool false])).eval (.tmp m.tN) = .tuple #[.bool false] := put_same (by omega)
        simp [execOp, o51a, this, Instr.extract]) ?_
      show Code.wp _ _ _ _ _
      refine wp_seq (wp_cond (t := false) (put_same (by rw [put_size]; omega)) ?_)
      refine wp_exit ?_
      show Exit.inBlock m.id0 Q (.exit m.id0) _ _
      have := hQ a w seen hH
      simpa [Exit.inBlock] using this
    · -- an entry has come
      have hem := (mem_left he).1
      obtain ⟨p, hp, hk, hv⟩ := gP_mem hP (e.key, e.val) (List.mem_map.2 ⟨e, hem, rfl⟩)
      have hro := List.all_eq_true.1 hround p hp
      unfold roundOk at hro
      have hrlt : w0.heap.size < w.heap.size := (Array.getElem?_eq_some_iff.1 hH.it).1
      have hw1h : w1.heap = w.heap := by rcases hw1 with rfl | rfl <;> rfl
      generalize hwN : setBlock w1 w0.heap.size (.mapIter (some L.blk) clock (seen.push e.born) clock) = wN at hrun
      have hold : ∀ b, b ≠ w0.heap.size → wN.heap[b]? = w.heap[b]? := fun b hb => by rw [← hwN, setBlock_other hb, hw1h]
      have hLlt : L.blk < w0.heap.size := by
        obtain ⟨L', hL', _, hat⟩ := hR0.at_ mid _ hm
        rw [hL] at hL'; simp only [Option.some.injEq] at hL'; subst hL'
        exact hat.lt
      have hitN : wN.heap[w0.heap.size]? = some (.mapIter (some L.blk) clock (seen.push e.born) clock) := by
        rw [← hwN]; simp [setBlock, hw1h, hrlt]
      obtain ⟨hRN, hSN⟩ := Rel.beside (w' := wN) hR0 hH.rel hH.stp (by rw [← hwN]; rcases hw1 with rfl | rfl <;> rfl) (by rw [← hwN]; rcases hw1 with rfl | rfl <;> rfl) (by rw [← hwN]; rcases hw1 with rfl | rfl <;> rfl)
        (by rw [← hwN]; simp [setBlock, hw1h]) (fun b hb => hold b (by omega))
      have hHN : Hd D E ng n φ0 fr0 h0 w0 m dl L.blk ents clock a wN (seen.push e.born) := ⟨hRN, hSN, hitN, by rw [hold _ (by omega)]; exact hH.mp, hH.sz, hH.df, hH.fr, hH.pt⟩
      obtain ⟨hI0, hS0⟩ := hHN.invZ hR0 hdl hm hL rfl
      have hsub : Sub φ0 (nm φ0 h0.nxt (hdV dl ents clock w0.heap.size a)) := hS0.sub
      have hI1 := hI0.slot (d := m.tN) (v := .tup [.bool true, p.1, p.2]) (V := .tuple #[.bool true, e.key, e.val]) lN (by simp [g, gL, g_sub hsub hk, g_sub hsub hv])
      have hI2 := hI1.slot (d := m.tB) (v := .bool true) (V := .bool true) lB rfl
      have hI3 := hI2.slot (d := m.tE) (v := .tup [p.1, p.2]) (V := .tuple #[e.key, e.val]) lE (by simp [g, gL, g_sub hsub hk, g_sub hsub hv])
      refine wpOps_one (o := m.o50) (d := m.tN) (v := .tuple #[.bool true, e.key, e.val]) (w' := wN) rfl o50c o50b (by simp [execOp, o50a, hev, hrun]) ?_
      refine wpOps_one (o := m.o51) (d := m.tB) (v := .bool true) (w' := wN) rfl o51c o51b (by
        have : (a.put (some m.tN) (.tuple #[.bool true, e.key, e.val])).eval (.tmp m.tN) = .tuple #[.bool true, e.key, e.val] := put_same (by omega)
        simp [execOp, o51a, this, Instr.extract]) ?_
      show Code.wp _ _ _ _ _
      refine wp_seq (wp_cond (t := true) (put_same (by rw [put_size]; omega)) (wp_skip ?_))
      show Code.wp _ _ _ _ _
      refine wp_block (wp_seq (wp_region ?_))
      have hr6 : List.range m.ops6.size = 0 :: List.range' 1 m.l6.length := by
        rw [List.range_eq_range']
        show List.range' 0 (m.o60 :: m.l6).toArray.size = _
        simp [List.range'_succ]
      rw [hr6]
      refine wpOps_one (o := m.o60) (d := m.tE) (v := .tuple #[e.key, e.val]) (w' := wN) rfl o60c o60b (by
        have : ((a.put (some m.tN) (.tuple #[.bool true, e.key, e.val])).put (some m.tB) (.bool true)).eval (.tmp m.tIt) = .pointer (some ⟨w0.heap.size, 0, none⟩) := by
          show Array.getD _ _ _ = _
          rw [put_other n2, put_other n1]; exact hH.pt
        have hen := run_entry_at (P := E.P) wN w0.heap.size L.blk clock seen ents clock e hitN hHN.mp hem (hpw.imp Nat.ne_of_lt)
        simp [execOp, o60a, this, hen]) ?_
      split at hro
      · rename_i f2 h2 hf2
        refine ops_nor (k := 1) hX hcal (fun i => by simp [MB.ops6, Nat.add_comm 1 i]) hf2 hI3 fun φ' a' w' hI' hS' => ?_
        show Code.wp _ _ _ _ _
        split at hro
        · rename_i f3 h3 hf3
          rw [Bool.and_eq_true] at hro
          refine code_nor hrec hf3 hI' fun φ2 a2 w2 hI2' hS2 => ?_
          show Code.rounds _ _ _ _ _ _
          have hnext := Hd.of hR0 hdl hm hL hH ⟨_, hP, rfl⟩ hI0.rel hS0 hitN hI2' (hS'.trans hS2) hro.1 hro.2
          exact loop_ok hX hcal hrec hok hR0 hdl hm hL hP hborn hpw hround hQ N a2 w2 _ (by have := left_shrinks ents seen e he; omega) hnext
        · cases hro
      · cases hro

/-- Such a function: 'dl': the slots that a round writes; 'xd': where the map lies. -/
noncomputable def oRng (E : Env) (fuel n : Nat) (F : IF) (m : MB) (dl : List Nat) (xd : Od) : Oc := fun args h =>
  match exec E fuel (cCode E.P n m.c1) (ini 0 args .nil) h with
  | .ok .nor f1 h1 => match exec E fuel (cCode E.P n m.c2) f1 h1 with
    | .ok .nor f2 h2 => match exec E fuel (cCode E.P n m.c3) f2 h2 with
      | .ok .nor f3 h3 => match runIOs E (call E fuel) (m.l4.map (cOper E.P n m.ops4)) f3 h3 with
        | .ok fr0 h0 => match xd.rd fr0 with
          | .map (some mid) => match h0.get mid with
            | some (.mp es) => bif es.all (roundOk E (exec E fuel) (call E fuel) n m dl fr0 h0 mid es) then
                (match exec E fuel (cCode E.P n m.c5) (((hdF m dl h0.nxt fr0).put (some (.tup [.bool false])) (Ps.key m.tN)).put (some (.bool false)) (Ps.key m.tB)) (hdH dl h0) with
                | .ok .ret fr h => some (finish E F fr h)
                | _ => none) else none
            | _ => none
          | _ => none
        | _ => none
      | _ => none
    | _ => none
  | _ => none
end
end Ax
namespace Ax
open Go Go.ChangeMaps
variable [Sy]

section
variable {E : Env} {ng n : Nat}

/-- The first operations of a region. -/
theorem runs_nor {D : List Deferred} {ops : Array Oper} {cal : FuncId → List AV → Hp → CR} (hX : ExtOk E.P ng E.gl (fun f => E.ext.get (Ps.key f))) (hcal : CalOk E.P ng E.gl cal) {Q : Exit → Act → World → Prop} :
    ∀ (l : List Oper) (k : Nat) (fr : T AV) (h : Hp) (φ : Mp) (a : Act) (w : World) (fr' : T AV) (h' : Hp), (∀ i, i < l.length → l[i]? = ops[k + i]?) → Inv D ng E.gl n φ fr h a w → runIOs E cal (l.map (cOper E.P n ops)) fr h = .ok fr' h' →
      (∀ φ' a' w', Inv D ng E.gl n φ' fr' h' a' w' → Stp φ h w φ' h' w' → Q .normal a' w') → wpOps E.P ops Q (List.range' k l.length) a w
  | [], k, fr, h, φ, a, w, fr', h', _, hI, hr, hQ => by
    have hr : RR.ok fr h = .ok fr' h' := hr
    simp only [RR.ok.injEq] at hr
    obtain ⟨rfl, rfl⟩ := hr
    simp only [List.length_nil, List.range'_zero, wpOps]
    exact hQ _ _ _ hI (Stp.refl _ _ _)
  | o :: l, k, fr, h, φ, a, w, fr', h', hl, hI, hr, hQ => by
    have ho : ops[k]? = some o := by have := hl 0 (by simp); simpa using this.symm
    have hl' : ∀ i, i < l.length → l[i]? = ops[k + 1 + i]? := by
      intro i hi
      have := hl (i + 1) (by simp; omega)
      simp only [List.getElem?_cons_succ] at this
      rw [this]; congr 1; omega
    have hr' : (match stepIO E cal (cOper E.P n ops o) fr h with
      | .ok fr h => runIOs E cal (l.map (cOper E.P n ops)) fr h
      | .pan v fr h => .pan v fr h
      | .err n => .err n) = .ok fr' h' := hr
    simp only [List.length_cons, List.range'_succ, wpOps_cons]
    cases hs : stepIO E cal (cOper E.P n ops o) fr h with
    | err m => rw [hs] at hr'; cases hr'
    | pan v fr' h' => rw [hs] at hr'; cases hr'
    | ok fr1 h1 =>
      rw [hs] at hr'; simp only at hr'
      refine step_ok hX hcal ho hI hs trivial (fun a' w' hp => ?_) (fun ch a' w' hp => hp.elim)
      obtain ⟨φ', hI', hSt⟩ := hp
      exact runs_nor hX hcal l (k + 1) fr1 h1 φ' a' w' fr' h' hl' hI' hr' (fun φ2 a2 w2 hI2 hS2 => hQ _ _ _ hI2 (hSt.trans hS2))

theorem oRng_ok (hX : ExtOk E.P ng E.gl (fun f => E.ext.get (Ps.key f))) (hD : DraOk E ng) (hO : OrcOk E ng) {fuel : Nat} {f : FuncId} {fn : Func} {F : IF} {m : MB} {dl : List Nat} {xd : Od} (hf : E.P.funcs[f]? = some fn) (hb : fn.body = some m.code) (hn : fn.ntmps = n)
    (hres : F.res = fn.results.toList.map (resOf E.P)) (hok : m.Ok E.P n) (hdl : m.tIt ∉ dl) (hxd : cOd m.xm = some xd) : OOk E.P ng E.gl f (oRng E fuel n F m dl xd) := by
  subst hn
  intro as h r hr hgood φ w A hA hR
  obtain ⟨hrec, -⟩ := exec_ok hX hD hO fuel
  have hcal : CalOk E.P ng E.gl (call E fuel) := call_ok hX hD hO fuel
  unfold oRng at hr
  split at hr
  case h_2 => cases hr
  rename_i f1 h1 hc1
  split at hr
  case h_2 => cases hr
  rename_i f2 h2 hc2
  split at hr
  case h_2 => cases hr
  rename_i f3 h3 hc3
  split at hr
  case h_2 => cases hr
  rename_i fr0 h0 hc4
  split at hr
  case h_2 => cases hr
  rename_i mid hmid
  split at hr
  case h_2 => cases hr
  rename_i es hm
  rw [Bool.cond_eq_ite] at hr
  split at hr
  case isFalse => cases hr
  rename_i hround
  split at hr
  case h_2 => cases hr
  rename_i fr5 h5 hc5
  simp only [Option.some.injEq] at hr
  subst hr
  have hI : Inv [] ng E.gl fn.ntmps φ (ini 0 as .nil) h { tmps := A.toArray ++ Array.replicate (fn.ntmps - A.toArray.size) undef, defers := [] } w :=
    ⟨ini_ok hA _, by simp; omega, hR, rfl⟩
  refine calls_of_wp hf hb ?_
  unfold MB.code
  refine wp_seq (code_nor hrec hc1 hI fun φ1 a1 w1 hI1 hS1 => ?_)
  show Code.wp _ _ _ _ _
  refine wp_seq (code_nor hrec hc2 hI1 fun φ2 a2 w2 hI2 hS2 => ?_)
  show Code.wp _ _ _ _ _
  refine wp_seq (code_nor hrec hc3 hI2 fun φ3 a3 w3 hI3 hS3 => ?_)
  show Code.wp _ _ _ _ _
  refine wp_seq (wp_seq (wp_region ?_))
  obtain ⟨o4a, o4b, o4c⟩ := hok.o4
  have hr4 : List.range m.ops4.size = List.range' 0 m.l4.length ++ [m.l4.length] := by
    rw [List.range_eq_range']
    show List.range' 0 (m.l4 ++ [m.o4]).toArray.size = _
    simp [List.range'_concat]
  rw [hr4]
  refine wpOps_app _ _ _ _ ?_
  refine runs_nor hX hcal m.l4 0 f3 h3 φ3 a3 w3 fr0 h0 (fun i hi => by simp [MB.ops4, List.getElem?_append_left hi]) hI3 hc4 fun φ4 a4 w4 hI4 hS4 => ?_
  show wpOps _ _ _ _ _ _
  have hR4 := hI4.rel
  have hev := rd_ok hI4.fr hxd
  rw [hmid] at hev
  simp only [g, Option.map_eq_some_iff] at hev
  obtain ⟨L, hL, hev⟩ := hev
  obtain ⟨L', hL', _, ents, clock, hblk, hP, hborn, hpw⟩ := hR4.at_ mid _ hm
  rw [hL] at hL'; simp only [Option.some.injEq] at hL'; subst hL'
  have hev := hev.symm
  have hat4 : m.ops4[m.l4.length]? = some m.o4 := by
    show (m.l4 ++ [m.o4]).toArray[m.l4.length]? = _
    rw [List.getElem?_toArray, List.getElem?_append_right (Nat.le_refl _), Nat.sub_self]; rfl
  have hrange := run_range_map (P := E.P) w4 m.tm m.tk m.te L.blk ents clock hok.map hblk
  have hLlt : L.blk < w4.heap.size := (Array.getElem?_eq_some_iff.1 hblk).1
  refine wpOps_one (o := m.o4) (d := m.tIt) (v := .pointer (some ⟨w4.heap.size, 0, none⟩)) (w' := w4.alloc (.mapIter (some L.blk) clock #[] clock)) hat4 o4c o4b (by simp only [execOp, o4a, hev, Sem.run_bind, hrange, Result.andThen_ok, Sem.run_pure]) ?_
  show Code.wp _ _ _ _ _
  obtain ⟨hR5, hS5⟩ := Rel.beside (w' := w4.alloc (.mapIter (some L.blk) clock #[] clock)) hR4 hR4 (Stp.refl _ _ _) rfl rfl rfl (by show w4.heap.size ≤ (w4.heap.push _).size; rw [Array.size_push]; omega) (fun b hb => heap_alloc_old w4 _ hb)
  have hH : Hd [] E ng fn.ntmps φ4 fr0 h0 w4 m dl L.blk ents clock (a4.put (some m.tIt) (.pointer (some ⟨w4.heap.size, 0, none⟩))) (w4.alloc (.mapIter (some L.blk) clock #[] clock)) #[] :=
    ⟨hR5, hS5, heap_alloc_new w4 _, (heap_alloc_old w4 _ hLlt).trans hblk, by rw [put_size]; exact hI4.sz, hI4.df, fun t _ ht => by rw [put_other (Ne.symm ht)]; exact hI4.fr t, put_same (Nat.lt_of_lt_of_le hok.lt.1 hI4.sz)⟩
  refine wp_block (wp_loop_rounds ((leftOf ents #[]).size + 1) ?_)
  refine loop_ok hX hcal hrec hok hR4 hdl hm hL hP hborn hpw hround (fun a w seen hHd => ?_) _ _ _ _ (Nat.lt_succ_self _) hH
  show Code.wp _ _ _ _ _
  obtain ⟨hI6, hS6⟩ := hHd.inv hR4 hdl
  have hI7 := hI6.slot (d := m.tN) (v := .tup [.bool false]) (V := .tuple #[.bool false]) hok.lt.2.1 rfl
  have hI8 := hI7.slot (d := m.tB) (v := .bool false) (V := .bool false) hok.lt.2.2.1 rfl
  refine hrec [] fn.ntmps m.c5 _ _ _ _ _ _ (by rw [hc5]; trivial) hI8 fun e a' w' hp => ?_
  rw [hc5] at hp
  cases e <;> first | exact hp.elim | skip
  obtain ⟨φ', hI', hS⟩ := hp
  obtain ⟨v, V, e1, e2, e3⟩ := finish_ok hI'.fr hI'.rel hres hgood
  rw [e1]
  exact ⟨hI'.df, V, e3, φ', e2, hI'.rel, ((((hS1.trans hS2).trans hS3).trans hS4).trans hS6).trans hS⟩
end
end Ax
namespace Ax
open Go
variable [Sy]
/-- What a table tells. -/
noncomputable def memoF (l : List (List AV × AV)) (as : List AV) : Option AV := List.rec none (fun p _ ih => bif avEqL p.1 as then some p.2 else ih) l
theorem memoF_mem : ∀ {l : List (List AV × AV)} {as : List AV} {v : AV}, memoF l as = some v → (as, v) ∈ l
  | [], _, _, h => by cases h
  | (k, u) :: l, as, v, h => by
    have e : memoF ((k, u) :: l) as = bif avEqL k as then some u else memoF l as := rfl
    rw [e, Bool.cond_eq_ite] at h
    split at h
    · rename_i hk
      simp only [Option.some.injEq] at h
      rw [avEqL_ok _ _ hk, h]; exact List.mem_cons_self ..
    · exact List.mem_cons_of_mem _ (memoF_mem h)
/-- Does an entry say what the run comes to? -/
noncomputable def memoB (cal : List AV → Hp → CR) (p : List AV × AV) : Bool := pureL p.1 && (pureV p.2 && (match cal p.1 Hp.empty with | .ret v _ => avEq v p.2 | _ => false))
noncomputable def memoA (cal : List AV → Hp → CR) (l : List (List AV × AV)) : Bool := List.rec true (fun p _ ih => bif memoB cal p then ih else false) l
theorem memoA_ok {cal : List AV → Hp → CR} : ∀ {l : List (List AV × AV)}, memoA cal l = true → ∀ p ∈ l, memoB cal p = true
  | [], _, p, hp => by cases hp
  | q :: l, h, p, hp => by
    have e : memoA cal (q :: l) = bif memoB cal q then memoA cal l else false := rfl
    rw [e, Bool.cond_eq_ite] at h
    split at h
    · rename_i hq
      rcases List.mem_cons.1 hp with rfl | hp
      · exact hq
      · exact memoA_ok h p hp
    · cases h
section
variable {ng : Nat}
theorem memo_ok {E : Env} (hp : Plain E.gl) {cal : FuncId → List AV → Hp → CR} (hc : CalOk E.P ng E.gl cal) {f : FuncId} {l : List (List AV × AV)} (h : memoA (cal f) l = true) : OOk E.P ng E.gl f (oClo (memoF l)) := by
  refine oClo_ok hp hc fun as v hv => ?_
  have hm := memoA_ok h _ (memoF_mem hv)
  unfold memoB at hm
  simp only [Bool.and_eq_true] at hm
  obtain ⟨h1, h2, h3⟩ := hm
  obtain ⟨X, hX⟩ := pureL_ok h1
  refine ⟨X, hX, pureV_ok h2, as, ?_⟩
  split at h3
  · rename_i u h' hr
    rw [avEq_ok _ _ h3] at hr
    exact ⟨h', hX, hr⟩
  · cases h3
end
/-- Of all numbers from a on, so many. -/
noncomputable def allN (a n : Nat) (p : Nat → Bool) : Bool := Nat.rec true (fun i ih => bif p (Nat.add a i) then ih else false) n
theorem allN_ok {a : Nat} {p : Nat → Bool} : ∀ {n : Nat}, allN a n p = true → ∀ i, a ≤ i → i < a + n → p i = true
  | 0, _, i, h1, h2 => by omega
  | n + 1, h, i, h1, h2 => by
    have e : allN a (n + 1) p = bif p (a + n) then allN a n p else false := rfl
    rw [e, Bool.cond_eq_ite] at h
    split at h
    · rename_i hp
      by_cases hi : i = a + n
      · rw [hi]; exact hp
      · exact allN_ok h i h1 (by omega)
    · cases h
end Ax
namespace Ax
open Go
variable [Sy]
section
variable {P : Program} {ng : Nat} {gl : T (List AV)} {φ : Mp} {h : Hp} {w w' : World} {f : FuncId}
theorem view1_ok {E : Env} (hp : Plain E.gl) {cal : FuncId → List AV → Hp → CR} (hc : CalOk E.P ng E.gl cal) (hR : Rel ng (glF E.gl) φ h w) {id : Nat} {el : TypeId} {cs : Cl}
    (hg : h.get id = some (.row el cs none)) {BS : List Value} (hB : gL (fun _ => none) cs.list = some BS) {v : AV} {V : Value} (hv : g (fun _ => none) v = some V) {as0 as : List AV} {h' : Hp}
    (hrun : cal f as0 (mini el cs.list) = .ret v h' ∧ h'.get 0 = some (.row el (.gen cs.list) none)) {A : List Value} (hA : gL φ as = some A) (has : ∀ L, φ id = some L → gL (upd (fun _ => none) 0 L) as0 = gL φ as) :
    Calls E.P f A.toArray w (CPost ng E.gl φ h w (.ret v h)) := by
  obtain ⟨L, hL, hng, hat⟩ := hR.at_ id _ hg
  obtain ⟨cc, lo, hi, xs, hh, hxs, hbt, hxl, htail, hesz, hget, hfz⟩ := hat
  have hBx : BS = xs := by
    have := gL_sub (sub_none φ) hB
    rw [hxs] at this; simpa using this.symm
  subst hBx
  have hRm : Rel ng (glF E.gl) (upd (fun _ => none) 0 L) (mini el cs.list) w := by
    refine ⟨fun j o ho => ?_, fun i j o u M N hi' hj hM hN hb => ?_, fun j hj => ?_, hR.ngle, fun k ds hk => ?_⟩
    · rw [mini_get] at ho
      split at ho
      · rename_i hj
        subst hj
        simp only [Option.some.injEq] at ho; subst ho
        exact ⟨_, upd_self _ _ _, hng, cc, lo, hi, BS, hh, gL_sub (sub_none _) hB, hbt, hxl, htail, (fun m hm => by cases hm), hget, hfz⟩
      · cases ho
    · rw [mini_get] at hi' hj
      by_cases h1 : i = 0
      · by_cases h2 : j = 0
        · omega
        · rw [if_neg h2] at hj; cases hj
      · rw [if_neg h1] at hi'; cases hi'
    · have : (mini el cs.list).nxt = 1 := rfl
      rw [upd_ne (by omega)]
    · obtain ⟨k1, k2⟩ := (hR.empty hp).gl_ k ds hk
      obtain ⟨c, el, fz, xs, a1, a2, a3⟩ := k2
      exact ⟨k1, c, el, fz, xs, a1, gL_sub (sub_none _) a2, a3⟩
  obtain ⟨hcal, hrow⟩ := hrun
  have := hc f as0 (mini el cs.list) (by rw [hcal]; trivial) _ w A (by rw [has L hL]; exact hA) hRm
  rw [hcal] at this
  refine this.mono fun e w' he => ?_
  cases e with
  | panicked ch => exact he.elim
  | outgrown => exact he.elim
  | returned Y =>
    obtain ⟨φ', hv', hR', hS⟩ := he
    have hVY : V = Y := by
      have := g_sub (sub_none φ') hv
      rw [hv'] at this; simpa using this.symm
    subst hVY
    have hdom : ∀ b, Dom (upd (fun _ => none) 0 L) (mini el cs.list) b → b = L.blk := by
      rintro b ⟨j, o, M, h1, h2, h3⟩
      rw [mini_get] at h1
      by_cases hj : j = 0
      · subst hj; rw [upd_self] at h2; simp only [Option.some.injEq] at h2; subst h2; exact h3.symm
      · rw [if_neg hj] at h1; cases h1
    have hseen : ∀ b o, Seen (upd (fun _ => none) 0 L) (mini el cs.list) b o → b = L.blk ∧ L.base ≤ o ∧ o < L.base + L.tot := by
      rintro b o ⟨j, ob, M, h1, h2, h3, h4, h5⟩
      rw [mini_get] at h1
      by_cases hj : j = 0
      · subst hj; rw [upd_self] at h2; simp only [Option.some.injEq] at h2; subst h2; exact ⟨h3.symm, h4, h5⟩
      · rw [if_neg hj] at h1; cases h1
    have hxlen := gL_length hxs
    have hlt : L.blk < w.heap.size := (Array.getElem?_eq_some_iff.1 hh).1
    obtain ⟨c', fz', g1, g2, g3⟩ := hS.cells L.blk cc el (lo, hi) hlt hh
    obtain ⟨L2, hL2, _, c2, lo2, hi2, BS2, hh2, hB2, _, _, _, _, hget2, hfz2⟩ := hR'.at_ 0 _ hrow
    have hL2' := hS.sub 0 _ (upd_self _ _ _)
    rw [hL2] at hL2'; simp only [Option.some.injEq] at hL2'; subst hL2'
    rw [g1] at hh2
    simp only [Option.some.injEq, Obj.cells.injEq, true_and] at hh2
    obtain ⟨rfl, rfl⟩ := hh2
    have hBe : BS2 = BS := by
      have h1 := gL_sub (sub_none φ') hB
      have hB2' : gL φ' cs.list = some BS2 := hB2
      rw [hB2'] at h1; simpa using h1
    subst hBe
    have hat' : At φ L2 (.row el cs none) w' := ⟨c', lo2, hi2, BS2, g1, hxs, by omega, hxl, htail, hesz.to g2 rfl, hget2, hfz2⟩
    refine ⟨φ, g_sub (sub_none φ) hv, ⟨fun j o0 hj => ?_, hR.inj, hR.fresh, Nat.le_trans hR.ngle hS.size, fun k ds hk => ?_⟩, ⟨⟨Sub.refl _, hS.os, hS.tape, hS.output, hS.size, fun b hb hd => ?_, fun b hd => .inl hd, fun b c0 e0 f0 hb hc0 => ?_, fun j o0 M h1 h2 _ => ⟨j, o0, M, h1, h2, rfl, Nat.le_refl _, Nat.le_refl _⟩⟩, fun _ _ => rfl, Nat.le_refl _⟩⟩
    · obtain ⟨M, hM, ngM, hatM⟩ := hR.at_ j o0 hj
      by_cases hb : M.blk = L2.blk
      · have := hR.inj j id o0 _ M L2 hj hg hM hL hb
        subst this
        rw [hL] at hM; simp only [Option.some.injEq] at hM; subst hM
        rw [hg] at hj; simp only [Option.some.injEq] at hj; subst hj
        exact ⟨L2, hL, hng, hat'⟩
      · exact ⟨M, hM, ngM, hatM.frame (hS.block _ hatM.lt fun hd => hb (hdom _ hd))⟩
    · obtain ⟨k1, c0, e0, f0, ys, a1, a2, a3⟩ := hR.gl_ k ds hk
      exact ⟨k1, c0, e0, f0, ys, by rw [hS.block k (Nat.lt_of_lt_of_le k1 hR.ngle) (fun hd => by have := hdom _ hd; omega), a1], a2, a3⟩
    · exact hS.block b hb fun hd' => hd ⟨id, _, L2, hg, hL, (hdom b hd').symm⟩
    · obtain ⟨c9, f9, b1, b2, b3⟩ := hS.cells b c0 e0 f0 hb hc0
      refine ⟨c9, f9, b1, b2, fun o ho => b3 o fun hs => ho ?_⟩
      obtain ⟨rfl, h1, h2⟩ := hseen _ _ hs
      exact ⟨id, _, L2, hg, hL, rfl, by omega, by omega⟩

/-- A call over one row. -/
structure RowF where
  as0 : List AV
  el : Nat
  cs : List AV
  v0 : AV
noncomputable def oRowF (F : RowF) : Oc := fun as h => match uniL 1 h.nxt F.as0 as Re.nil with
  | some r => (match r.to.get (Ps.key 0) with
    | some id => (match h.get id with
      | some (.row el cs none) => bif Nat.beq el F.el && avEqL cs.list F.cs then some (.ret F.v0 h) else none
      | _ => none)
    | none => none)
  | none => none
noncomputable def closedL (l : List AV) : Bool := (gL (fun _ => none) l).isSome
noncomputable def rowB (cal : List AV → Hp → CR) (F : RowF) : Bool := closedL F.cs && (pureV F.v0 || (match F.v0 with | .tup l => pureL l | _ => false)) && (match cal F.as0 (mini F.el F.cs) with
  | .ret v h' => avEq v F.v0 && hasO h' 0 (.row F.el (.gen F.cs) none)
  | _ => false)
theorem pureT_ok {v : AV} (h : (pureV v || (match v with | .tup l => pureL l | _ => false)) = true) : ∃ V, g (fun _ => none) v = some V := by
  rw [Bool.or_eq_true] at h
  rcases h with h | h
  · exact pureV_ok h
  · split at h
    · rename_i l
      obtain ⟨xs, hx⟩ := pureL_ok h
      exact ⟨.tuple xs.toArray, by simp only [g, hx, Option.map_some]⟩
    · cases h
theorem rowF_ok {E : Env} (hp : Plain E.gl) {cal : FuncId → List AV → Hp → CR} (hc : CalOk E.P ng E.gl cal) {F : RowF} (hrun : rowB (cal f) F = true) : OOk E.P ng E.gl f (oRowF F) := by
  intro as h r hr _ φ w A hA hR
  unfold rowB at hrun
  simp only [Bool.and_eq_true] at hrun
  obtain ⟨⟨k1, k2⟩, k3⟩ := hrun
  obtain ⟨BS, hB⟩ := Option.isSome_iff_exists.1 k1
  obtain ⟨V, hV⟩ := pureT_ok k2
  split at k3
  case h_2 => cases k3
  rename_i v h' hcal
  rw [Bool.and_eq_true] at k3
  have hv := avEq_ok _ _ k3.1
  subst hv
  have hrow := hasO_ok k3.2
  unfold oRowF at hr
  split at hr
  case h_2 => cases hr
  rename_i re hre
  split at hr
  case h_2 => cases hr
  rename_i id hid
  split at hr
  case h_2 => cases hr
  rename_i el cs hg
  rw [Bool.cond_eq_ite] at hr
  split at hr
  case isFalse => cases hr
  rename_i hb
  simp only [Bool.and_eq_true, Nat.beq_eq] at hb
  simp only [Option.some.injEq] at hr; subst hr
  obtain ⟨e1, e2⟩ := hb
  have e2 := avEqL_ok _ _ e2
  obtain ⟨m1, m2, m3⟩ := uniL_ok hre reOk_nil
  rw [e1] at hg
  rw [← e2] at hB hcal hrow
  refine view1_ok hp hc hR hg hB hV ⟨hcal, hrow⟩ hA fun L hL => ?_
  refine (gL_rel (φ0 := upd (fun _ => none) 0 L) (φ' := φ) (ρ := re.at) (fun a b hab => ?_) m3).symm
  have ha : a = 0 := by have := m1.low a b hab; omega
  subst ha
  have : b = id := by
    have h0 : re.at 0 = some id := hid
    rw [h0] at hab; simpa using hab.symm
  subst this
  rw [hL, upd_self]
/-- A table of such. -/
noncomputable def oRows (l : List RowF) : Oc := List.rec (fun _ _ => none) (fun F _ ih => oElse (oRowF F) ih) l
noncomputable def rowsA (cal : List AV → Hp → CR) (l : List RowF) : Bool := List.rec true (fun F _ ih => bif rowB cal F then ih else false) l
theorem rows_ok {E : Env} (hp : Plain E.gl) {cal : FuncId → List AV → Hp → CR} (hc : CalOk E.P ng E.gl cal) : ∀ {l : List RowF}, rowsA (cal f) l = true → OOk E.P ng E.gl f (oRows l)
  | [], _ => fun as h r hr => by cases hr
  | F :: l, h => by
    have e : rowsA (cal f) (F :: l) = bif rowB (cal f) F then rowsA (cal f) l else false := rfl
    rw [e, Bool.cond_eq_ite] at h
    split at h
    · rename_i hF
      exact oElse_ok (rowF_ok hp hc hF) (rows_ok hp hc h)
    · cases h
/-- As 'memo': with arguments that may hold nil. -/
noncomputable def memoB2 (cal : List AV → Hp → CR) (p : List AV × AV) : Bool := closedL p.1 && (pureV p.2 || (match p.2 with | .tup l => pureL l | _ => false)) && (match cal p.1 Hp.empty with | .ret v _ => avEq v p.2 | _ => false)
noncomputable def memoA2 (cal : List AV → Hp → CR) (l : List (List AV × AV)) : Bool := List.rec true (fun p _ ih => bif memoB2 cal p then ih else false) l
theorem memoA2_ok {cal : List AV → Hp → CR} : ∀ {l : List (List AV × AV)}, memoA2 cal l = true → ∀ p ∈ l, memoB2 cal p = true
  | [], _, p, hp => by cases hp
  | q :: l, h, p, hp => by
    have e : memoA2 cal (q :: l) = bif memoB2 cal q then memoA2 cal l else false := rfl
    rw [e, Bool.cond_eq_ite] at h
    split at h
    · rename_i hq
      rcases List.mem_cons.1 hp with rfl | hp
      · exact hq
      · exact memoA2_ok h p hp
    · cases h
theorem memo2_ok {E : Env} (hp : Plain E.gl) {cal : FuncId → List AV → Hp → CR} (hc : CalOk E.P ng E.gl cal) {l : List (List AV × AV)} (h : memoA2 (cal f) l = true) : OOk E.P ng E.gl f (oClo (memoF l)) := by
  refine oClo_ok hp hc fun as v hv => ?_
  have hm := memoA2_ok h _ (memoF_mem hv)
  unfold memoB2 at hm
  simp only [Bool.and_eq_true] at hm
  obtain ⟨⟨h1, h2⟩, h3⟩ := hm
  obtain ⟨X, hX⟩ := Option.isSome_iff_exists.1 h1
  refine ⟨X, hX, pureT_ok h2, as, ?_⟩
  split at h3
  · rename_i u h' hr
    rw [avEq_ok _ _ h3] at hr
    exact ⟨h', hX, hr⟩
  · cases h3
end
end Ax
