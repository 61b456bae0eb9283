/- A list of files and a map of files go the same way, step by step; the conditions stand in each statement. -/
import Derived.Test.YtiikdbnblacbhaaGreatDoorDc
import Derived.Test.YtiikdbnblacbhaaGreatDoorRb
import Derived.Test.YtiikdbnblacbhaaGreatDoorRc
set_option linter.unusedVariables false
set_option linter.unusedSimpArgs false
set_option linter.unusedSectionVars false
namespace Dk
open Go Go.Proofs Go.RowKit Go.Maps

def ent (p : Fl) : Lit × DataW Unit := (kl p.1, sd p.2)
/-- A list of files as a map. -/
def dm (l : List Fl) : DataW Unit := .map (l.map ent)
theorem bb_eq : ∀ (x y : List UInt8), Op.bytesLess x y = bytesBefore x y
  | [], [] => rfl
  | _ :: _, [] => rfl
  | [], _ :: _ => rfl
  | a :: x, b :: y => by rw [Op.bytesLess, bytesBefore, bb_eq x y]
theorem ltB_eq (a b : ByteArray) : ltB a b = (kl a).before (kl b) := by
  unfold ltB kl
  rw [bb_eq, ByteArray.toList_eq, ByteArray.toList_eq]
  rfl
theorem kl_inj {a b : ByteArray} (h : kl a = kl b) : a = b := by
  unfold kl at h
  simp only [Lit.string.injEq] at h
  exact WideShapes.bytes_inj h
theorem toList_beq (a b : ByteArray) : (a.toList == b.toList) = decide (a = b) := by
  rw [ByteArray.toList_eq, ByteArray.toList_eq]
  by_cases h : a = b
  · subst h; simp
  · have : ¬ a.data.toList = b.data.toList := fun e => h (WideShapes.bytes_inj e)
    rw [decide_eq_false h]
    exact beq_eq_false_iff_ne.2 this
theorem ltB_irrefl (a : ByteArray) : ltB a a = false := by rw [ltB_eq]; exact WideShapes.before_irrefl _
theorem ltB_trans {a b c : ByteArray} (h : ltB a b = true) (k : ltB b c = true) : ltB a c = true := by
  rw [ltB_eq] at *; exact WideShapes.before_trans h k
theorem ltB_asymm {a b : ByteArray} (h : ltB a b = true) : ltB b a = false := by
  cases hb : ltB b a
  · rfl
  · have := ltB_trans h hb; rw [ltB_irrefl] at this; cases this
theorem ltB_ne {a b : ByteArray} (h : ltB a b = true) : a ≠ b := by
  rintro rfl; rw [ltB_irrefl] at h; cases h
theorem ltB_total {a b : ByteArray} (h : a ≠ b) : ltB a b = true ∨ ltB b a = true := by
  rw [ltB_eq, ltB_eq]
  exact ChangeMaps.before_total ⟨_, rfl⟩ ⟨_, rfl⟩ (fun e => h (kl_inj e))

/-- The files stand by their names. -/
def Srt (l : List Fl) : Prop := l.Pairwise (fun p q => ltB p.1 q.1 = true)
/-- A list around a name. -/
structure Cut (l : List Fl) (n : ByteArray) (a m c : List Fl) : Prop where
  eq : l = a ++ (m ++ c)
  at_ : atN l n = a.length
  lo : ∀ p ∈ a, ltB p.1 n = true
  hi : ∀ p ∈ c, ltB n p.1 = true
  mid : (okF l n = true ∧ ∃ b, m = [(n, b)]) ∨ (okF l n = false ∧ m = [])
theorem okF_cons {p : Fl} {l : List Fl} {n : ByteArray} (h : ltB p.1 n = true) : okF (p :: l) n = okF l n := by
  unfold okF
  rw [show atN (p :: l) n = atN l n + 1 by rw [atN, if_pos h]]
  rfl
theorem cut_any : ∀ (l : List Fl) (n : ByteArray), Srt l → ∃ a m c, Cut l n a m c
  | [], n, _ => ⟨[], [], [], rfl, rfl, by simp, by simp, .inr ⟨rfl, rfl⟩⟩
  | p :: l, n, h => by
    obtain ⟨h1, h2⟩ := List.pairwise_cons.1 h
    by_cases hp : ltB p.1 n = true
    · obtain ⟨a, m, c, k1, k2, k3, k4, k5⟩ := cut_any l n h2
      refine ⟨p :: a, m, c, by rw [k1]; rfl, by rw [atN, if_pos hp, k2]; rfl, ?_, k4, by rw [okF_cons hp]; exact k5⟩
      intro q hq
      rcases List.mem_cons.1 hq with rfl | hq
      · exact hp
      · exact k3 q hq
    · have e0 : atN (p :: l) n = 0 := by rw [atN, if_neg hp]
      have eo : okF (p :: l) n = (p.1.toList == n.toList) := by unfold okF; rw [e0]; rfl
      rw [toList_beq] at eo
      by_cases he : p.1 = n
      · refine ⟨[], [p], l, rfl, e0, by simp, ?_, .inl ⟨by rw [eo]; simp [he], p.2, by rw [← he]⟩⟩
        intro q hq
        rw [← he]
        exact h1 q hq
      · have hnp : ltB n p.1 = true := (ltB_total he).resolve_left hp
        refine ⟨[], [], p :: l, rfl, e0, by simp, ?_, .inr ⟨by rw [eo]; simp [he], rfl⟩⟩
        intro q hq
        rcases List.mem_cons.1 hq with rfl | hq
        · exact hnp
        · exact ltB_trans hnp (h1 q hq)
theorem same_ne {a b : ByteArray} (h : a ≠ b) : (kl a).sameKey (kl b) = false := Maps.sameKey_ne (fun e => h (kl_inj e))
theorem same_self (a : ByteArray) : (kl a).sameKey (kl a) = true := by simp [kl, Lit.sameKey]
theorem filt_keep {a : List Fl} {n : ByteArray} (h : ∀ p ∈ a, p.1 ≠ n) : (a.map ent).filter (fun p => !p.1.sameKey (kl n)) = a.map ent := by
  rw [List.filter_eq_self]
  intro x hx
  obtain ⟨p, hp, rfl⟩ := List.mem_map.1 hx
  show (!(kl p.1).sameKey (kl n)) = true
  rw [same_ne (h p hp)]; rfl
theorem any_none {a : List Fl} {n : ByteArray} (h : ∀ p ∈ a, p.1 ≠ n) : (a.map ent).any (fun p => p.1.sameKey (kl n)) = false := by
  rw [List.any_eq_false]
  intro x hx
  obtain ⟨p, hp, rfl⟩ := List.mem_map.1 hx
  show ¬ (kl p.1).sameKey (kl n) = true
  rw [same_ne (h p hp)]; simp
theorem find_none' {a : List Fl} {n : ByteArray} (h : ∀ p ∈ a, p.1 ≠ n) : (a.map ent).find? (fun p => p.1.sameKey (kl n)) = none := by
  rw [List.find?_eq_none]
  intro x hx
  obtain ⟨p, hp, rfl⟩ := List.mem_map.1 hx
  show ¬ (kl p.1).sameKey (kl n) = true
  rw [same_ne (h p hp)]; simp
theorem ins_mid {a c : List Fl} {n : ByteArray} (x : DataW Unit) (ha : ∀ p ∈ a, ltB p.1 n = true) (hc : ∀ p ∈ c, ltB n p.1 = true) :
    DataW.insert (kl n, x) ((a ++ c).map ent) = a.map ent ++ (kl n, x) :: c.map ent := by
  induction a with
  | nil =>
    cases c with
    | nil => rfl
    | cons q c =>
      have := hc q (by simp)
      rw [ltB_eq] at this
      show (if (kl n).before (kl q.1) then _ else _) = _
      rw [if_pos this]
      rfl
  | cons p a ih =>
    have h1 := ltB_asymm (ha p (by simp))
    rw [ltB_eq] at h1
    show (if (kl n).before (kl p.1) then _ else _) = _
    rw [if_neg (by rw [h1]; simp)]
    show ent p :: DataW.insert (kl n, x) ((a ++ c).map ent) = _
    rw [ih (fun q hq => ha q (by simp [hq]))]
    rfl

section
variable {l a m c : List Fl} {n : ByteArray}
theorem Cut.lo_ne (h : Cut l n a m c) : ∀ p ∈ a, p.1 ≠ n := fun p hp => ltB_ne (h.lo p hp)
theorem Cut.hi_ne (h : Cut l n a m c) : ∀ p ∈ c, p.1 ≠ n := fun p hp => (ltB_ne (h.hi p hp)).symm
theorem Cut.ac_ne (h : Cut l n a m c) : ∀ p ∈ a ++ c, p.1 ≠ n := fun p hp => (List.mem_append.1 hp).elim (h.lo_ne p) (h.hi_ne p)
theorem Cut.filt (h : Cut l n a m c) : (l.map ent).filter (fun p => !p.1.sameKey (kl n)) = (a ++ c).map ent := by
  have hm : (m.map ent).filter (fun p => !p.1.sameKey (kl n)) = [] := by
    rcases h.mid with ⟨_, b, rfl⟩ | ⟨_, rfl⟩
    · simp [ent, same_self]
    · rfl
  rw [h.eq, List.map_append, List.map_append, List.filter_append, List.filter_append, hm, filt_keep h.lo_ne, filt_keep h.hi_ne, List.map_append]
  rfl
theorem Cut.write (h : Cut l n a m c) (b : ByteArray) (hl : okF l n = true ∨ l.length < 100) : writeF l n b = a ++ (n, b) :: c := by
  have e := h.eq
  have ea := h.at_
  unfold writeF
  rcases h.mid with ⟨ho, x, rfl⟩ | ⟨ho, rfl⟩
  · rw [dif_pos ho]
    have hk := okF_lt ho
    have e1 : (l[atN l n]'hk).1 = n := by
      have : l[atN l n]? = some (n, x) := by rw [ea, e]; simp
      rw [List.getElem?_eq_getElem hk] at this
      rw [Option.some.inj this]
    rw [e1, ea, e]
    simp
  · rw [dif_neg (by rw [ho]; simp), if_neg (fun h100 => hl.elim (fun h => by rw [ho] at h; cases h) (fun h => by omega)), ea, e]
    simp
theorem Cut.rest (h : Cut l n a m c) (ho : okF l n = true) : restF l n = a ++ c := by
  have e := h.eq
  have ea := h.at_
  rcases h.mid with ⟨_, x, rfl⟩ | ⟨ho', _⟩
  · unfold restF
    rw [ea, e, List.take_left, List.drop_append]
    simp
  · rw [ho] at ho'; cases ho'
theorem Cut.get (h : Cut l n a m c) (ho : okF l n = true) : m = [(n, getF l n)] := by
  have e := h.eq
  have ea := h.at_
  rcases h.mid with ⟨_, x, rfl⟩ | ⟨ho', _⟩
  · have : l[atN l n]? = some (n, x) := by rw [ea, e]; simp
    unfold getF
    rw [this]
  · rw [ho] at ho'; cases ho'
end
theorem has_dm {l : List Fl} (h : Srt l) (n : ByteArray) : Maps.has (dm l) (kl n) = okF l n := by
  obtain ⟨a, m, c, k⟩ := cut_any l n h
  show (l.map ent).any _ = _
  rw [k.eq, List.map_append, List.map_append, List.any_append, List.any_append, any_none k.lo_ne, any_none k.hi_ne, ← k.eq]
  rcases k.mid with ⟨ho, b, rfl⟩ | ⟨ho, rfl⟩
  · rw [ho]; simp [ent, same_self]
  · rw [ho]; rfl
theorem size_dm (l : List Fl) : Maps.size (dm l) = l.length := by simp [dm, Maps.size]
theorem txt_dm {l : List Fl} (h : Srt l) {n : ByteArray} (ho : okF l n = true) : txt (dm l) n = sd (getF l n) := by
  obtain ⟨a, m, c, k⟩ := cut_any l n h
  have hm := k.get ho
  have hf : (l.map ent).find? (fun p => p.1.sameKey (kl n)) = some (kl n, sd (getF l n)) := by
    have e := congrArg (fun z => (z.map ent).find? (fun p => p.1.sameKey (kl n))) k.eq
    simp only [List.map_append, List.find?_append, find_none' k.lo_ne, Option.none_or] at e
    rw [e, hm]
    simp [ent, same_self]
  unfold txt dm DataW.atKey
  simp only [hf]
theorem put_dm {l : List Fl} (h : Srt l) (n b : ByteArray) (hl : okF l n = true ∨ l.length < 100) : (dm l).put (kl n) (sd b) = dm (writeF l n b) := by
  obtain ⟨a, m, c, k⟩ := cut_any l n h
  show DataW.map (DataW.insert (kl n, sd b) ((l.map ent).filter fun p => !p.1.sameKey (kl n))) = _
  rw [k.filt, ins_mid _ k.lo k.hi, k.write b hl]
  simp [dm, ent]
theorem del_dm {l : List Fl} (h : Srt l) (n : ByteArray) (ho : okF l n = true) : (dm l).del (kl n) = dm (restF l n) := by
  obtain ⟨a, m, c, k⟩ := cut_any l n h
  show DataW.map ((l.map ent).filter fun p => !p.1.sameKey (kl n)) = _
  rw [k.filt, k.rest ho]
  rfl
theorem srt_mid {a c : List Fl} {n : ByteArray} (b : ByteArray) (h : Srt (a ++ c)) (ha : ∀ p ∈ a, ltB p.1 n = true) (hc : ∀ p ∈ c, ltB n p.1 = true) : Srt (a ++ (n, b) :: c) := by
  unfold Srt at h ⊢
  rw [List.pairwise_append] at h ⊢
  obtain ⟨h1, h2, h3⟩ := h
  refine ⟨h1, List.pairwise_cons.2 ⟨hc, h2⟩, fun p hp q hq => ?_⟩
  rcases List.mem_cons.1 hq with rfl | hq
  · exact ha p hp
  · exact h3 p hp q hq
theorem Cut.srt {l a m c : List Fl} {n : ByteArray} (k : Cut l n a m c) (h : Srt l) : Srt (a ++ c) := by
  unfold Srt at h ⊢
  rw [k.eq] at h
  refine h.sublist ?_
  exact List.Sublist.append (List.Sublist.refl _) (List.sublist_append_right _ _)
theorem srt_write {l : List Fl} (h : Srt l) (n b : ByteArray) : Srt (writeF l n b) := by
  obtain ⟨a, m, c, k⟩ := cut_any l n h
  by_cases hl : okF l n = true ∨ l.length < 100
  · rw [k.write b hl]
    exact srt_mid b (k.srt h) k.lo k.hi
  · have e : writeF l n b = l := by
      unfold writeF
      rw [dif_neg (fun x => hl (.inl x)), if_pos (by have := fun x => hl (.inr x); omega)]
    rw [e]; exact h
theorem srt_rest {l : List Fl} (h : Srt l) (n : ByteArray) (ho : okF l n = true) : Srt (restF l n) := by
  obtain ⟨a, m, c, k⟩ := cut_any l n h
  rw [k.rest ho]; exact k.srt h
theorem rest_len {l : List Fl} (n : ByteArray) (ho : okF l n = true) : (restF l n).length + 1 = l.length := by
  have := okF_lt ho
  unfold restF
  simp; omega
end Dk
namespace Dk
open Go Go.Proofs Go.RowKit Go.Maps

/-- An operation, as the reference keeps it. -/
def Op3.r (o : Op3) : Op4 := ⟨o.k, o.f, if o.k = 2 then o.b else ⟨#[]⟩, if o.k = 1 then o.b else ⟨#[]⟩⟩
/-- Its name may be. -/
structure Op3.Good (o : Op3) : Prop where
  kind : o.k = 1 ∨ o.k = 2 ∨ o.k = 3
  one : o.k = 1 → nameB o.f = true
  two : o.k = 2 → nameB o.b = true
def Op4.done (o : Op4) (l : List Fl) : List Fl := doneF l o.k o.n o.t o.b
theorem Op4.done_length (o : Op4) (l : List Fl) (hl : l.length ≤ 100) : (o.done l).length ≤ 100 := doneF_length l _ _ _ _ hl
/-- What an operation is told, asked of the list. -/
def canR (o : Op3) (l : List Fl) : Int :=
  if o.k = 1 then (if nameB o.f = false then 1 else if okF l o.f = true then 0 else if 100 ≤ (l.length : Int) then 5 else 0)
  else if okF l o.f = false then 4 else if o.k = 2 then (if nameB o.b = false then 1 else 0) else 0
theorem can_dm (o : Op3) {l : List Fl} (h : Srt l) : canO o (dm l) = canR o l := by
  unfold canO canR
  rw [has_dm h, size_dm]
theorem does_dm (o : Op3) {l : List Fl} (h : Srt l) (hl : l.length ≤ 100) (ho : o.k = 1 ∨ o.k = 2 ∨ o.k = 3) (hc : canR o l = 0) : doesO o (dm l) = dm (o.r.done l) ∧ Srt (o.r.done l) := by
  obtain ⟨k, f, b⟩ := o
  simp only at ho
  unfold canR at hc
  simp only at hc
  unfold doesO Op4.done Op3.r doneF
  simp only
  rcases ho with rfl | rfl | rfl
  · rw [if_pos rfl] at hc
    rw [if_pos rfl, if_pos rfl, if_pos rfl]
    refine ⟨put_dm h f b ?_, srt_write h _ _⟩
    by_cases h1 : okF l f = true
    · exact .inl h1
    · right
      by_cases h2 : nameB f = false
      · rw [if_pos h2] at hc; cases hc
      · rw [if_neg h2, if_neg h1] at hc
        by_cases h3 : 100 ≤ (l.length : Int)
        · rw [if_pos h3] at hc; cases hc
        · omega
  · rw [if_neg (by decide)] at hc
    rw [if_neg (by decide), if_pos rfl, if_neg (by decide)]
    by_cases h1 : okF l f = false
    · rw [if_pos h1] at hc; cases hc
    · have h1' : okF l f = true := by simpa using h1
      rw [if_neg h1, if_pos rfl, if_pos rfl]
      rw [txt_dm h h1', del_dm h f h1']
      exact ⟨put_dm (srt_rest h f h1') b _ (.inr (by have := rest_len f h1'; omega)), srt_write (srt_rest h f h1') _ _⟩
  · rw [if_neg (by decide)] at hc
    rw [if_neg (by decide), if_neg (by decide), if_neg (by decide)]
    by_cases h1 : okF l f = false
    · rw [if_pos h1] at hc; cases hc
    · have h1' : okF l f = true := by simpa using h1
      rw [if_neg h1, if_neg (by decide)]
      exact ⟨del_dm h f h1', srt_rest h f h1'⟩
theorem skip_dm (o : Op3) {l : List Fl} (ho : o.Good) (hc : canR o l ≠ 0) : o.r.done l = l := by
  obtain ⟨hk, h1, h2⟩ := ho
  obtain ⟨k, f, b⟩ := o
  simp only at hk h1 h2
  unfold canR at hc
  simp only at hc
  unfold Op4.done Op3.r doneF
  simp only
  rcases hk with rfl | rfl | rfl
  · rw [if_pos rfl, h1 rfl, if_neg (by simp)] at hc
    rw [if_pos rfl]
    unfold writeF
    by_cases h3 : okF l f = true
    · rw [if_pos h3] at hc; exact absurd rfl hc
    · rw [if_neg h3] at hc
      rw [dif_neg h3, if_pos]
      by_cases h4 : 100 ≤ (l.length : Int)
      · omega
      · rw [if_neg h4] at hc; exact absurd rfl hc
  · rw [if_neg (by decide), if_pos rfl, h2 rfl] at hc
    rw [if_neg (by decide)]
    by_cases h3 : okF l f = false
    · rw [if_pos h3]
    · rw [if_neg h3] at hc; exact absurd rfl hc
  · rw [if_neg (by decide)] at hc
    rw [if_neg (by decide)]
    by_cases h3 : okF l f = false
    · rw [if_pos h3]
    · rw [if_neg h3, if_neg (by decide)] at hc; exact absurd rfl hc

/-- The reference's disk, told in plain words. -/
structure RS where
  sure : List Fl
  ops : List Op4
  L : List Fl
  n : Int
  fuse : Int
  down : Bool
structure Sim (s : St) (r : RS) : Prop where
  F : s.F = dm r.L
  S : s.S = dm r.sure
  ops : r.ops = s.ops.map Op3.r
  n : s.n = r.n
  fuse : s.fuse = r.fuse
  down : s.down = r.down
  srtL : Srt r.L
  srtS : Srt r.sure
  lenL : r.L.length ≤ 100
  lenS : r.sure.length ≤ 100
  good : ∀ o ∈ s.ops, o.Good
def burntI (f : Int) : Int := if 0 < f then f - 1 else f
def RS.op (r : RS) (o : Op3) : RS × Int :=
  if r.down = true then (r, 6) else if canR o r.L ≠ 0 then (r, canR o r.L) else if r.fuse = 0 then ({ r with down := true }, 6)
  else ({ r with L := o.r.done r.L, ops := r.ops ++ [o.r], n := r.n + 1, fuse := burntI r.fuse }, 0)
def RS.sync (r : RS) : RS × Int :=
  if r.down = true then (r, 6) else if r.fuse = 0 then ({ r with down := true }, 6)
  else ({ r with sure := r.L, ops := [], n := r.n + 1, fuse := burntI r.fuse }, 0)
theorem canR_good {o : Op3} {l : List Fl} (hk : o.k = 1 ∨ o.k = 2 ∨ o.k = 3) (h : canR o l = 0) : o.Good := by
  refine ⟨hk, fun h1 => ?_, fun h2 => ?_⟩
  · unfold canR at h
    rw [if_pos h1] at h
    by_cases h3 : nameB o.f = false
    · rw [if_pos h3] at h; cases h
    · simpa using h3
  · unfold canR at h
    rw [if_neg (by omega)] at h
    by_cases h4 : okF l o.f = false
    · rw [if_pos h4] at h; cases h
    · rw [if_neg h4, if_pos h2] at h
      by_cases h3 : nameB o.b = false
      · rw [if_pos h3] at h; cases h
      · simpa using h3
theorem sim_op {s : St} {r : RS} (h : Sim s r) (o : Op3) (hk : o.k = 1 ∨ o.k = 2 ∨ o.k = 3) : (s.op o).2 = (r.op o).2 ∧ Sim (s.op o).1 (r.op o).1 := by
  have hc : canO o s.F = canR o r.L := by rw [h.F]; exact can_dm o h.srtL
  unfold St.op RS.op
  rw [hc, h.down, h.fuse]
  by_cases h1 : r.down = true
  · rw [if_pos h1, if_pos h1]; exact ⟨rfl, h⟩
  · rw [if_neg h1, if_neg h1]
    by_cases h2 : canR o r.L ≠ 0
    · rw [if_pos h2, if_pos h2]; exact ⟨rfl, h⟩
    · rw [if_neg h2, if_neg h2]
      by_cases h3 : r.fuse = 0
      · rw [if_pos h3, if_pos h3]
        exact ⟨rfl, h.F, h.S, h.ops, h.n, rfl, rfl, h.srtL, h.srtS, h.lenL, h.lenS, h.good⟩
      · rw [if_neg h3, if_neg h3]
        have h2' : canR o r.L = 0 := by omega
        obtain ⟨d1, d2⟩ := does_dm o h.srtL h.lenL hk h2'
        refine ⟨rfl, ?_, h.S, ?_, ?_, ?_, rfl, d2, h.srtS, Op4.done_length _ _ h.lenL, h.lenS, ?_⟩
        · show doesO o s.F = _
          rw [h.F]; exact d1
        · show r.ops ++ [o.r] = (s.ops ++ [o]).map Op3.r
          rw [h.ops, List.map_append]; rfl
        · show s.n + 1 = r.n + 1
          rw [h.n]
        · show (if 0 < r.fuse then r.fuse - 1 else r.fuse) = burntI r.fuse
          rfl
        · intro p hp
          rcases List.mem_append.1 hp with hp | hp
          · exact h.good p hp
          · obtain rfl := List.mem_singleton.1 hp
            exact canR_good hk h2'
theorem sim_sync {s : St} {r : RS} (h : Sim s r) : s.sync.2 = r.sync.2 ∧ Sim s.sync.1 r.sync.1 := by
  unfold St.sync RS.sync
  rw [h.down, h.fuse]
  by_cases h1 : r.down = true
  · rw [if_pos h1, if_pos h1]; exact ⟨rfl, h⟩
  · rw [if_neg h1, if_neg h1]
    by_cases h3 : r.fuse = 0
    · rw [if_pos h3, if_pos h3]
      exact ⟨rfl, h.F, h.S, h.ops, h.n, rfl, rfl, h.srtL, h.srtS, h.lenL, h.lenS, h.good⟩
    · rw [if_neg h3, if_neg h3]
      refine ⟨rfl, h.F, h.F, rfl, ?_, rfl, rfl, h.srtL, h.srtL, h.lenL, h.lenL, by simp⟩
      show s.n + 1 = r.n + 1
      rw [h.n]
def RS.setFuse (r : RS) (x : Int) : RS := if r.down = true then r else { r with fuse := max x (-1) }
theorem sim_fuse {s : St} {r : RS} (h : Sim s r) (x : Int) : Sim (if s.down = true then s else { s with fuse := max x (-1) }) (r.setFuse x) := by
  unfold RS.setFuse
  rw [h.down]
  by_cases h1 : r.down = true
  · rw [if_pos h1, if_pos h1]; exact h
  · rw [if_neg h1, if_neg h1]
    exact ⟨h.F, h.S, h.ops, h.n, rfl, rfl, h.srtL, h.srtS, h.lenL, h.lenS, h.good⟩
/-- A crash. -/
def goR (keep : Int) (i : Nat) : Bool := decide (i < 64) && bitB keep i
def crashR (keep : Int) : Nat → List Op4 → List Fl → List Fl
  | _, [], l => l
  | i, o :: q, l => crashR keep (i + 1) q (bif goR keep i then o.done l else l)
theorem crashR_snoc (keep : Int) (o : Op4) : ∀ (q : List Op4) (i : Nat) (l : List Fl), crashR keep i (q ++ [o]) l = (bif goR keep (i + q.length) then o.done (crashR keep i q l) else crashR keep i q l)
  | [], i, l => rfl
  | a :: q, i, l => by
    have := crashR_snoc keep o q (i + 1) (bif goR keep i then a.done l else l)
    have e : i + 1 + q.length = i + (q.length + 1) := by omega
    rw [e] at this
    exact this
theorem crashR_take (keep : Int) (q : List Op4) (l : List Fl) (k : Nat) (hk : k < q.length) : crashR keep 0 (q.take (k + 1)) l = (bif goR keep k then q[k].done (crashR keep 0 (q.take k) l) else crashR keep 0 (q.take k) l) := by
  rw [List.take_succ_eq_append_getElem hk, crashR_snoc]
  have : (q.take k).length = k := by rw [List.length_take]; omega
  rw [this, Nat.zero_add]
theorem crashR_stop (keep : Int) (l : List Fl) : ∀ (q : List Op4) (i : Nat), 64 ≤ i → crashR keep i q l = l
  | [], _, _ => rfl
  | o :: q, i, h => by
    have e : goR keep i = false := by unfold goR; simp; omega
    unfold crashR
    rw [e]
    exact crashR_stop keep l q (i + 1) (by omega)
theorem crashR_append (keep : Int) : ∀ (p q : List Op4) (i : Nat) (l : List Fl), crashR keep i (p ++ q) l = crashR keep (i + p.length) q (crashR keep i p l)
  | [], q, i, l => rfl
  | o :: p, q, i, l => by
    show crashR keep (i + 1) (p ++ q) _ = _
    rw [crashR_append keep p q (i + 1), show i + 1 + p.length = i + (o :: p).length by simp; omega]
    rfl
theorem crashR_64 (keep : Int) (q : List Op4) (l : List Fl) (k : Nat) (hk : k ≤ q.length) (h : k = q.length ∨ 64 ≤ k) : crashR keep 0 (q.take k) l = crashR keep 0 q l := by
  rcases h with rfl | h
  · rw [List.take_length]
  · have e := crashR_append keep (q.take k) (q.drop k) 0 l
    have e2 := crashR_stop keep (crashR keep 0 (q.take k) l) (q.drop k) (0 + (q.take k).length) (by rw [List.length_take]; omega)
    rw [List.take_append_drop, e2] at e
    exact e.symm
theorem crash_dm (keep : Int) : ∀ (ops : List Op3) (i : Nat) (l : List Fl), Srt l → l.length ≤ 100 → (∀ o ∈ ops, o.Good) →
    crashF keep i ops (dm l) = dm (crashR keep i (ops.map Op3.r) l) ∧ Srt (crashR keep i (ops.map Op3.r) l) ∧ (crashR keep i (ops.map Op3.r) l).length ≤ 100
  | [], i, l, h, hl, _ => ⟨rfl, h, hl⟩
  | o :: ops, i, l, h, hl, hg => by
    have ho := hg o (by simp)
    have key : (bif goB keep i o (dm l) then doesO o (dm l) else dm l) = dm (bif goR keep i then o.r.done l else l) ∧ Srt (bif goR keep i then o.r.done l else l) ∧ (bif goR keep i then o.r.done l else l).length ≤ 100 := by
      have e : goB keep i o (dm l) = (goR keep i && decide (canR o l = 0)) := by unfold goB goR; rw [can_dm o h, Bool.and_assoc]
      rw [e]
      by_cases hc : canR o l = 0
      · obtain ⟨d1, d2⟩ := does_dm o h hl ho.kind hc
        rw [decide_eq_true hc, Bool.and_true]
        cases goR keep i
        · exact ⟨rfl, h, hl⟩
        · exact ⟨d1, d2, Op4.done_length _ _ hl⟩
      · rw [decide_eq_false hc, Bool.and_false]
        have hs := skip_dm o ho hc
        cases goR keep i
        · exact ⟨rfl, h, hl⟩
        · refine ⟨?_, ?_, ?_⟩
          · show dm l = dm (o.r.done l); rw [hs]
          · show Srt (o.r.done l); rw [hs]; exact h
          · show (o.r.done l).length ≤ 100; rw [hs]; exact hl
    show crashF keep (i + 1) ops (bif goB keep i o (dm l) then doesO o (dm l) else dm l) = dm (crashR keep (i + 1) (ops.map Op3.r) (bif goR keep i then o.r.done l else l)) ∧ _
    rw [key.1]
    exact crash_dm keep ops (i + 1) _ key.2.1 key.2.2 (fun p hp => hg p (by simp [hp]))
def RS.crash (r : RS) (keep : Int) : RS := ⟨crashR keep 0 r.ops r.sure, [], crashR keep 0 r.ops r.sure, r.n, -1, false⟩
theorem sim_crash {s : St} {r : RS} (h : Sim s r) (keep : Int) : Sim ⟨crashF keep 0 s.ops s.S, crashF keep 0 s.ops s.S, [], s.n, -1, false⟩ (r.crash keep) := by
  obtain ⟨k1, k2, k3⟩ := crash_dm keep s.ops 0 r.sure h.srtS h.lenS h.good
  rw [← h.ops] at k1 k2 k3
  rw [h.S, k1]
  exact ⟨rfl, rfl, rfl, h.n, rfl, rfl, k2, k2, k3, k3, by simp⟩
theorem sim_read {s : St} {r : RS} (h : Sim s r) (f : ByteArray) : s.read f = (sd (rreadF r.down r.L f).1, (rreadF r.down r.L f).2) := by
  unfold St.read rreadF
  rw [h.down, h.F, has_dm h.srtL]
  by_cases h1 : r.down = true
  · rw [if_pos h1, if_pos h1]; rfl
  · rw [if_neg h1, if_neg h1]
    by_cases h2 : okF r.L f = true
    · rw [if_pos h2, if_pos h2, txt_dm h.srtL h2]
    · rw [if_neg h2, if_neg h2]; rfl
theorem sim_new : Sim ⟨.map [], .map [], [], 0, -1, false⟩ ⟨[], [], [], 0, -1, false⟩ :=
  ⟨rfl, rfl, rfl, rfl, rfl, rfl, .nil, .nil, by simp, by simp, by simp⟩
end Dk
