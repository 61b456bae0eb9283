/- The evaluator in a form that is run quickly; keys of maps; on no condition. -/
import Derived.Test.YtdimdhloklnkmaaGreatDoorAxD
import Derived.Test.YtdimdhloklnkmaaGreatDoorAxC
set_option linter.unusedVariables false
set_option linter.unusedSimpArgs false
set_option linter.unusedSectionVars false
namespace Ax
open Go Go.Maps
variable [Sy]

/-! ## Lists of numbers in order -/

noncomputable def ltL : List Nat → List Nat → Bool
  | _, [] => false
  | [], _ :: _ => true
  | a :: x, b :: y => bif Nat.blt a b then true else bif Nat.beq a b then ltL x y else false
theorem ltL_lt : ∀ (a b : List Nat), ltL a b = true ↔ a < b
  | [], [] => by simp [ltL]
  | _ :: _, [] => by simp [ltL]
  | [], _ :: _ => by simp [ltL]
  | a :: x, b :: y => by
    have ih := ltL_lt x y
    rw [List.cons_lt_cons_iff]
    simp only [ltL, Bool.cond_eq_ite]
    by_cases h1 : a < b
    · have : Nat.blt a b = true := (blt_iff _ _).2 h1
      simp [this, h1]
    · have : Nat.blt a b = false := by rw [Bool.eq_false_iff]; exact fun h => h1 ((blt_iff _ _).1 h)
      rw [this]
      by_cases h2 : a = b
      · subst h2; simp [ih]
      · have : Nat.beq a b = false := by rw [Bool.eq_false_iff]; exact fun h => h2 (Nat.eq_of_beq_eq_true h)
        simp [this, h1, h2]
theorem ltL_false (a b : List Nat) : ltL a b = false ↔ b ≤ a := by
  rw [Bool.eq_false_iff, ne_eq, ltL_lt, List.not_lt]
noncomputable def insL (x : List Nat) : List (List Nat) → List (List Nat)
  | [] => [x]
  | y :: l => bif ltL y x then y :: insL x l else x :: y :: l
noncomputable def sortL : List (List Nat) → List (List Nat)
  | [] => []
  | x :: l => insL x (sortL l)
noncomputable def geH (x : List Nat) : List (List Nat) → Bool
  | [] => true
  | y :: _ => bif ltL y x then false else true
noncomputable def gtH (x : List Nat) : List (List Nat) → Bool
  | [] => true
  | y :: _ => ltL x y
/-- Not falling. -/
noncomputable def ordL : List (List Nat) → Bool
  | [] => true
  | x :: l => bif geH x l then ordL l else false
/-- Rising. -/
noncomputable def upL : List (List Nat) → Bool
  | [] => true
  | x :: l => bif gtH x l then upL l else false
theorem insL_perm (x : List Nat) : ∀ l, (insL x l).Perm (x :: l)
  | [] => List.Perm.refl _
  | y :: l => by
    simp only [insL, Bool.cond_eq_ite]
    split
    · exact ((insL_perm x l).cons y).trans (List.Perm.swap x y l)
    · exact List.Perm.refl _
theorem sortL_perm : ∀ l, (sortL l).Perm l
  | [] => List.Perm.refl _
  | x :: l => (insL_perm x _).trans ((sortL_perm l).cons x)
theorem ordL_ok : ∀ {l : List (List Nat)}, ordL l = true → l.Pairwise fun a b => ltL b a = false
  | [], _ => List.Pairwise.nil
  | x :: l, h => by
    simp only [ordL, Bool.cond_eq_ite] at h
    split at h
    · rename_i hx
      have ih := ordL_ok h
      refine List.pairwise_cons.2 ⟨fun y hy => ?_, ih⟩
      cases l with
      | nil => cases hy
      | cons z l =>
        have hz : ltL z x = false := by
          cases hzx : ltL z x with
          | false => rfl
          | true => simp [geH, hzx] at hx
        rcases List.mem_cons.1 hy with rfl | hy
        · exact hz
        · have h2 := (List.pairwise_cons.1 ih).1 y hy
          rw [ltL_false] at hz h2 ⊢
          exact List.le_trans hz h2
    · cases h
theorem upL_ok : ∀ {l : List (List Nat)}, upL l = true → l.Pairwise (· < ·)
  | [], _ => List.Pairwise.nil
  | x :: l, h => by
    simp only [upL, Bool.cond_eq_ite] at h
    split at h
    · rename_i hx
      have ih := upL_ok h
      refine List.pairwise_cons.2 ⟨fun y hy => ?_, ih⟩
      cases l with
      | nil => cases hy
      | cons z l =>
        have hz : x < z := (ltL_lt x z).1 hx
        rcases List.mem_cons.1 hy with rfl | hy
        · exact hz
        · exact List.lt_trans hz ((List.pairwise_cons.1 ih).1 y hy)
    · cases h
theorem up_nodup {l : List (List Nat)} (h : l.Pairwise (· < ·)) : l.Nodup := h.imp fun hab e => by subst e; exact List.lt_irrefl _ hab
/-- Of a set in order there is one list. -/
theorem ord_uniq : ∀ {a b : List (List Nat)}, a.Perm b → a.Pairwise (fun a b => ltL b a = false) → b.Pairwise (fun a b => ltL b a = false) → a = b
  | [], b, hp, _, _ => (List.Perm.nil_eq hp)
  | x :: a, [], hp, _, _ => (List.Perm.eq_nil hp)
  | x :: a, y :: b, hp, ha, hb => by
    have hxy : x = y := by
      have h1 : x ∈ y :: b := hp.subset (List.mem_cons_self ..)
      have h2 : y ∈ x :: a := hp.symm.subset (List.mem_cons_self ..)
      rcases List.mem_cons.1 h1 with h1 | h1
      · exact h1
      rcases List.mem_cons.1 h2 with h2 | h2
      · exact h2.symm
      have k1 := (List.pairwise_cons.1 hb).1 x h1
      have k2 := (List.pairwise_cons.1 ha).1 y h2
      rw [ltL_false] at k1 k2
      exact List.le_antisymm k2 k1
    subst hxy
    rw [ord_uniq (List.Perm.cons_inv hp) (List.pairwise_cons.1 ha).2 (List.pairwise_cons.1 hb).2]

/-! ## Names -/

structure B32 where
  l : List Nat
  len : l.length = 32
  lt : ∀ n ∈ l, n < 256
instance : Inhabited B32 := ⟨⟨List.replicate 32 0, by simp, fun n h => by simp at h; omega⟩⟩
theorem B32.ext {x y : B32} (h : x.l = y.l) : x = y := by cases x; cases y; cases h; rfl
noncomputable def bV (n : Nat) : Value := Value.int .u8 (Int.ofNat n)
noncomputable def bA (n : Nat) : AV := AV.int .u8 (Int.ofNat n)
noncomputable def encB (x : B32) : List Value := x.l.map bV
theorem encB_len (x : B32) : (encB x).length = 32 := by simp [encB, x.len]
theorem gL_bA {φ : Mp} (ns : List Nat) : gL φ (ns.map bA) = some (ns.map bV) := gL_bytes ns
theorem gL_fl {φ : Mp} : ∀ (ks : List (List Nat)), gL φ (ks.map (·.map bA)).flatten = some (ks.map (·.map bV)).flatten
  | [] => rfl
  | k :: ks => by simp only [List.map_cons, List.flatten_cons]; exact gL_append (gL_bA k) (gL_fl ks)
theorem flat_len {β : Type} (f : Nat → β) : ∀ {ks : List (List Nat)}, (∀ k ∈ ks, k.length = 32) → (ks.map (·.map f)).flatten.length = ks.length * 32
  | [], _ => by simp
  | k :: ks, h => by
    simp only [List.map_cons, List.flatten_cons, List.length_append, List.length_map, List.length_cons, flat_len f fun x hx => h x (List.mem_cons_of_mem _ hx), h k (List.mem_cons_self ..)]
    omega

/-- One name. -/
noncomputable def name? (l : List AV) : Option (List Nat) := match byteL l with
  | some ns => bif Nat.beq ns.length 32 then some ns else none
  | none => none
theorem name_ok {l : List AV} {ns : List Nat} (h : name? l = some ns) : l = ns.map bA ∧ ns.length = 32 ∧ ∀ n ∈ ns, n < 256 := by
  unfold name? at h
  split at h
  · rename_i r hr
    rw [Bool.cond_eq_ite] at h
    split at h
    · rename_i h32
      simp only [Option.some.injEq] at h; subst h
      obtain ⟨h1, h2⟩ := byteL_ok hr
      exact ⟨h1, Nat.eq_of_beq_eq_true h32, h2⟩
    · cases h
  · cases h
noncomputable def names? : List (List AV) → Option (List (List Nat))
  | [] => some []
  | l :: r => match name? l with
    | some ns => (match names? r with | some q => some (ns :: q) | none => none)
    | none => none
theorem names_ok : ∀ {l : List (List AV)} {ks : List (List Nat)}, names? l = some ks → l = ks.map (·.map bA) ∧ ∀ k ∈ ks, k.length = 32 ∧ ∀ n ∈ k, n < 256
  | [], ks, h => by simp only [names?, Option.some.injEq] at h; subst h; exact ⟨rfl, fun _ h => by cases h⟩
  | x :: l, ks, h => by
    unfold names? at h
    split at h
    · rename_i ns hns
      split at h
      · rename_i q hq
        simp only [Option.some.injEq] at h; subst h
        obtain ⟨a1, a2⟩ := name_ok hns
        obtain ⟨b1, b2⟩ := names_ok hq
        refine ⟨by rw [a1, b1]; rfl, fun k hk => ?_⟩
        rcases List.mem_cons.1 hk with rfl | hk
        · exact a2
        · exact b2 k hk
      · cases h
    · cases h
/-- Rows of 32. -/
noncomputable def chunk : Nat → List AV → List (List AV)
  | 0, _ => []
  | n + 1, l => l.take 32 :: chunk n (l.drop 32)
theorem chunk_flat : ∀ {n : Nat} {l : List AV}, l.length = n * 32 → (chunk n l).flatten = l
  | 0, l, h => by
    have : l = [] := List.length_eq_zero_iff.1 (by omega)
    subst this; rfl
  | n + 1, l, h => by
    simp only [chunk, List.flatten_cons]
    rw [chunk_flat (by rw [List.length_drop]; omega), List.take_append_drop]
theorem chunk_len : ∀ (n : Nat) (l : List AV), (chunk n l).length = n
  | 0, _ => rfl
  | n + 1, l => by simp [chunk, chunk_len n]
/-- Names are names. -/
theorem exB : ∀ {ks : List (List Nat)}, (∀ k ∈ ks, k.length = 32 ∧ ∀ n ∈ k, n < 256) → ∃ xs : List B32, xs.map (·.l) = ks
  | [], _ => ⟨[], rfl⟩
  | k :: ks, h => by
    obtain ⟨xs, hxs⟩ := exB (ks := ks) fun x hx => h x (List.mem_cons_of_mem _ hx)
    obtain ⟨h1, h2⟩ := h k (List.mem_cons_self ..)
    exact ⟨⟨k, h1, h2⟩ :: xs, by simp [hxs]⟩
theorem flat_enc (xs : List B32) : (xs.map encB).flatten = ((xs.map (·.l)).map (·.map bV)).flatten := by
  rw [List.map_map]; rfl

section
variable {P : Program} {ng : Nat} {gl : T (List AV)} {φ : Mp} {h : Hp} {w w' : World} {f : FuncId}

/-! ## A row that is turned in place, while the heap grows -/

theorem set_grow {id : Nat} {o0 ob : AO} {L : Lc} (hR : Rel ng (glF gl) φ h w) (hid : h.get id = some o0) (hL : φ id = some L) (os : w'.os = w.os) (tape : w'.tape = w.tape) (output : w'.output = w.output) (hsz : w.heap.size ≤ w'.heap.size)
    (hold : ∀ b, b < w.heap.size → b ≠ L.blk → w'.heap[b]? = w.heap[b]?)
    (hat : ∀ w1 : World, w1.heap[L.blk]? = w'.heap[L.blk]? → At φ L ob w1)
    (hcells : ∀ c el fz, w.heap[L.blk]? = some (.cells c el fz) → ∃ c' fz', w'.heap[L.blk]? = some (.cells c' el fz') ∧ c'.size = c.size ∧ ∀ o, ¬ (L.base ≤ o ∧ o < L.base + L.tot) → c'[o]? = c[o]?) :
    Rel ng (glF gl) φ (h.set id ob) w' ∧ Stp φ h w φ (h.set id ob) w' := by
  obtain ⟨L', hL', _, hat0⟩ := hR.at_ id o0 hid
  rw [hL] at hL'; simp only [Option.some.injEq] at hL'; subst hL'
  have hlt := hat0.lt
  obtain ⟨w1, hw1⟩ : ∃ w1 : World, w1 = { w' with heap := w'.heap.extract 0 w.heap.size } := ⟨_, rfl⟩
  have hs1 : w1.heap.size = w.heap.size := by rw [hw1]; simp; omega
  have hg1 : ∀ b, b < w.heap.size → w1.heap[b]? = w'.heap[b]? := fun b hb => by
    rw [hw1]
    simp only [Array.getElem?_extract]
    rw [if_pos (by omega)]
    congr 1; omega
  obtain ⟨a, b⟩ := set_step (w' := w1) (ob := ob) hR hid hL (hat w1 (hg1 _ hlt)) (by rw [hw1]; exact os) (by rw [hw1]; exact tape) (by rw [hw1]; exact output) hs1
    (fun b hb => by
      by_cases hb2 : b < w.heap.size
      · rw [hg1 b hb2]; exact hold b hb2 hb
      · rw [Array.getElem?_eq_none (by omega), Array.getElem?_eq_none (by omega)])
    (fun c el fz hc => by rw [hg1 _ hlt]; exact hcells c el fz hc)
  obtain ⟨a2, b2⟩ := a.below (w' := w') ⟨by rw [hw1], by rw [hw1], by rw [hw1], by rw [hs1]; exact hsz, fun k hk => (hg1 k (by rw [← hs1]; exact hk)).symm⟩
  exact ⟨a2, b.trans b2⟩

/-- What a contract on slices.SortFunc at names says. -/
noncomputable def SortLaw (P : Program) (f c : Nat) : Prop :=
  ∀ (blk off cap : Nat) (xs : List B32) (w : World) (cs : Array Value) (el : TypeId) (lo hi : Nat), w.heap[blk]? = some (.cells cs el (lo, hi)) → (lo = hi ∨ cs.size ≤ lo) → off + xs.length * 32 ≤ cs.size →
    (∀ i, i < xs.length * 32 → cs[off + i]? = (xs.map encB).flatten[i]?) → xs.length < 4611686018427387904 →
    Calls P f #[.slice (some ⟨blk, off, none⟩) xs.length cap, .func (.func c) #[] #[]] w fun e w' => e = .returned (.tuple #[]) ∧ ∃ (ys : List B32) (cs' : Array Value), ys.Perm xs ∧ (ys.map (·.l)).Pairwise (fun a b => ltL b a = false) ∧
      w'.os = w.os ∧ w'.tape = w.tape ∧ w'.output = w.output ∧ w.heap.size ≤ w'.heap.size ∧ (∀ b, b < w.heap.size → b ≠ blk → w'.heap[b]? = w.heap[b]?) ∧
      w'.heap[blk]? = some (.cells cs' el (lo, hi)) ∧ cs'.size = cs.size ∧ (∀ i, i < xs.length * 32 → cs'[off + i]? = (ys.map encB).flatten[i]?) ∧ ∀ o, ¬ (off ≤ o ∧ o < off + xs.length * 32) → cs'[o]? = cs[o]?

theorem lay_len {cs x : List AV} {off : Nat} (h : off + x.length ≤ cs.length) : (lay cs off x).length = cs.length := by
  simp only [lay, List.length_append, List.length_take, List.length_drop]; omega

theorem sort_core {c : Nat} (law : SortLaw P f c) (hR : Rel ng (glF gl) φ h w) {id off n : Nat} {cp : Cp} {o0 : AO} {el : TypeId} {cs d : Cl} {tail : Option Nat} {L : Lc} {ks q : List (List Nat)} (hd : d.list = lay cs.list off (q.map (·.map bA)).flatten) (hid : h.get id = some o0) (hL : φ id = some L)
    (hat : At φ L (.row el cs tail) w) (hle : off + n * 32 ≤ cs.list.length) (hks : (cs.list.drop off).take (n * 32) = (ks.map (·.map bA)).flatten) (hkl : ks.length = n) (hkb : ∀ k ∈ ks, k.length = 32 ∧ ∀ n ∈ k, n < 256) (hq : q.Perm ks) (hord : ordL q = true) (hn : n < 4611686018427387904)
    {A : List Value} (hA : gL φ [.slc (some (.own id, off)) n cp, .fn (.func c) [] []] = some A) :
    Calls P f A.toArray w (CPost ng gl φ h w (.ret (.tup []) (h.set id (.row el d tail)))) := by
  obtain ⟨X, Y, rfl, hX, hY⟩ := gL2 hA
  obtain ⟨Ad0, cc, hA', rfl, _⟩ := g_slc hX
  have hAe : Ad0 = ⟨L.blk, L.base + off, none⟩ := by simpa [gA, hL] using hA'.symm
  subst hAe
  simp only [g, gL, Option.bind_some, Option.map_some, Option.some.injEq] at hY; subst hY
  obtain ⟨xs, hxs⟩ := exB hkb
  have hxl : xs.length = n := by rw [← hkl, ← hxs]; simp
  obtain ⟨c0, lo, hi, vs, hh, hvs, hbt, hvl, htl, hesz, hget, hfz⟩ := hat
  have hvlen := gL_length hvs
  have hflat : (vs.drop off).take (n * 32) = (xs.map encB).flatten := by
    have h1 := gL_take (n * 32) (gL_drop off hvs)
    rw [hks, gL_fl] at h1
    rw [flat_enc, hxs]
    simpa using h1.symm
  have hfl : (xs.map encB).flatten.length = n * 32 := by rw [← hflat, List.length_take, List.length_drop]; omega
  have hcell : ∀ i, i < n * 32 → c0[L.base + off + i]? = (xs.map encB).flatten[i]? := fun i hi => by
    rw [← hflat, List.getElem?_take, if_pos hi, List.getElem?_drop, ← hget (off + i) (by omega)]
    congr 1; omega
  have := law L.blk (L.base + off) cc xs w c0 el lo hi hh hfz (by rw [hxl]; omega) (by rw [hxl]; exact hcell) (by omega)
  rw [hxl] at this
  refine this.mono ?_
  rintro e w' ⟨rfl, ys, cs', hyp, hyo, e1, e2, e3, e4, e5, e6, e7, e8, e9⟩
  have hyq : ys.map (·.l) = q := ord_uniq ((hyp.map _).trans ((List.Perm.of_eq hxs).trans hq.symm)) hyo (ordL_ok hord)
  have hyf : (ys.map encB).flatten = (q.map (·.map bV)).flatten := by rw [flat_enc, hyq]
  have hql : q.length = n := by rw [hq.length_eq, hkl]
  have hqb : ∀ k ∈ q, k.length = 32 := fun k hk => (hkb k (hq.subset hk)).1
  have hqA : (q.map (·.map bA)).flatten.length = n * 32 := by rw [flat_len bA hqb, hql]
  have hqV : (q.map (·.map bV)).flatten.length = n * 32 := by rw [flat_len bV hqb, hql]
  have hlay : gL φ d.list = some (vs.take off ++ ((q.map (·.map bV)).flatten ++ vs.drop (off + n * 32))) := by
    rw [hd]
    unfold lay
    rw [hqA]
    exact gL_append (gL_take off hvs) (gL_append (gL_fl q) (gL_drop _ hvs))
  have hlen2 : (vs.take off ++ ((q.map (·.map bV)).flatten ++ vs.drop (off + n * 32))).length = vs.length := by
    simp only [List.length_append, List.length_take, List.length_drop, hqV]; omega
  obtain ⟨hR', hS'⟩ := set_grow (ob := .row el d tail) hR hid hL e1 e2 e3 e4 e5 (fun w1 hw1 => by
      refine ⟨cs', lo, hi, _, hw1.trans e6, hlay, by omega, by omega, fun ht => by rw [hlen2]; exact htl ht, hesz.to e7 hlen2, fun i hi' => ?_, by rw [e7]; exact hfz⟩
      rw [hlen2] at hi'
      rw [List.getElem?_append, List.length_take, List.getElem?_append, hqV]
      by_cases h1 : i < off
      · rw [if_pos (by omega), e9 _ (by omega), hget i hi', List.getElem?_take, if_pos h1]
      · rw [if_neg (by omega)]
        have hmin : min off vs.length = off := by omega
        rw [hmin]
        by_cases h2 : i - off < n * 32
        · rw [if_pos h2, ← hyf, ← e8 _ h2]; congr 1; omega
        · rw [if_neg h2, e9 _ (by omega), hget i hi', List.getElem?_drop]; congr 1; omega)
    (fun c1 el1 fz1 hc1 => by
      rw [hh] at hc1
      simp only [Option.some.injEq, Obj.cells.injEq] at hc1
      obtain ⟨rfl, rfl, rfl⟩ := hc1
      exact ⟨cs', (lo, hi), e6, e7, fun o ho => e9 o fun hc => ho ⟨by omega, by omega⟩⟩)
  exact ⟨φ, rfl, hR', hS'⟩

/-- slices.SortFunc at names. -/
noncomputable def oSortF (el c : Nat) : Oc
  | [.slc (some (.own id, off)) n _, .fn (.func g) [] []], h => bif Nat.beq g c && Nat.ble n 1000000 then (match h.get id with
    | some (.row el' cs tail) => bif Nat.beq el' el && Nat.ble (off + n * 32) cs.len then (match names? (chunk n ((cs.drop off).take (n * 32)).list) with
      | some ks => (match sortL ks with
        | q => bif ordL q then some (.ret (.tup []) (h.set id (.row el' (cs.lay off (.gen (q.map (·.map bA)).flatten)) tail))) else none)
      | none => none) else none
    | some (.perm el' sz es) => bif Nat.beq el' el && Nat.beq sz 32 && Nat.beq off 0 && Nat.beq n es.length then (match names? es with
      | some ks => (match sortL ks with
        | q => bif ordL q then some (.ret (.tup []) (h.set id (.row el' ((Cl.gen []).app (.gen (q.map (·.map bA)).flatten)) (some sz)))) else none)
      | none => none) else none
    | _ => none) else none
  | _, _ => none
theorem perm_of_map {α β : Type} {f : α → β} : ∀ {l : List α} {m : List β}, m.Perm (l.map f) → ∃ l' : List α, l'.Perm l ∧ m = l'.map f := by
  intro l m hp
  generalize hx : l.map f = x at hp
  induction hp generalizing l with
  | nil => exact ⟨l, List.Perm.refl _, hx.symm⟩
  | @cons a m1 m2 _ ih =>
    cases l with
    | nil => cases hx
    | cons b l =>
      simp only [List.map_cons, List.cons.injEq] at hx
      obtain ⟨l', h1, h2⟩ := ih hx.2
      exact ⟨b :: l', h1.cons b, by rw [List.map_cons, hx.1, h2]⟩
  | swap a b m1 =>
    match l, hx with
    | x :: y :: l, hx =>
      simp only [List.map_cons, List.cons.injEq] at hx
      exact ⟨y :: x :: l, List.Perm.swap _ _ _, by simp [hx.1, hx.2.1, hx.2.2]⟩
  | trans _ _ ih1 ih2 =>
    obtain ⟨l1, h1, h2⟩ := ih2 hx
    obtain ⟨l2, h3, h4⟩ := ih1 h2.symm
    exact ⟨l2, h3.trans h1, h4⟩
theorem oSortF_ok {el c : Nat} (law : SortLaw P f c) : OOk P ng gl f (oSortF el c) := by
  intro as h r hr _ φ w A hA hR
  unfold oSortF at hr
  split at hr
  case h_2 => cases hr
  rename_i id off n cp g0
  rw [Bool.cond_eq_ite] at hr
  split at hr
  case isFalse => cases hr
  rename_i hg0
  rw [Bool.and_eq_true, Nat.beq_eq, Nat.ble_eq] at hg0
  obtain ⟨rfl, hn⟩ := hg0
  split at hr
  · rename_i el' cs tail hg
    rw [Bool.cond_eq_ite] at hr
    split at hr
    case isFalse => cases hr
    rename_i hb
    rw [Bool.and_eq_true, Nat.beq_eq, Nat.ble_eq, Cl.len_eq] at hb
    obtain ⟨rfl, hle⟩ := hb
    split at hr
    case h_2 => cases hr
    rename_i ks hks
    generalize hq : sortL ks = q at hr
    simp only [Bool.cond_eq_ite] at hr
    split at hr
    case isFalse => cases hr
    rename_i hord
    have hr := Option.some.inj hr; subst hr
    rw [Cl.take_eq, Cl.drop_eq] at hks
    obtain ⟨a1, a2⟩ := names_ok hks
    have hl : ((cs.list.drop off).take (n * 32)).length = n * 32 := by rw [List.length_take, List.length_drop]; omega
    obtain ⟨L, hL, _, hat⟩ := hR.at_ id _ hg
    refine sort_core law hR (Cl.lay_eq _ _ _) hg hL hat hle ?_ ?_ a2 (hq ▸ sortL_perm ks) hord (by omega) hA
    · rw [← a1, chunk_flat hl]
    · have := congrArg List.length a1
      rw [chunk_len, List.length_map] at this; exact this.symm
  · rename_i el' sz es hg
    rw [Bool.cond_eq_ite] at hr
    split at hr
    case isFalse => cases hr
    rename_i hb
    simp only [Bool.and_eq_true, Nat.beq_eq] at hb
    obtain ⟨⟨⟨rfl, rfl⟩, rfl⟩, rfl⟩ := hb
    split at hr
    case h_2 => cases hr
    rename_i ks hks
    generalize hq : sortL ks = q at hr
    simp only [Bool.cond_eq_ite] at hr
    split at hr
    case isFalse => cases hr
    rename_i hord
    have hr := Option.some.inj hr; subst hr
    obtain ⟨a1, a2⟩ := names_ok hks
    obtain ⟨L, hL, _, hat⟩ := hR.at_ id _ hg
    obtain ⟨ps, hps, hrow⟩ := hat.perm_row
    rw [a1] at hps
    obtain ⟨ks', hk1, rfl⟩ := perm_of_map hps
    have hkb' : ∀ k ∈ ks', k.length = 32 ∧ ∀ n ∈ k, n < 256 := fun k hk => a2 k (hk1.subset hk)
    have hfl := flat_len bA fun k hk => (hkb' k hk).1
    have hel : es.length = ks'.length := by rw [a1, List.length_map, hk1.length_eq]
    have hqp : q.Perm ks' := (hq ▸ sortL_perm ks).trans hk1.symm
    have hqf := flat_len bA (ks := q) fun k hk => (hkb' k (hqp.subset hk)).1
    have hlay : lay (ks'.map (·.map bA)).flatten 0 (q.map (·.map bA)).flatten = (q.map (·.map bA)).flatten := by
      unfold lay
      rw [List.take_zero, List.nil_append, Nat.zero_add, hqf, hqp.length_eq, ← hfl, List.drop_length, List.append_nil]
    have := sort_core (cp := cp) law hR (d := (Cl.gen []).app (.gen (q.map (·.map bA)).flatten)) (by rw [Cl.app_eq]; exact hlay.symm) hg hL hrow (off := 0) (n := es.length) (ks := ks') (q := q) (by rw [Cl.list_gen, hfl]; omega) (by rw [Cl.list_gen, List.drop_zero, hel, ← hfl, List.take_length]) hel.symm hkb' hqp hord (by omega) hA
    exact this
  · cases hr

/-! ## New rows in an unknown order -/

theorem post_perm (hR : Rel ng (glF gl) φ h w) {w1 : World} (hb : RowKit.Below w.heap.size w w') {el : TypeId} {size n : Nat} (hs : 0 < size) {V : Value} {xs : List Value} {es ps : List (List AV)} (hps : ps.Perm es) (hn : 0 < n) (hw1 : w.heap.size ≤ w1.heap.size)
    (hown : w'.ownsRow w1.heap.size el size V n xs) (hcs : gL φ ps.flatten = some xs) {e : Ending} (he : e = .returned V) :
    CPost ng gl φ h w (.ret (.slc (some (.own h.nxt, 0)) n (.u size)) (h.new (.perm el size es))) e w' := by
  subst he
  obtain ⟨hlen, hown⟩ := hown
  rcases hown with ⟨_, h0⟩ | ⟨gb, cap, cur, rfl, hge, hh, hnc, _, hsz, htk⟩
  · omega
  have hsub : Sub φ (upd φ h.nxt ⟨gb, 0, cur.size, size, undef⟩) := upd_sub _ (hR.fresh _ (Nat.le_refl _))
  have hle : xs.length ≤ cur.size := by rw [← htk, List.length_take, Array.length_toList]; omega
  obtain ⟨h1, h2⟩ := fresh_step hR hb ⟨gb, 0, cur.size, size, undef⟩ (ob := .perm el size es) (by show w.heap.size ≤ gb; omega) (At.row_perm hps ⟨cur, 0, 0, xs, hh, gL_sub hsub (show gL φ (Cl.gen ps.flatten).list = some xs from hcs), by show 0 + cur.size ≤ cur.size; omega, hle, (fun hx => by cases hx), (fun m hm => by cases hm; exact .inl ⟨rfl, hs⟩), fun i hi => by
    show cur[0 + i]? = xs[i]?
    rw [← htk] at hi
    rw [← htk, List.getElem?_take, if_pos (by rw [List.length_take] at hi; omega), Nat.zero_add, Array.getElem?_toList], .inl rfl⟩)
  refine ⟨_, ?_, h1, h2⟩
  have hd : (cur.size - 0) / size = cap := by rw [hsz, Nat.sub_zero, Nat.mul_div_cancel _ hs]
  have hc : gCap (upd φ h.nxt ⟨gb, 0, cur.size, size, undef⟩) size n (.own h.nxt, 0) = some cap := by
    simp only [gCap, upd_self, Option.bind_some]
    rw [if_pos ⟨trivial, by show n ≤ (cur.size - 0) / size; omega, Nat.zero_le _⟩]
    exact congrArg some hd
  simp only [g, gA, upd_self, Option.map_some, Option.bind_some, hc, Nat.add_zero]

/-- What a contract on slices.Clone at names says. -/
noncomputable def CloneLaw (P : Program) (f k : Nat) : Prop :=
  ∀ (b off n c : Nat) (news : List Value) (w : World), news.length = n * 32 → n ≤ maxLen → n * 32 ≤ 140737488355328 → (∀ j u, news[j]? = some u → w.cell? ⟨b, off + j, none⟩ = some u) → (∀ u ∈ news, u.oneCell' = true) →
    Calls P f #[.slice (some ⟨b, off, none⟩) n c] w fun e w' => ∃ v', e = .returned v' ∧ w'.ownsRow w.heap.size k 32 v' n news ∧ v' ≠ .slice none 0 0 ∧ RowKit.Below w.heap.size w w'

/-- slices.Clone of names in an unknown order. -/
noncomputable def oCloneP (k : Nat) : Oc
  | [.slc (some (.own id, off)) n _], h => (match h.get id with
    | some (.perm el sz es) => bif Nat.beq el k && Nat.beq sz 32 && Nat.beq off 0 && Nat.beq n es.length && Nat.blt 0 n && Nat.ble n 1000000 then (match names? es with
      | some _ => some (.ret (.slc (some (.own h.nxt, 0)) n (.u 32)) (h.new (.perm k 32 es)))
      | none => none) else none
    | _ => none)
  | _, _ => none
theorem oCloneP_ok {k : Nat} (law : CloneLaw P f k) : OOk P ng gl f (oCloneP k) := by
  intro as h r hr _ φ w A hA hR
  unfold oCloneP at hr
  split at hr
  case h_2 => cases hr
  rename_i id off n cp
  split at hr
  case h_2 => cases hr
  rename_i el sz es hg
  rw [Bool.cond_eq_ite] at hr
  split at hr
  case isFalse => cases hr
  rename_i hb
  simp only [Bool.and_eq_true, Nat.beq_eq, Nat.ble_eq, blt_iff] at hb
  obtain ⟨⟨⟨⟨⟨rfl, rfl⟩, rfl⟩, rfl⟩, hn0⟩, hn1⟩ := hb
  split at hr
  case h_2 => cases hr
  rename_i ks hks
  simp only [Option.some.injEq] at hr; subst hr
  obtain ⟨a1, a2⟩ := names_ok hks
  obtain ⟨L, hL, _, hat⟩ := hR.at_ id _ hg
  obtain ⟨ps, hps, hrow⟩ := hat.perm_row
  have hps0 := hps
  rw [a1] at hps
  obtain ⟨ks', hk1, rfl⟩ := perm_of_map hps
  have hkb' : ∀ k ∈ ks', k.length = 32 ∧ ∀ n ∈ k, n < 256 := fun k hk => a2 k (hk1.subset hk)
  obtain ⟨X, rfl, hX⟩ := gL1 hA
  obtain ⟨Ad0, cc, hA', rfl, _⟩ := g_slc hX
  have hAe : Ad0 = ⟨L.blk, L.base + 0, none⟩ := by simpa [gA, hL] using hA'.symm
  subst hAe
  obtain ⟨c0, lo, hi, vs, hh, hvs, hbt, hvl, htl, hesz, hget, hfz⟩ := hrow
  rw [Cl.list_gen, gL_fl, Option.some.injEq] at hvs
  have hel : es.length = ks'.length := by rw [a1, List.length_map, hk1.length_eq]
  have hfl := flat_len bV fun k hk => (hkb' k hk).1
  have hml : (1000000 : Nat) ≤ maxLen := by decide
  refine (law L.blk (L.base + 0) es.length cc vs w (by rw [← hvs, hfl, hel]) (by omega) (by omega) (fun j u hj => ?_) (fun u hu => ?_)).mono ?_
  · have hlt : j < vs.length := (List.getElem?_eq_some_iff.1 hj).1
    simp only [World.cell?, hh, Option.isSome_none, Bool.false_eq_true, if_false, Nat.add_zero]
    rw [hget j hlt, hj]
  · rw [← hvs] at hu
    obtain ⟨l, hl, hu⟩ := List.mem_flatten.1 hu
    obtain ⟨k0, _, rfl⟩ := List.mem_map.1 hl
    obtain ⟨m, _, rfl⟩ := List.mem_map.1 hu
    rfl
  · rintro e w' ⟨v', rfl, hown, _, hb⟩
    exact post_perm hR hb (by decide) hps0 hn0 (Nat.le_refl _) hown (by rw [gL_fl, hvs]) rfl

/-! ## A map's keys, collected -/

noncomputable def keysId : List (AV × AV) → Option (List (List Nat))
  | [] => some []
  | (.agg l, _) :: r => match name? l with
    | some ns => (match keysId r with | some q => some (ns :: q) | none => none)
    | none => none
  | _ :: _ => none
theorem keysId_ok : ∀ {es : List (AV × AV)} {ks : List (List Nat)} {E : List (Value × Value)}, keysId es = some ks → gP φ es = some E → E.map (·.1) = ks.map idVal ∧ ∀ k ∈ ks, k.length = 32 ∧ ∀ n ∈ k, n < 256
  | [], ks, E, h, hE => by
    simp only [keysId, Option.some.injEq] at h; subst h
    simp only [gP, Option.some.injEq] at hE; subst hE
    exact ⟨rfl, fun _ h => by cases h⟩
  | (k, v) :: l, ks, E, h, hE => by
    simp only [gP, Option.bind_eq_some_iff, Option.map_eq_some_iff] at hE
    obtain ⟨x, hx, y, _, r, hr, rfl⟩ := hE
    unfold keysId at h
    split at h
    · rename_i heq; cases heq
    · rename_i s v' l' heq
      simp only [List.cons.injEq, Prod.mk.injEq] at heq
      obtain ⟨⟨rfl, rfl⟩, rfl⟩ := heq
      split at h
      · rename_i ns hns
        split at h
        · rename_i q hq
          simp only [Option.some.injEq] at h; subst h
          obtain ⟨a1, a2⟩ := name_ok hns
          obtain ⟨b1, b2⟩ := keysId_ok hq hr
          subst a1
          simp only [g, gL_bA, Option.map_some, Option.some.injEq] at hx; subst hx
          refine ⟨by rw [List.map_cons, b1]; rfl, fun k hk => ?_⟩
          rcases List.mem_cons.1 hk with rfl | hk
          · exact a2
          · exact b2 k hk
        · cases h
      · cases h
    · cases h

/-- slices.Collect(maps.Keys(m)), the keys names: in some order. -/
noncomputable def oCollN (k fi : Nat) : Oc
  | [.fn (.func f) [] [.ptr (some (.own bm, of))]], h => bif Nat.beq f fi then (match h.get bm with
    | some (.row _ cs _) => (match cs.nth of with
      | some (.map (some m)) => (match h.get m with
        | some (.mp es) => (match keysId es with
          | some ks => bif upL (sortL ks) && Nat.ble es.length 1000000 then (match es with
              | [] => some (.ret (.slc none 0 (.k 0)) h)
              | _ :: _ => some (.ret (.slc (some (.own h.nxt, 0)) ks.length (.u 32)) (h.new (.perm k 32 (ks.map (·.map bA)))))) else none
          | none => none)
        | _ => none)
      | _ => none)
    | _ => none) else none
  | _, _ => none

theorem perm_of_inj {α β : Type} {f : α → β} {l1 l2 : List α} (h : (l1.map f).Perm (l2.map f)) (inj : ∀ x ∈ l1, ∀ y ∈ l2, f x = f y → x = y) : l1.Perm l2 := by
  obtain ⟨l', h1, h2⟩ := perm_of_map h
  have : ∀ (a b : List α), a.map f = b.map f → (∀ x ∈ a, ∀ y ∈ b, f x = f y → x = y) → a = b := by
    intro a
    induction a with
    | nil => intro b hb _; cases b <;> simp at hb ⊢
    | cons x a ih =>
      intro b hb hi
      cases b with
      | nil => simp at hb
      | cons y b =>
        simp only [List.map_cons, List.cons.injEq] at hb
        rw [hi x (List.mem_cons_self ..) y (List.mem_cons_self ..) hb.1, ih b hb.2 fun u hu v hv => hi u (List.mem_cons_of_mem _ hu) v (List.mem_cons_of_mem _ hv)]
  rw [this l1 l' h2 fun x hx y hy => inj x hx y (h1.subset hy)]
  exact h1

theorem oCollN_ok {k fi : Nat} (hkey : ∀ ns : List Nat, ns.length = 32 → (∀ n ∈ ns, n < 256) → ∃ s, keyOf P k (idVal ns) = some (.string s))
    (hinj : ∀ {a b : Value} {l : Lit}, keyOf P k a = some l → keyOf P k b = some l → a = b) (law : CollLaw P f fi k) : OOk P ng gl f (oCollN k fi) := by
  intro as h r hr _ φ w A hA hR
  unfold oCollN at hr
  split at hr
  case h_2 => cases hr
  rename_i f0 bm of
  rw [Bool.cond_eq_ite] at hr
  split at hr
  case isFalse => cases hr
  rename_i hf0
  have hf0 := Nat.eq_of_beq_eq_true hf0
  subst hf0
  split at hr
  case h_2 => cases hr
  rename_i el cs tl hgb
  split at hr
  case h_2 => cases hr
  rename_i m hcs
  split at hr
  case h_2 => cases hr
  rename_i es hgm
  split at hr
  case h_2 => cases hr
  rename_i ks hks
  rw [Bool.cond_eq_ite] at hr
  split at hr
  case isFalse => cases hr
  rename_i hb
  rw [Bool.and_eq_true, Nat.ble_eq] at hb
  obtain ⟨hup, hle⟩ := hb
  obtain ⟨X, rfl, hX⟩ := gL1 hA
  obtain ⟨xs0, ys0, hx0, hy0, rfl⟩ := g_fn hX
  simp only [gL, Option.some.injEq] at hx0; subst hx0
  obtain ⟨Y0, rfl, hY0⟩ := gL1 hy0
  simp only [g, gA, Option.map_eq_some_iff] at hY0
  obtain ⟨_, ⟨L, hL, rfl⟩, rfl⟩ := hY0
  obtain ⟨L', hL', _, hat⟩ := hR.at_ bm _ hgb
  rw [hL] at hL'; simp only [Option.some.injEq] at hL'; subst hL'
  obtain ⟨V, hV, hcell⟩ := row_cell hat hcs
  simp only [g, Option.map_eq_some_iff] at hV
  obtain ⟨M, hM, rfl⟩ := hV
  obtain ⟨M', hM', _, hatm⟩ := hR.at_ m _ hgm
  rw [hM] at hM'; simp only [Option.some.injEq] at hM'; subst hM'
  have hml : (1000000 : Nat) ≤ maxLen := by decide
  obtain ⟨E, hE⟩ : ∃ E, gP φ es = some E := by
    obtain ⟨ents, clock, _, hg, _⟩ := hatm
    exact ⟨_, hg⟩
  obtain ⟨k1, k2⟩ := keysId_ok hks hE
  have hnd : ks.Nodup := (sortL_perm ks).nodup_iff.1 (up_nodup (upL_ok hup))
  have hvinj : ∀ a b : List Nat, idVal a = idVal b → a = b := fun a b e => by
    simp only [idVal, Value.agg.injEq] at e
    have := congrArg Array.toList e
    simp only [List.toList_toArray] at this
    exact List.map_inj_right (fun x y hxy => by simp only [Value.int.injEq, true_and] at hxy; exact Int.ofNat.inj hxy) |>.1 this
  have hnd2 : (ks.map idVal).Nodup := List.Pairwise.map _ (R := (· ≠ ·)) (fun a b hab e => hab (hvinj a b e)) hnd
  obtain ⟨D0, hown, hsz, hkeys⟩ := map_owns (P := P) (k := k) hatm (by omega) (kv := ks.map idVal) (fun E' hE' => by rw [hE] at hE'; simp only [Option.some.injEq] at hE'; subst hE'; exact k1) hnd2 (fun v hv => by
    obtain ⟨ns, hns, rfl⟩ := List.mem_map.1 hv
    exact hkey ns (k2 ns hns).1 (k2 ns hns).2)
  obtain ⟨kss, hkss⟩ : ∃ kss : List (List UInt8), (ks.map idVal).map (keyOf P k) = kss.map fun s => some (Lit.string s) := by
    clear hnd hnd2 hup hks k1 hkeys hr
    induction ks with
    | nil => exact ⟨[], rfl⟩
    | cons a l ih =>
      obtain ⟨q, hq⟩ := ih fun x hx => k2 x (List.mem_cons_of_mem _ hx)
      obtain ⟨s, hs⟩ := hkey a (k2 a (List.mem_cons_self ..)).1 (k2 a (List.mem_cons_self ..)).2
      exact ⟨s :: q, by rw [List.map_cons, List.map_cons, hq, hs]; rfl⟩
  have hkl : es.length = ks.length := by
    have h1 := gP_len hE
    have h2 := congrArg List.length k1
    simp only [List.length_map] at h2
    omega
  refine (law L.blk (L.base + of) M.blk es.length D0 w hat.lt hcell hown (by omega) (by omega)).mono ?_
  rintro e w' ⟨v, vs, ss, rfl, hss, hvs, hrow, hnil, hbel⟩
  have hperm : vs.Perm (ks.map (·.map bV)) := by
    refine perm_of_inj (f := fun l => keyOf P k (.agg l.toArray)) ?_ ?_
    · have h1 : (ks.map (·.map bV)).map (fun l => keyOf P k (.agg l.toArray)) = kss.map fun s => some (Lit.string s) := by rw [← hkss, List.map_map, List.map_map]; rfl
      rw [hvs, h1]
      exact (hss.trans (hkeys kss hkss)).map _
    · intro x hx y hy hxy
      obtain ⟨ns, hns, rfl⟩ := List.mem_map.1 hy
      obtain ⟨s, hs⟩ := hkey ns (k2 ns hns).1 (k2 ns hns).2
      have e2 : keyOf P k (.agg (ns.map bV).toArray) = some (.string s) := hs
      have := hinj (hxy.trans e2) e2
      simp only [Value.agg.injEq] at this
      simpa using congrArg Array.toList this
  obtain ⟨ks', hk', rfl⟩ := perm_of_map hperm
  cases es with
  | nil =>
    have hr := Option.some.inj hr; subst hr
    have h0 : ks = [] := List.length_eq_zero_iff.1 hkl.symm
    subst h0
    have h1 : ks' = [] := List.Perm.eq_nil hk'
    subst h1
    have := hnil.2 rfl
    subst this
    exact post_below hR rfl hbel rfl
  | cons e0 es =>
    have hr := Option.some.inj hr; subst hr
    rw [List.length_map] at hrow
    rw [← hk'.length_eq]
    refine post_perm hR hbel (by decide) (ps := ks'.map (·.map bA)) (hk'.map _) ?_ (Nat.le_refl _) hrow (gL_fl ks') rfl
    rw [hk'.length_eq, ← hkl]
    exact Nat.succ_pos _
end
end Ax
namespace Ax
open Go
variable [Sy]

/-! ## Selectors -/
noncomputable def strV (v : AV) : Option BS := @AV.rec (fun _ => Option BS) (fun _ => Unit) (fun _ => none) (fun _ _ => none) (fun _ _ => none) (fun s => some s) (fun _ => none) (fun _ _ _ => none) (fun _ => none) (fun _ _ _ _ _ => none) (none) (fun _ _ _ => none) (none) (fun _ _ => none) (fun _ _ => none) (fun _ _ _ => none) (fun _ => none) (fun _ _ => none) (fun _ => none) (fun _ _ => none) () (fun _ _ _ _ => ()) v
noncomputable def aggV (v : AV) : Option (List AV) := @AV.rec (fun _ => Option (List AV)) (fun _ => Unit) (fun _ => none) (fun _ _ => none) (fun _ _ => none) (fun _ => none) (fun _ => none) (fun _ _ _ => none) (fun _ => none) (fun _ _ _ _ _ => none) (none) (fun _ _ _ => none) (none) (fun l _ => (fun l => some l) l) (fun _ _ => none) (fun _ _ _ => none) (fun _ => none) (fun _ _ => none) (fun _ => none) (fun _ _ => none) () (fun _ _ _ _ => ()) v
noncomputable def tupV (v : AV) : Option (List AV) := @AV.rec (fun _ => Option (List AV)) (fun _ => Unit) (fun _ => none) (fun _ _ => none) (fun _ _ => none) (fun _ => none) (fun _ => none) (fun _ _ _ => none) (fun _ => none) (fun _ _ _ _ _ => none) (none) (fun _ _ _ => none) (none) (fun _ _ => none) (fun l _ => (fun l => some l) l) (fun _ _ _ => none) (fun _ => none) (fun _ _ => none) (fun _ => none) (fun _ _ => none) () (fun _ _ _ _ => ()) v
noncomputable def boolV (v : AV) : Option Bool := @AV.rec (fun _ => Option Bool) (fun _ => Unit) (fun b => some b) (fun _ _ => none) (fun _ _ => none) (fun _ => none) (fun _ => none) (fun _ _ _ => none) (fun _ => none) (fun _ _ _ _ _ => none) (none) (fun _ _ _ => none) (none) (fun _ _ => none) (fun _ _ => none) (fun _ _ _ => none) (fun _ => none) (fun _ _ => none) (fun _ => none) (fun _ _ => none) () (fun _ _ _ _ => ()) v
noncomputable def intNat (n : Int) : Option Nat := Int.rec (fun k => some k) (fun _ => none) n
noncomputable def natV (v : AV) : Option Nat := @AV.rec (fun _ => Option Nat) (fun _ => Unit) (fun _ => none) (fun _ n => intNat n) (fun _ _ => none) (fun _ => none) (fun _ => none) (fun _ _ _ => none) (fun _ => none) (fun _ _ _ _ _ => none) (none) (fun _ _ _ => none) (none) (fun _ _ => none) (fun _ _ => none) (fun _ _ _ => none) (fun _ => none) (fun _ _ => none) (fun _ => none) (fun _ _ => none) () (fun _ _ _ _ => ()) v
noncomputable def intV (v : AV) : Option (IntKind × Int) := @AV.rec (fun _ => Option (IntKind × Int)) (fun _ => Unit) (fun _ => none) (fun k n => some (k, n)) (fun _ _ => none) (fun _ => none) (fun _ => none) (fun _ _ _ => none) (fun _ => none) (fun _ _ _ _ _ => none) (none) (fun _ _ _ => none) (none) (fun _ _ => none) (fun _ _ => none) (fun _ _ _ => none) (fun _ => none) (fun _ _ => none) (fun _ => none) (fun _ _ => none) () (fun _ _ _ _ => ()) v
noncomputable def ptrO (a : Option (Ad × Nat)) : Option (Ad × Nat) := a
noncomputable def ptrV (v : AV) : Option (Ad × Nat) := @AV.rec (fun _ => Option (Ad × Nat)) (fun _ => Unit) (fun _ => none) (fun _ _ => none) (fun _ _ => none) (fun _ => none) (fun a => a) (fun _ _ _ => none) (fun _ => none) (fun _ _ _ _ _ => none) (none) (fun _ _ _ => none) (none) (fun _ _ => none) (fun _ _ => none) (fun _ _ _ => none) (fun _ => none) (fun _ _ => none) (fun _ => none) (fun _ _ => none) () (fun _ _ _ _ => ()) v
noncomputable def slcV (v : AV) : Option (Option (Ad × Nat) × (Nat × Cp)) := @AV.rec (fun _ => Option (Option (Ad × Nat) × (Nat × Cp))) (fun _ => Unit) (fun _ => none) (fun _ _ => none) (fun _ _ => none) (fun _ => none) (fun _ => none) (fun a n c => some (a, n, c)) (fun _ => none) (fun _ _ _ _ _ => none) (none) (fun _ _ _ => none) (none) (fun _ _ => none) (fun _ _ => none) (fun _ _ _ => none) (fun _ => none) (fun _ _ => none) (fun _ => none) (fun _ _ => none) () (fun _ _ _ _ => ()) v

/-! ## Numbers -/
noncomputable def kNum (k : IntKind) : Nat := IntKind.rec 0 1 2 3 4 5 6 7 k
noncomputable def kEqF (k j : IntKind) : Bool := Nat.beq (kNum k) (kNum j)
theorem kEqF_eq (k j : IntKind) : kEqF k j = kEq k j := by cases k <;> cases j <;> rfl
noncomputable def roofF (k : IntKind) : Nat := IntKind.rec 127 32767 2147483647 9223372036854775807 255 65535 4294967295 18446744073709551615 k
noncomputable def wrF (k : IntKind) (n : Int) : Int := Int.rec (fun m => Bool.rec (k.wrap (.ofNat m)) (.ofNat m) (Nat.ble m (roofF k))) (fun m => k.wrap (.negSucc m)) n
theorem roofF_eq (k : IntKind) (m : Nat) : Nat.ble m (roofF k) = Nat.blt m (roof k) := by
  rw [Bool.eq_iff_iff, Nat.ble_eq, blt_iff]
  cases k <;> simp only [roofF, roof] <;> omega
theorem wrF_eq (k : IntKind) (n : Int) : wrF k n = wr k n := by
  cases n with
  | ofNat m =>
    show @Bool.rec (fun _ => Int) _ _ (Nat.ble m (roofF k)) = _
    rw [roofF_eq]
    show _ = (bif Nat.blt m (roof k) then Int.ofNat m else k.wrap (.ofNat m))
    cases Nat.blt m (roof k) <;> rfl
  | negSucc m => rfl
noncomputable def addI (x y : Int) : Int := Int.rec (fun a => Int.rec (fun b => .ofNat (Nat.add a b)) (fun _ => Int.add x y) y) (fun _ => Int.add x y) x
theorem addI_eq (x y : Int) : addI x y = x + y := by cases x <;> cases y <;> rfl
noncomputable def subI (x y : Int) : Int := Int.rec (fun a => Int.rec (fun b => Bool.rec (.ofNat (Nat.sub a b)) (.negSucc (Nat.pred (Nat.sub b a))) (Nat.blt a b)) (fun _ => Int.sub x y) y) (fun _ => Int.sub x y) x
theorem subI_eq (x y : Int) : subI x y = x - y := by
  cases x with
  | negSucc a => rfl
  | ofNat a =>
    cases y with
    | negSucc b => rfl
    | ofNat b =>
      show @Bool.rec (fun _ => Int) _ _ (Nat.blt a b) = _
      cases h : Nat.blt a b with
      | false =>
        have : ¬ a < b := fun hb => by rw [(blt_iff _ _).2 hb] at h; cases h
        show Int.ofNat (a - b) = Int.ofNat a - Int.ofNat b
        simp only [Int.ofNat_eq_natCast]; omega
      | true =>
        have := (blt_iff _ _).1 h
        show Int.negSucc (Nat.pred (b - a)) = Int.ofNat a - Int.ofNat b
        rw [Int.negSucc_eq]
        simp only [Int.ofNat_eq_natCast, Nat.pred_eq_sub_one]; omega
noncomputable def iEqF (x y : Int) : Bool := Int.rec (fun a => Int.rec (fun b => Nat.beq a b) (fun _ => false) y) (fun a => Int.rec (fun _ => false) (fun b => Nat.beq a b) y) x
theorem iEqF_eq (x y : Int) : iEqF x y = iEq x y := by cases x <;> cases y <;> rfl
noncomputable def iLtF (x y : Int) : Bool := Int.rec (fun a => Int.rec (fun b => Nat.ble (Nat.succ a) b) (fun _ => false) y) (fun a => Int.rec (fun _ => true) (fun b => Nat.ble (Nat.succ b) a) y) x
theorem iLtF_eq (x y : Int) : iLtF x y = iLt x y := by cases x <;> cases y <;> rfl
noncomputable def notF (b : Bool) : Bool := Bool.rec true false b
theorem notF_eq (b : Bool) : notF b = !b := by cases b <;> rfl
noncomputable def ifK (k j : IntKind) (v : AV) : Option AV := Bool.rec none (some v) (kEqF k j)
noncomputable def iop_add (k j : IntKind) (x y : Int) : Option AV := ifK k j (.int k (wrF k (addI x y)))
noncomputable def iop_sub (k j : IntKind) (x y : Int) : Option AV := ifK k j (.int k (wrF k (subI x y)))
noncomputable def iop_mul (k j : IntKind) (x y : Int) : Option AV := aBin0 .mul none false (.int k x) (.int j y)
noncomputable def iop_quo (k j : IntKind) (x y : Int) : Option AV := aBin0 .quo none false (.int k x) (.int j y)
noncomputable def iop_rem (k j : IntKind) (x y : Int) : Option AV := aBin0 .rem none false (.int k x) (.int j y)
noncomputable def iop_and (k j : IntKind) (x y : Int) : Option AV := aBin0 .and none false (.int k x) (.int j y)
noncomputable def iop_or (k j : IntKind) (x y : Int) : Option AV := aBin0 .or none false (.int k x) (.int j y)
noncomputable def iop_xor (k j : IntKind) (x y : Int) : Option AV := aBin0 .xor none false (.int k x) (.int j y)
noncomputable def iop_shl (k j : IntKind) (x y : Int) : Option AV := aBin0 .shl none false (.int k x) (.int j y)
noncomputable def iop_shr (k j : IntKind) (x y : Int) : Option AV := aBin0 .shr none false (.int k x) (.int j y)
noncomputable def iop_andNot (k j : IntKind) (x y : Int) : Option AV := aBin0 .andNot none false (.int k x) (.int j y)
noncomputable def iop_eql (k j : IntKind) (x y : Int) : Option AV := ifK k j (.bool (iEqF x y))
noncomputable def iop_neq (k j : IntKind) (x y : Int) : Option AV := ifK k j (.bool (notF (iEqF x y)))
noncomputable def iop_lss (k j : IntKind) (x y : Int) : Option AV := ifK k j (.bool (iLtF x y))
noncomputable def iop_leq (k j : IntKind) (x y : Int) : Option AV := ifK k j (.bool (notF (iLtF y x)))
noncomputable def iop_gtr (k j : IntKind) (x y : Int) : Option AV := ifK k j (.bool (iLtF y x))
noncomputable def iop_geq (k j : IntKind) (x y : Int) : Option AV := ifK k j (.bool (notF (iLtF x y)))
noncomputable def iopF (op : BinOp) (k j : IntKind) (x y : Int) : Option AV := BinOp.rec (motive := fun _ => IntKind → IntKind → Int → Int → Option AV) iop_add iop_sub iop_mul iop_quo iop_rem iop_and iop_or iop_xor iop_shl iop_shr iop_andNot iop_eql iop_neq iop_lss iop_leq iop_gtr iop_geq op k j x y
theorem ifK_eq (k j : IntKind) (v : AV) : ifK k j v = bif kEq k j then some v else none := by
  unfold ifK; rw [kEqF_eq]; cases kEq k j <;> rfl
theorem iopF_eq (op : BinOp) (eq : Option EqK) (lit : Bool) (k j : IntKind) (x y : Int) : iopF op k j x y = aBin op eq lit (.int k x) (.int j y) := by
  cases op
  case add => show ifK k j _ = _; rw [ifK_eq, wrF_eq, addI_eq]; rfl
  case sub => show ifK k j _ = _; rw [ifK_eq, wrF_eq, subI_eq]; rfl
  case eql => show ifK k j _ = _; rw [ifK_eq, iEqF_eq]; rfl
  case neq => show ifK k j _ = _; rw [ifK_eq, notF_eq, iEqF_eq]; rfl
  case lss => show ifK k j _ = _; rw [ifK_eq, iLtF_eq]; rfl
  case leq => show ifK k j _ = _; rw [ifK_eq, notF_eq, iLtF_eq]; rfl
  case gtr => show ifK k j _ = _; rw [ifK_eq, iLtF_eq]; rfl
  case geq => show ifK k j _ = _; rw [ifK_eq, notF_eq, iLtF_eq]; rfl
  all_goals rfl

/-! ## What needs no memory -/
noncomputable def orNone {α : Type} (o : Option α) (k : α → Option AV) : Option AV := Option.rec none (fun x => k x) o
noncomputable def rdT (p : Ps) (fr : T AV) : AV := Option.rec (.tup []) (fun v => v) (fr.get p)
noncomputable def rdC (v : AV) (_ : T AV) : AV := v
noncomputable def rdF (fr : T AV) (o : Od) : AV := Od.rec (motive := fun _ => T AV → AV) rdT rdC o fr
theorem rdF_eq (fr : T AV) (o : Od) : rdF fr o = o.rd fr := by
  cases o with
  | t p => unfold rdF rdT Od.rd; simp only; cases fr.get p <;> rfl
  | c v => rfl
theorem rdF_fun (fr : T AV) : rdF fr = Od.rd fr := funext (rdF_eq fr)
noncomputable def bInt (k : IntKind) (n : Int) (op : BinOp) (eq : Option EqK) (lit : Bool) (y : AV) : Option AV := Option.rec (aBin op eq lit (.int k n) y) (fun p => iopF op k p.1 n p.2) (intV y)
noncomputable def bStr (s : BS) (op : BinOp) (eq : Option EqK) (lit : Bool) (y : AV) : Option AV := Option.rec (aBin op eq lit (.str s) y) (fun t => aStr op s t) (strV y)
noncomputable def aBinF (op : BinOp) (eq : Option EqK) (lit : Bool) (x y : AV) : Option AV := @AV.rec (fun _ => BinOp → Option EqK → Bool → AV → Option AV) (fun _ => Unit) (fun b  => fun op eq lit y => aBin op eq lit (.bool b) y) (bInt) (fun k n  => fun op eq lit y => aBin op eq lit (.flt k n) y) (bStr) (fun a  => fun op eq lit y => aBin op eq lit (.ptr a) y) (fun a n c  => fun op eq lit y => aBin op eq lit (.slc a n c) y) (fun r  => fun op eq lit y => aBin op eq lit (.map r) y) (fun f a b _ _ => fun op eq lit y => aBin op eq lit (.fn f a b) y) (fun op eq lit y => aBin op eq lit (.nilFn ) y) (fun t v _ => fun op eq lit y => aBin op eq lit (.ifc t v) y) (fun op eq lit y => aBin op eq lit (.nilIfc ) y) (fun l _ => fun op eq lit y => aBin op eq lit (.agg l) y) (fun l _ => fun op eq lit y => aBin op eq lit (.tup l) y) (fun k n hs  => fun op eq lit y => aBin op eq lit (.sint k n hs) y) (fun i  => fun op eq lit y => aBin op eq lit (.tstr i) y) (fun n bs  => fun op eq lit y => aBin op eq lit (.sbit n bs) y) (fun i  => fun op eq lit y => aBin op eq lit (.any i) y) (fun i hs  => fun op eq lit y => aBin op eq lit (.sflt i hs) y) () (fun _ _ _ _ => ()) x op eq lit y
theorem aBinF_eq (op : BinOp) (eq : Option EqK) (lit : Bool) (x y : AV) : aBinF op eq lit x y = aBin op eq lit x y := by
  cases x
  case int k n =>
    cases y
    case int j m => exact iopF_eq op eq lit k j n m
    all_goals rfl
  case str s =>
    cases y
    all_goals rfl
  all_goals rfl
noncomputable def partF (agg : Bool) (off n : Nat) (cs : List AV) : Option AV := Bool.rec (nthF cs off) (Bool.rec none (some (.agg (takeF n (dropF off cs)))) (Nat.ble (off + n) (lenF cs))) agg
theorem partF_eq (agg : Bool) (off n : Nat) (cs : List AV) : partF agg off n cs = aPart agg off n cs := by
  unfold partF aPart
  rw [nthF_eq, takeF_eq, dropF_eq, lenF_eq]
  cases agg with
  | false => rfl
  | true => cases Nat.ble (off + n) cs.length <;> rfl
noncomputable def ixF (len sz : Nat) (a : Ad × Nat) (k : Nat) : Option AV := Bool.rec none (some (.ptr (some (addA a (k * sz))))) (Nat.blt k len)
theorem ixF_eq (len sz : Nat) (a : Ad × Nat) (k : Nat) : ixF len sz a k = bif Nat.blt k len then some (.ptr (some (addA a (k * sz)))) else none := by
  unfold ixF; cases Nat.blt k len <;> rfl
noncomputable def p_mov (x : Od) (fr : T AV) : Option AV := some (rdF fr x)
noncomputable def p_pick (c a b : Od) (fr : T AV) : Option AV := Option.rec none (fun t => some (Bool.rec (rdF fr b) (rdF fr a) t)) (boolV (rdF fr c))
noncomputable def p_build (zero : List AV) (parts : List (Nat × Nat × Od)) (fr : T AV) : Option AV := PO.run fr (.build zero parts)
noncomputable def p_nilck (x : Od) (fr : T AV) : Option AV := PO.run fr (.nilck x)
noncomputable def p_bin (op : BinOp) (eq : Option EqK) (lit : Bool) (x y : Od) (fr : T AV) : Option AV := aBinF op eq lit (rdF fr x) (rdF fr y)
noncomputable def p_un (op : UnOp) (x : Od) (fr : T AV) : Option AV := aUn op (rdF fr x)
noncomputable def p_cInt (k : IntKind) (x : Od) (fr : T AV) : Option AV := Option.rec none (fun p => some (.int k (wrF k p.2))) (intV (rdF fr x))
noncomputable def p_cFlt (x : Od) (fr : T AV) : Option AV := PO.run fr (.cFlt x)
noncomputable def p_cStr (x : Od) (fr : T AV) : Option AV := PO.run fr (.cStr x)
noncomputable def p_arr (n : Nat) (x : Od) (fr : T AV) : Option AV := PO.run fr (.arr n x)
noncomputable def p_mkif (t : TypeId) (x : Od) (fr : T AV) : Option AV := some (.ifc t (rdF fr x))
noncomputable def p_mkfn (f : Fn) (first caps : List Od) (fr : T AV) : Option AV := PO.run fr (.mkfn f first caps)
noncomputable def p_slStr (x : Od) (lo hi : Option Od) (fr : T AV) : Option AV := PO.run fr (.slStr x lo hi)
noncomputable def p_slArr (n sz : Nat) (x : Od) (lo hi : Option Od) (fr : T AV) : Option AV := PO.run fr (.slArr n sz x lo hi)
noncomputable def p_fadr (off : Nat) (x : Od) (fr : T AV) : Option AV := Option.rec none (fun a => some (.ptr (some (addA a off)))) (ptrV (rdF fr x))
noncomputable def p_fld (off n : Nat) (agg : Bool) (x : Od) (fr : T AV) : Option AV := Option.rec none (fun cs => partF agg off n cs) (aggV (rdF fr x))
noncomputable def p_ixaA (len sz : Nat) (x i : Od) (fr : T AV) : Option AV := Option.rec none (fun a => Option.rec none (fun k => ixF len sz a k) (natV (rdF fr i))) (ptrV (rdF fr x))
noncomputable def p_ixaS (sz : Nat) (x i : Od) (fr : T AV) : Option AV := Option.rec none (fun s => Option.rec none (fun a => Option.rec none (fun k => ixF s.2.1 sz a k) (natV (rdF fr i))) s.1) (slcV (rdF fr x))
noncomputable def p_ixA (len sz : Nat) (agg : Bool) (x i : Od) (fr : T AV) : Option AV := Option.rec none (fun cs => Option.rec none (fun k => Bool.rec none (partF agg (k * sz) sz cs) (Nat.blt k len)) (natV (rdF fr i))) (aggV (rdF fr x))
noncomputable def p_ixS (x i : Od) (fr : T AV) : Option AV := Option.rec none (fun s => Option.rec none (fun k => Bool.rec none (some (.int .u8 (.ofNat (s.get k)))) (Nat.ble (Nat.succ k) s.len)) (natV (rdF fr i))) (strV (rdF fr x))
noncomputable def p_extr (i : Nat) (x : Od) (fr : T AV) : Option AV := Option.rec none (fun l => nthF l i) (tupV (rdF fr x))
noncomputable def p_lenStr (x : Od) (fr : T AV) : Option AV := Option.rec none (fun s => some (.int .i64 (.ofNat s.len))) (strV (rdF fr x))
noncomputable def p_lenSl (x : Od) (fr : T AV) : Option AV := Option.rec none (fun s => some (.int .i64 (Int.ofNat s.2.1))) (slcV (rdF fr x))
noncomputable def p_lenC (n : Nat) (fr : T AV) : Option AV := some (.int .i64 (Int.ofNat n))
noncomputable def p_capSl (x : Od) (fr : T AV) : Option AV := PO.run fr (.capSl x)
noncomputable def p_minI (x : Od) (xs : List Od) (fr : T AV) : Option AV := PO.run fr (.minI x xs)
noncomputable def p_maxI (x : Od) (xs : List Od) (fr : T AV) : Option AV := PO.run fr (.maxI x xs)
noncomputable def p_tas (t : TypeId) (zero : AV) (ok : Bool) (x : Od) (fr : T AV) : Option AV := PO.run fr (.tas t zero ok x)
noncomputable def poF (q : PO) (fr : T AV) : Option AV := PO.rec (motive := fun _ => T AV → Option AV) p_mov p_pick p_build p_nilck p_bin p_un p_cInt p_cFlt p_cStr p_arr p_mkif p_mkfn p_slStr p_slArr p_fadr p_fld p_ixaA p_ixaS p_ixA p_ixS p_extr p_lenStr p_lenSl p_lenC p_capSl p_minI p_maxI p_tas q fr
theorem poF_eq (q : PO) (fr : T AV) : poF q fr = q.run fr := by
  cases q
  case mov x => show p_mov x fr = _; unfold p_mov PO.run; rw [rdF_eq]
  case pick c a b =>
    show p_pick c a b fr = _; unfold p_pick PO.run; simp only [rdF_eq]
    generalize c.rd fr = u; cases u <;> first | rfl | (rename_i t; cases t <;> rfl)
  case bin op eq lit x y => show p_bin op eq lit x y fr = _; unfold p_bin PO.run; rw [rdF_eq, rdF_eq, aBinF_eq]
  case un op x => show p_un op x fr = _; unfold p_un PO.run; rw [rdF_eq]
  case cInt k x =>
    show p_cInt k x fr = _; unfold p_cInt PO.run; simp only [rdF_eq, wrF_eq]
    generalize x.rd fr = u; cases u <;> rfl
  case mkif t x => show p_mkif t x fr = _; unfold p_mkif PO.run; rw [rdF_eq]
  case fadr off x =>
    show p_fadr off x fr = _; unfold p_fadr PO.run; simp only [rdF_eq]
    generalize x.rd fr = u; cases u <;> first | rfl | (rename_i a; cases a <;> rfl)
  case fld off n agg x =>
    show p_fld off n agg x fr = _; unfold p_fld PO.run; simp only [rdF_eq, partF_eq]
    generalize x.rd fr = u; cases u <;> rfl
  case ixaA len sz x i =>
    show p_ixaA len sz x i fr = _; unfold p_ixaA PO.run; simp only [rdF_eq, ixF_eq]
    generalize x.rd fr = u; generalize i.rd fr = v
    cases u <;> first | rfl | (rename_i a; cases a <;> first | rfl | (cases v <;> first | rfl | (rename_i n; cases n <;> rfl)))
  case ixaS sz x i =>
    show p_ixaS sz x i fr = _; unfold p_ixaS PO.run; simp only [rdF_eq, ixF_eq]
    generalize x.rd fr = u; generalize i.rd fr = v
    cases u <;> first | rfl | (rename_i a _ _; cases a <;> first | rfl | (cases v <;> first | rfl | (rename_i n; cases n <;> rfl)))
  case ixA len sz agg x i =>
    show p_ixA len sz agg x i fr = _; unfold p_ixA PO.run; simp only [rdF_eq, partF_eq]
    generalize x.rd fr = u; generalize i.rd fr = v
    cases u <;> first | rfl | (cases v <;> first | rfl | (rename_i n; cases n <;> first | rfl | (rename_i m; show @Bool.rec (fun _ => Option AV) _ _ (Nat.blt m len) = (bif Nat.blt m len then _ else _); cases Nat.blt m len <;> rfl)))
  case ixS x i =>
    show p_ixS x i fr = _; unfold p_ixS PO.run; simp only [rdF_eq]
    generalize x.rd fr = u; generalize i.rd fr = v
    cases u <;> first | rfl | (rename_i s; cases v <;> first | rfl | (rename_i n; cases n <;> first | rfl | (rename_i m; show @Bool.rec (fun _ => Option AV) none _ (Nat.ble (m + 1) s.len) = (bif Nat.ble (m + 1) s.len then _ else none); cases Nat.ble (m + 1) s.len <;> rfl)))
  case extr i x =>
    show p_extr i x fr = _; unfold p_extr PO.run; simp only [rdF_eq, nthF_eq]
    generalize x.rd fr = u; cases u <;> rfl
  case lenStr x =>
    show p_lenStr x fr = _; unfold p_lenStr PO.run; simp only [rdF_eq]
    generalize x.rd fr = u; cases u <;> rfl
  case lenSl x =>
    show p_lenSl x fr = _; unfold p_lenSl PO.run; simp only [rdF_eq]
    generalize x.rd fr = u; cases u <;> rfl
  all_goals rfl

/-! ## What reads memory -/
noncomputable def r_load (n : Nat) (agg : Bool) (x : Od) (gl : T (List AV)) (fr : T AV) (h : Hp) : Option AV :=
  Option.rec none (fun a => Option.rec none (fun c => Bool.rec (oneF c.list) (some (.agg c.list)) agg) (cellsC gl h a n)) (ptrV (rdF fr x))
  where oneF (cs : List AV) : Option AV := List.rec none (fun v l _ => List.rec (some v) (fun _ _ _ => none) l) cs
noncomputable def r_look (eq : EqK) (zero : AV) (ok : Bool) (m k : Od) (gl : T (List AV)) (fr : T AV) (h : Hp) : Option AV := RO.run gl fr h (.look eq zero ok m k)
noncomputable def r_b2s (x : Od) (gl : T (List AV)) (fr : T AV) (h : Hp) : Option AV := RO.run gl fr h (.b2s x)
noncomputable def r_lenM (x : Od) (gl : T (List AV)) (fr : T AV) (h : Hp) : Option AV := RO.run gl fr h (.lenM x)
noncomputable def roF (q : RO) (gl : T (List AV)) (fr : T AV) (h : Hp) : Option AV := RO.rec (motive := fun _ => T (List AV) → T AV → Hp → Option AV) r_load r_look r_b2s r_lenM q gl fr h
theorem roF_eq (q : RO) (gl : T (List AV)) (fr : T AV) (h : Hp) : roF q gl fr h = q.run gl fr h := by
  cases q
  case load n agg x =>
    show r_load n agg x gl fr h = _; unfold r_load RO.run; simp only [rdF_eq, cellsAt]
    generalize x.rd fr = u
    cases u <;> first | rfl | skip
    rename_i a
    cases a with
    | none => rfl
    | some a =>
      simp only [ptrV]
      generalize cellsC gl h a n = o
      cases o with
      | none => rfl
      | some c =>
        simp only [Option.map_some]
        cases agg with
        | true => rfl
        | false => match c.list with
          | [] => rfl
          | [v] => rfl
          | _ :: _ :: _ => rfl
  all_goals rfl

/-! ## Steps -/
noncomputable def guardF (fr : T AV) (g : Option (Ps × Bool)) : Bool :=
  Option.rec true (fun p => Option.rec false (fun v => Option.rec false (fun b => Bool.rec (notF p.2) p.2 b) (boolV v)) (fr.get p.1)) g
theorem guardF_eq (fr : T AV) (g : Option (Ps × Bool)) : guardF fr g = guardOk fr g := by
  cases g with
  | none => rfl
  | some p =>
    obtain ⟨p, w⟩ := p
    unfold guardF guardOk
    simp only
    generalize fr.get p = o
    cases o with
    | none => rfl
    | some v => cases v <;> first | rfl | (rename_i b; cases b <;> simp [boolV, notF_eq])
noncomputable def guardAnyF (fr : T AV) (g : Option (Ps × Bool)) : Bool := Option.rec false (fun p => Option.rec false (fun v => v.isAny) (fr.get p.1)) g
theorem guardAnyF_eq (fr : T AV) (g : Option (Ps × Bool)) : guardAnyF fr g = guardAny fr g := by
  cases g with
  | none => rfl
  | some p =>
    obtain ⟨p, w⟩ := p
    unfold guardAnyF guardAny
    simp only
    generalize fr.get p = o
    cases o <;> rfl
noncomputable def putF (fr : T AV) (d : Option Ps) (v : AV) : T AV := Option.rec fr (fun p => fr.put (some v) p) d
theorem putF_eq (fr : T AV) (d : Option Ps) (v : AV) : putF fr d v = putO fr d v := by cases d <;> rfl
noncomputable def okV (fr : T AV) (d : Option Ps) (h : Hp) (n : Nat) (o : Option AV) : RR := Option.rec (.err n) (fun v => .ok (putF fr d v) h) o
noncomputable def stP (q : PO) (_ : Env) (_ : FuncId → List AV → Hp → CR) (d : Option Ps) (fr : T AV) (h : Hp) : RR := okV fr d h 101 (poF q fr)
noncomputable def stA (q : AOp) (_ : Env) (_ : FuncId → List AV → Hp → CR) (d : Option Ps) (fr : T AV) (h : Hp) : RR :=
  Option.rec (.err 102) (fun p => Option.rec (.ok (putF fr d p.2) ⟨h.tr, Nat.succ h.nxt⟩) (fun ob => .ok (putF fr d p.2) (h.new ob)) p.1) (q.run fr h.nxt)
noncomputable def stR (q : RO) (E : Env) (_ : FuncId → List AV → Hp → CR) (d : Option Ps) (fr : T AV) (h : Hp) : RR := okV fr d h 103 (roF q E.gl fr h)
noncomputable def ofCR (fr : T AV) (d : Option Ps) (r : CR) : RR := CR.rec (fun v h => .ok (putF fr d v) h) (fun v h => .pan v fr h) (fun n => .err n) r
noncomputable def stE (q : EO) (E : Env) (cal : FuncId → List AV → Hp → CR) (d : Option Ps) (fr : T AV) (h : Hp) : RR :=
  St.rec (fun v h => .ok (putF fr d v) h) (fun f as h => ofCR fr d (cal f as h)) (fun v h => .pan v fr h) (fun n => .err n) (q.run E.gl (isFn E.P) (fun f => E.ext.get (Ps.key f)) fr h)
noncomputable def stB (n : Nat) (_ : Env) (_ : FuncId → List AV → Hp → CR) (_ : Option Ps) (_ : T AV) (_ : Hp) : RR := .err n
noncomputable def stF (o : IOp) : Env → (FuncId → List AV → Hp → CR) → Option Ps → T AV → Hp → RR := IOp.rec (motive := fun _ => Env → (FuncId → List AV → Hp → CR) → Option Ps → T AV → Hp → RR) stP stA stR stE stB o
noncomputable def stepF (E : Env) (cal : FuncId → List AV → Hp → CR) (o : Iop) (fr : T AV) (h : Hp) : RR := Bool.rec (Bool.rec (.ok (putF fr o.dst (.tup [])) h) (.err 105) (guardAnyF fr o.guard)) (stF o.op E cal o.dst fr h) (guardF fr o.guard)
theorem stepF_eq (E : Env) (cal : FuncId → List AV → Hp → CR) (o : Iop) (fr : T AV) (h : Hp) : stepF E cal o fr h = stepIO E cal o fr h := by
  obtain ⟨d, gd, op⟩ := o
  unfold stepF stepIO
  rw [guardF_eq]
  simp only
  cases guardOk fr gd with
  | false =>
    simp only [cond_false, putF_eq, guardAnyF_eq]
    cases guardAny fr gd <;> rfl
  | true =>
    simp only [cond_true]
    cases op with
    | p q =>
      show okV fr d h 101 (poF q fr) = _
      rw [poF_eq]
      simp only
      cases q.run fr with
      | none => rfl
      | some v => show RR.ok (putF fr d v) h = _; rw [putF_eq]
    | a q =>
      show @Option.rec _ (fun _ => RR) _ _ (q.run fr h.nxt) = _
      simp only
      cases q.run fr h.nxt with
      | none => rfl
      | some p =>
        obtain ⟨o, v⟩ := p
        cases o with
        | none => show RR.ok (putF fr d v) _ = _; rw [putF_eq]
        | some ob => show RR.ok (putF fr d v) _ = _; rw [putF_eq]
    | r q =>
      show okV fr d h 103 (roF q E.gl fr h) = _
      rw [roF_eq]
      simp only
      cases q.run E.gl fr h with
      | none => rfl
      | some v => show RR.ok (putF fr d v) h = _; rw [putF_eq]
    | e q =>
      show @St.rec (fun _ => RR) _ _ _ _ (q.run E.gl (isFn E.P) (fun f => E.ext.get (Ps.key f)) fr h) = _
      simp only
      cases q.run E.gl (isFn E.P) (fun f => E.ext.get (Ps.key f)) fr h with
      | val v h => show RR.ok (putF fr d v) h = _; rw [putF_eq]
      | ent f as h =>
        show ofCR fr d (cal f as h) = _
        simp only
        cases cal f as h with
        | ret v h => show RR.ok (putF fr d v) h = _; rw [putF_eq]
        | pan v h => rfl
        | err n => rfl
      | pan v h => rfl
      | bad n => rfl
    | bad n => rfl

noncomputable def runF (E : Env) (cal : FuncId → List AV → Hp → CR) (l : List Iop) : T AV → Hp → RR :=
  List.rec (motive := fun _ => T AV → Hp → RR) (fun fr h => .ok fr h) (fun o _ ih fr h => RR.rec (fun fr h => ih fr h) (fun v fr h => .pan v fr h) (fun n => .err n) (stepF E cal o fr h)) l
theorem runF_eq (E : Env) (cal : FuncId → List AV → Hp → CR) : ∀ (l : List Iop) (fr : T AV) (h : Hp), runF E cal l fr h = runIOs E cal l fr h
  | [], _, _ => rfl
  | o :: l, fr, h => by
    have ih := runF_eq E cal l
    show @RR.rec (fun _ => RR) _ _ _ (stepF E cal o fr h) = match stepIO E cal o fr h with | .ok fr h => runIOs E cal l fr h | .pan v fr h => .pan v fr h | .err n => .err n
    rw [stepF_eq]
    cases stepIO E cal o fr h with
    | ok fr h => exact ih fr h
    | pan v fr h => rfl
    | err n => rfl

/-! ## Code and calls -/
noncomputable def xNor (rec : IC → T AV → Hp → XR) (b : IC) (r : XR) : XR := XR.rec (fun x fr h => EX.rec (rec b fr h) (fun i => .ok (.exi i) fr h) (.ok .ret fr h) (fun v => .ok (.pan v) fr h) x) (fun n => .err n) r
theorem xNor_eq (rec : IC → T AV → Hp → XR) (b : IC) (r : XR) : xNor rec b r = match r with | .ok .nor fr h => rec b fr h | r => r := by
  cases r with
  | err n => rfl
  | ok x fr h => cases x <;> rfl
noncomputable def toXF (r : RR) : XR := RR.rec (fun fr h => .ok .nor fr h) (fun v fr h => .ok (.pan v) fr h) (fun n => .err n) r
theorem toXF_eq (r : RR) : toXF r = r.toXR := by cases r <;> rfl
noncomputable def xBlk (id : Nat) (r : XR) : XR := XR.rec (fun x fr h => EX.rec (.ok .nor fr h) (fun j => Bool.rec (.ok (.exi j) fr h) (.ok .nor fr h) (Nat.beq j id)) (.ok .ret fr h) (fun v => .ok (.pan v) fr h) x) (fun n => .err n) r
theorem xBlk_eq (id : Nat) (r : XR) : xBlk id r = match r with | .ok (.exi j) fr h => bif Nat.beq j id then .ok .nor fr h else .ok (.exi j) fr h | r => r := by
  cases r with
  | err n => rfl
  | ok x fr h => cases x <;> first | rfl | (rename_i j; show @Bool.rec (fun _ => XR) _ _ (Nat.beq j id) = _; simp only; cases Nat.beq j id <;> rfl)
abbrev XH := Env → (FuncId → List AV → Hp → CR) → (IC → T AV → Hp → XR) → T AV → Hp → XR
noncomputable def h_skip : XH := fun _ _ _ fr h => .ok .nor fr h
noncomputable def h_reg (l : List Iop) : XH := fun E cal _ fr h => toXF (runF E cal l fr h)
noncomputable def h_dra (l : List DO) : XH := fun E cal _ fr h => toXF (runDra E cal l fr h)
noncomputable def h_seq (a b : IC) (_ _ : XH) : XH := fun _ _ rec fr h => xNor rec b (rec a fr h)
noncomputable def h_cond (c : Od) (a b : IC) (_ _ : XH) : XH := fun _ _ rec fr h => Option.rec (.err 301) (fun t => Bool.rec (rec b fr h) (rec a fr h) t) (boolV (rdF fr c))
noncomputable def h_block (id : Nat) (b : IC) (_ : XH) : XH := fun _ _ rec fr h => xBlk id (rec b fr h)
noncomputable def h_loop (b : IC) (_ : XH) : XH := fun _ _ rec fr h => xNor rec (.loop b) (rec b fr h)
noncomputable def h_exit (id : Nat) : XH := fun _ _ _ fr h => .ok (.exi id) fr h
noncomputable def h_ret : XH := fun _ _ _ fr h => .ok .ret fr h
noncomputable def h_bad (n : Nat) : XH := fun _ _ _ _ _ => .err n
noncomputable def execStepF (E : Env) (cal : FuncId → List AV → Hp → CR) (rec : IC → T AV → Hp → XR) (c : IC) (fr : T AV) (h : Hp) : XR :=
  IC.rec (motive := fun _ => XH) h_skip h_reg h_dra h_seq h_cond h_block h_loop h_exit h_ret h_bad c E cal rec fr h
theorem execStepF_eq (E : Env) (cal : FuncId → List AV → Hp → CR) (rec : IC → T AV → Hp → XR) (c : IC) (fr : T AV) (h : Hp) : execStepF E cal rec c fr h = execStep E cal rec c fr h := by
  cases c with
  | skip => rfl
  | reg l => show toXF (runF E cal l fr h) = _; rw [toXF_eq, runF_eq]; rfl
  | dra l => show toXF (runDra E cal l fr h) = _; rw [toXF_eq]; rfl
  | seq a b => exact xNor_eq rec b _
  | cond c a b =>
    show @Option.rec _ (fun _ => XR) _ _ (boolV (rdF fr c)) = _
    unfold execStep
    rw [rdF_eq]
    simp only
    generalize c.rd fr = u
    cases u <;> first | rfl | (rename_i t; cases t <;> rfl)
  | block id b => exact xBlk_eq id _
  | loop b => exact xNor_eq rec (.loop b) _
  | exit id => rfl
  | ret => rfl
  | bad n => rfl

noncomputable def finF (E : Env) (F : IF) (f : FuncId) (r : XR) : CR := XR.rec (fun x fr h => EX.rec (finish E F fr h) (fun _ => .err 402) (finish E F fr h) (fun v => .pan v h) x) (fun n => .err (n * 1000 + f)) r
noncomputable def natF (E : Env) (rec : IC → T AV → Hp → XR) (f : FuncId) (args : List AV) (h : Hp) : CR := Option.rec (.err 403) (fun F => finF E F f (rec F.body (ini 0 args .nil) h)) (cFn E.P f)
theorem natF_eq (E : Env) (rec : IC → T AV → Hp → XR) (f : FuncId) (args : List AV) (h : Hp) : natF E rec f args h = natStep E rec f args h := by
  unfold natF natStep
  cases cFn E.P f with
  | none => rfl
  | some F =>
    simp only
    unfold finF
    cases rec F.body (ini 0 args .nil) h with
    | err n => rfl
    | ok x fr h => cases x <;> rfl
noncomputable def callStepF (E : Env) (rec : IC → T AV → Hp → XR) (f : FuncId) (args : List AV) (h : Hp) : CR :=
  Option.rec (natF E rec f args h) (fun o => Option.rec (natF E rec f args h) (fun r => r) (o args h)) (E.orc.get (Ps.key f))
theorem callStepF_eq (E : Env) (rec : IC → T AV → Hp → XR) (f : FuncId) (args : List AV) (h : Hp) : callStepF E rec f args h = callStep E rec f args h := by
  unfold callStepF callStep
  rw [natF_eq]
  cases E.orc.get (Ps.key f) with
  | none => rfl
  | some o => simp only; cases o args h <;> rfl
noncomputable def execF (E : Env) (fuel : Nat) : IC → T AV → Hp → XR :=
  Nat.rec (motive := fun _ => IC → T AV → Hp → XR) (fun _ _ _ => .err 0) (fun _ ih => execStepF E (callStepF E ih) ih) fuel
theorem execF_eq (E : Env) : ∀ fuel, execF E fuel = exec E fuel
  | 0 => rfl
  | fuel + 1 => by
    have ih := execF_eq E fuel
    show execStepF E (callStepF E (execF E fuel)) (execF E fuel) = execStep E (callStep E (exec E fuel)) (exec E fuel)
    rw [ih]
    have hc : callStepF E (exec E fuel) = callStep E (exec E fuel) := funext fun f => funext fun as => funext fun h => callStepF_eq E _ f as h
    rw [hc]
    exact funext fun c => funext fun fr => funext fun h => execStepF_eq E _ _ c fr h
noncomputable def callF (E : Env) (fuel : Nat) (f : FuncId) (args : List AV) (h : Hp) : CR := callStepF E (execF E fuel) f args h
theorem callF_eq (E : Env) (fuel : Nat) : callF E fuel = call E fuel := by
  funext f args h
  unfold callF call
  rw [execF_eq, callStepF_eq]
end Ax
