/- Each operation of the evaluator is right; on no condition. -/
import Derived.Test.YtdimdhloklnkmaaGreatDoorAxA
import Derived.Laws.CopyRow
import Derived.MapKept
import Derived.Laws.BytesString
set_option linter.unusedVariables false
set_option linter.unusedSimpArgs false
set_option linter.unusedSectionVars false
namespace Ax
open Go
variable [Sy]

section
variable {P : Program} {φ : Mp} {w : World}

theorem g_nilIfc {x : Value} (h : g φ .nilIfc = some x) : x = .nilIface := by simp only [g, Option.some.injEq] at h; exact h.symm
theorem g_ptrN {x : Value} (h : g φ (.ptr none) = some x) : x = .pointer none := by simp only [g, Option.some.injEq] at h; exact h.symm
theorem g_mapN {x : Value} (h : g φ (.map none) = some x) : x = .map none := by simp only [g, Option.some.injEq] at h; exact h.symm
theorem g_mapS {id : Nat} {x : Value} (h : g φ (.map (some id)) = some x) : ∃ L, φ id = some L ∧ x = .map (some L.blk) := by
  simp only [g, Option.map_eq_some_iff] at h; obtain ⟨L, hL, rfl⟩ := h; exact ⟨L, hL, rfl⟩
theorem g_nilFn {x : Value} (h : g φ .nilFn = some x) : x = .nilFunc := by simp only [g, Option.some.injEq] at h; exact h.symm
theorem g_ptrO {a : Option (Ad × Nat)} {x : Value} (h : g φ (.ptr a) = some x) : ∃ A, x = .pointer A ∧ A.isNone = a.isNone := by
  cases a with
  | none => exact ⟨none, g_ptrN h, rfl⟩
  | some a => obtain ⟨A, _, rfl⟩ := g_ptr h; exact ⟨some A, rfl, rfl⟩
theorem g_mapO {a : Option Nat} {x : Value} (h : g φ (.map a) = some x) : ∃ A, x = .map A ∧ A.isNone = a.isNone := by
  cases a with
  | none => exact ⟨none, g_mapN h, rfl⟩
  | some a => obtain ⟨A, _, rfl⟩ := g_mapS h; exact ⟨some _, rfl, rfl⟩
theorem g_slcO {a : Option (Ad × Nat)} {n : Nat} {c : Cp} {x : Value} (h : g φ (.slc a n c) = some x) : ∃ A m, x = .slice A n m ∧ A.isNone = a.isNone := by
  cases a with
  | none => cases c with
    | u e => simp [g] at h
    | k c => simp only [g, Option.some.injEq] at h; exact ⟨none, c, h.symm, rfl⟩
  | some a => obtain ⟨A, m, _, rfl, _⟩ := g_slc h; exact ⟨some A, m, rfl, rfl⟩

theorem eqV_ok {lit : Bool} {e : EqK} {x y : AV} {b : Bool} {X Y : Value} {t : TypeId} (h : eqV lit e x y = some b) (ht : eqK P t = some e) (hx : g φ x = some X) (hy : g φ y = some Y) :
    (Op.equal t X Y).run P w = .ok b w := by
  unfold eqK at ht
  obtain ⟨d, hd⟩ : ∃ d, d = 9999 := ⟨_, rfl⟩
  have hd' : 20 ≤ d + 1 := by omega
  show (Op.equalIn (9999 + 1) t X Y).run P w = .ok b w
  rw [← hd]
  clear hd
  split at ht
  · rename_i hu; simp only [Option.some.injEq] at ht; subst ht; exact eqLf_ok h hx hy _ t hu
  · rename_i k hu; simp only [Option.some.injEq] at ht; subst ht; exact eqLf_ok h hx hy _ t ⟨k, hu⟩
  · rename_i hu; simp only [Option.some.injEq] at ht; subst ht; exact eqLf_ok h hx hy _ t hu
  · rename_i hu; simp only [Option.some.injEq] at ht; subst ht
    unfold eqV at h
    split at h <;> first | contradiction | skip
    · have := g_ptrN hx; subst this
      obtain ⟨B, rfl, hB⟩ := g_ptrO hy
      simp only [Option.some.injEq] at h; subst h
      simp [Op.equalIn, run_underlying hu, hB]
    · obtain ⟨A, _, rfl⟩ := g_ptr hx
      have := g_ptrN hy; subst this
      simp only [Option.some.injEq] at h; subst h
      simp [Op.equalIn, run_underlying hu]
  · rename_i hu; simp only [Option.some.injEq] at ht; subst ht
    unfold eqV at h
    split at h <;> first | contradiction | skip
    · have := g_nilIfc hx; subst this
      have := g_nilIfc hy; subst this
      cases lit <;> simp at h
      subst h
      simp [Op.equalIn, run_underlying hu]
    · have := g_nilIfc hx; subst this
      obtain ⟨_, _, rfl⟩ := g_ifc hy
      simp only [Option.some.injEq] at h; subst h
      simp [Op.equalIn, run_underlying hu]
    · have := g_nilIfc hy; subst this
      obtain ⟨_, _, rfl⟩ := g_ifc hx
      simp only [Option.some.injEq] at h; subst h
      simp [Op.equalIn, run_underlying hu]
  · rename_i hu; simp only [Option.some.injEq] at ht; subst ht
    unfold eqV at h
    split at h <;> first | contradiction | skip
    · obtain ⟨A, m, rfl, hA⟩ := g_slcO hx
      obtain ⟨B, m', rfl, hB⟩ := g_slcO hy
      simp only [Option.some.injEq] at h; subst h
      cases A with
      | none => simp [Op.equalIn, run_underlying hu, hB]
      | some A => simp at hA
    · obtain ⟨A, m, rfl, hA⟩ := g_slcO hx
      obtain ⟨B, m', rfl, hB⟩ := g_slcO hy
      simp only [Option.some.injEq] at h; subst h
      cases A with
      | none => simp at hA
      | some A => cases B with
        | none => simp [Op.equalIn, run_underlying hu]
        | some B => simp at hB
  · rename_i hu; simp only [Option.some.injEq] at ht; subst ht
    unfold eqV at h
    split at h <;> first | contradiction | skip
    · have := g_mapN hx; subst this
      obtain ⟨B, rfl, hB⟩ := g_mapO hy
      simp only [Option.some.injEq] at h; subst h
      simp [Op.equalIn, run_underlying hu, hB]
    · obtain ⟨A, _, rfl⟩ := g_mapS hx
      have := g_mapN hy; subst this
      simp only [Option.some.injEq] at h; subst h
      simp [Op.equalIn, run_underlying hu]
  · rename_i hu; simp only [Option.some.injEq] at ht; subst ht
    unfold eqV at h
    split at h <;> first | contradiction | skip
    · have := g_nilFn hx; subst this
      have := g_nilFn hy; subst this
      simp only [Option.some.injEq] at h; subst h
      simp [Op.equalIn, run_underlying hu]
    · have := g_nilFn hx; subst this
      obtain ⟨_, _, _, _, rfl⟩ := g_fn hy
      simp only [Option.some.injEq] at h; subst h
      simp [Op.equalIn, run_underlying hu]
    · have := g_nilFn hy; subst this
      obtain ⟨_, _, _, _, rfl⟩ := g_fn hx
      simp only [Option.some.injEq] at h; subst h
      simp [Op.equalIn, run_underlying hu]
  all_goals first
    | (simp at ht; done)
    | skip
  all_goals
    rename_i hu
    simp only [Option.map_eq_some_iff] at ht
    obtain ⟨ls, hls, rfl⟩ := ht
    unfold eqV at h
    split at h <;> first | contradiction | skip
    · rename_i l1 xs ys he
      obtain rfl : l1 = ls := by simpa using he.symm
      obtain ⟨XS, hX, rfl⟩ := g_agg hx
      obtain ⟨YS, hY, rfl⟩ := g_agg hy
      cases hc : (Nat.beq xs.length l1.length && Nat.beq ys.length l1.length) with
      | false => simp [hc] at h
      | true =>
        simp only [hc, cond_true] at h
        simp only [Bool.and_eq_true, Nat.beq_eq] at hc
        have hagg : isAggT P t = true := by simp [isAggT, hu]
        have := (lvs_ok (P := P) (φ := φ) 20 t l1 hls).2.2 (d + 1) hd' xs ys b XS YS w hc.1 hc.2 h hX hY
        simpa [pk, hagg] using this

theorem eqV_na {l : Bool} {e : EqK} {u v : AV} {b : Bool} (h : eqV l e u v = some b) : u.isAny = false ∧ v.isAny = false := by
  constructor
  · cases u with
    | any i =>
      exfalso
      cases e with
      | leaf k => cases k <;> cases v <;> simp [eqV, eqLf] at h
      | _ => cases v <;> simp [eqV] at h
    | _ => rfl
  · cases v with
    | any i =>
      exfalso
      cases e with
      | leaf k => cases k <;> cases u <;> simp [eqV, eqLf] at h
      | _ => cases u <;> simp [eqV] at h
    | _ => rfl
theorem g_is_nil {u : AV} (hn : u.isAny = false) (h : g φ u = some .nilIface) : u = .nilIfc := by
  cases u with
  | any i => cases hn
  | nilIfc => rfl
  | ptr a => obtain ⟨A, hA, _⟩ := g_ptrO h; cases hA
  | slc a n c => obtain ⟨A, m, hA, _⟩ := g_slcO h; cases hA
  | map a => obtain ⟨A, hA, _⟩ := g_mapO h; cases hA
  | fn f a b => obtain ⟨A, m, _, _, hA⟩ := g_fn h; cases hA
  | ifc t v => obtain ⟨A, _, hA⟩ := g_ifc h; cases hA
  | agg l => obtain ⟨A, _, hA⟩ := g_agg h; cases hA
  | tup l => obtain ⟨A, _, hA⟩ := g_tup h; cases hA
  | _ => simp [g] at h
theorem g_is_agg {u : AV} {xs : Array Value} (hn : u.isAny = false) (h : g φ u = some (.agg xs)) : ∃ l, u = .agg l := by
  cases u with
  | any i => cases hn
  | ptr a => obtain ⟨A, hA, _⟩ := g_ptrO h; cases hA
  | slc a n c => obtain ⟨A, m, hA, _⟩ := g_slcO h; cases hA
  | map a => obtain ⟨A, hA, _⟩ := g_mapO h; cases hA
  | fn f a b => obtain ⟨A, m, _, _, hA⟩ := g_fn h; cases hA
  | ifc t v => obtain ⟨A, _, hA⟩ := g_ifc h; cases hA
  | agg l => exact ⟨l, rfl⟩
  | tup l => obtain ⟨A, _, hA⟩ := g_tup h; cases hA
  | _ => simp [g] at h

theorem eqGuard_ok {op : BinOp} {t : TypeId} {x y : Operand} {u v : AV} {X Y : Value} {e : EqK} {b : Bool} (he : eqOp P op t = some e) (h : eqV (isC x || isC y) e u v = some b)
    (hx : g φ u = some X) (hy : g φ v = some Y) : (eqGuard op t x y X Y).run P w = .ok () w := by
  have hna := eqV_na h
  have hop : op = .eql ∨ op = .neq := by unfold eqOp at he; split at he <;> simp_all
  have key : ∀ o : BinOp, (o = .eql ∨ o = .neq) → eqGuard o t x y X Y = eqGuard .eql t x y X Y := by rintro o (rfl | rfl) <;> rfl
  rw [key op hop]
  simp only [eqGuard, Bool.not_true, Bool.false_eq_true, if_false]
  · split
    · have := g_is_nil hna.1 hx; subst this
      have := g_is_nil hna.2 hy; subst this
      have hl : (isC x || isC y) = true := by
        cases hl : (isC x || isC y) with
        | true => rfl
        | false => rw [hl] at h; cases e <;> simp [eqV, eqLf] at h
      clear h key he
      revert hl
      cases x <;> cases y <;> simp [isC]
    · obtain ⟨l, rfl⟩ := g_is_agg hna.1 hx
      obtain ⟨m, rfl⟩ := g_is_agg hna.2 hy
      have hg : P.eqGuardType P.depth t = false := by
        cases hg : P.eqGuardType P.depth t with
        | false => rfl
        | true =>
          exfalso
          have : ∃ ls, e = .agg ls := by
            cases e with
            | agg ls => exact ⟨ls, rfl⟩
            | leaf l => cases l <;> simp [eqV, eqLf] at h
            | _ => simp [eqV] at h
          obtain ⟨ls, rfl⟩ := this
          have he' : (match P.underlying t with
            | some (.struct _) | some (.array _ _) => bif P.eqGuardType P.depth t then none else eqK P t
            | _ => eqK P t) = some (EqK.agg ls) := by rcases hop with rfl | rfl <;> exact he
          split at he'
          · simp [hg] at he'
          · simp [hg] at he'
          · rename_i h1 h2
            unfold eqK at he'
            split at he' <;> first | (simp at he'; done) | skip
            · rename_i hu; exact h1 _ hu
            · rename_i hu; exact h2 _ _ hu
      simp [hg]
    · rfl

theorem binOp_eq {lit : Bool} {e : EqK} {u v : AV} {b : Bool} {X Y : Value} (t : TypeId) (h : eqV lit e u v = some b) (hx : g φ u = some X) (hy : g φ v = some Y)
    (n1 : ∀ k a k' b, u = .int k a → v = .int k' b → False) (n2 : ∀ a b, u = .flt .f64 a → v = .flt .f64 b → False) (n3 : ∀ a b, u = .str a → v = .str b → False) :
    binOp .eql t X Y = (do pure (.bool (← Op.equal t X Y)) : Sem Value) ∧ binOp .neq t X Y = (do pure (.bool (!(← Op.equal t X Y))) : Sem Value) := by
  unfold eqV at h
  split at h
  · unfold eqLf at h
    split at h
    · have := g_bool hx; subst this; have := g_bool hy; subst this; exact ⟨rfl, rfl⟩
    · exact (n1 _ _ _ _ rfl rfl).elim
    · exact (n3 _ _ rfl rfl).elim
    · exact (n2 _ _ rfl rfl).elim
    · simp at h
  · obtain ⟨A, _, rfl⟩ := g_agg hx; obtain ⟨B, _, rfl⟩ := g_agg hy; exact ⟨rfl, rfl⟩
  · have := g_ptrN hx; subst this; obtain ⟨B, rfl, _⟩ := g_ptrO hy; cases B <;> exact ⟨rfl, rfl⟩
  · obtain ⟨A, _, rfl⟩ := g_ptr hx; have := g_ptrN hy; subst this; exact ⟨rfl, rfl⟩
  · have := g_nilIfc hx; subst this; have := g_nilIfc hy; subst this; exact ⟨rfl, rfl⟩
  · have := g_nilIfc hx; subst this; obtain ⟨_, _, rfl⟩ := g_ifc hy; exact ⟨rfl, rfl⟩
  · have := g_nilIfc hy; subst this; obtain ⟨_, _, rfl⟩ := g_ifc hx; exact ⟨rfl, rfl⟩
  · obtain ⟨A, m, rfl, _⟩ := g_slcO hx; obtain ⟨B, m', rfl, _⟩ := g_slcO hy; exact ⟨rfl, rfl⟩
  · obtain ⟨A, m, rfl, _⟩ := g_slcO hx; obtain ⟨B, m', rfl, _⟩ := g_slcO hy; exact ⟨rfl, rfl⟩
  · have := g_mapN hx; subst this; obtain ⟨B, rfl, _⟩ := g_mapO hy; exact ⟨rfl, rfl⟩
  · obtain ⟨A, _, rfl⟩ := g_mapS hx; have := g_mapN hy; subst this; exact ⟨rfl, rfl⟩
  · have := g_nilFn hx; subst this; have := g_nilFn hy; subst this; exact ⟨rfl, rfl⟩
  · have := g_nilFn hx; subst this; obtain ⟨_, _, _, _, rfl⟩ := g_fn hy; exact ⟨rfl, rfl⟩
  · have := g_nilFn hy; subst this; obtain ⟨_, _, _, _, rfl⟩ := g_fn hx; exact ⟨rfl, rfl⟩
  · simp at h

theorem aBin0_ok {op : BinOp} {t : TypeId} {x y : Operand} {u v r : AV} {X Y : Value} (h : aBin0 op (eqOp P op t) (isC x || isC y) u v = some r) (hx : g φ u = some X) (hy : g φ v = some Y) :
    ∃ R, g φ r = some R ∧ ((do eqGuard op t x y X Y; binOp op t X Y : Sem Value)).run P w = .ok R w := by
  have plain : (∀ w, (eqGuard op t x y X Y).run P w = .ok () w) → ((do eqGuard op t x y X Y; binOp op t X Y : Sem Value)).run P w = (binOp op t X Y).run P w := by
    intro hp; simp [Sem.run_bind, hp]
  unfold aBin0 at h
  split at h
  · rename_i k a k' b
    have := g_int hx; subst this
    have := g_int hy; subst this
    rw [plain (by intro w; unfold eqGuard; split <;> rfl)]
    split at h
    · exact aShift_ok h t
    · exact aShift_ok h t
    · rw [kEq_eq] at h
      by_cases hk : k = k'
      · subst hk
        simp only [decide_true, cond_true] at h
        exact aInt_ok h t
      · simp [hk] at h
  · rename_i a b
    have := g_flt hx; subst this
    have := g_flt hy; subst this
    rw [plain (by intro w; unfold eqGuard; split <;> rfl)]
    exact aFlt_ok h t
  · rename_i a b
    have := g_str hx; subst this
    have := g_str hy; subst this
    rw [plain (by intro w; unfold eqGuard; split <;> rfl)]
    exact aStr_ok h t
  · rename_i hn1 hn2 hn3
    have both : ∀ {e : EqK} {b : Bool}, eqOp P op t = some e → eqV (isC x || isC y) e u v = some b → (∀ w, (eqGuard op t x y X Y).run P w = .ok () w) ∧ (∀ w, (Op.equal t X Y).run P w = .ok b w) := by
      intro e b he hb
      refine ⟨fun w => eqGuard_ok he hb hx hy, fun w => ?_⟩
      have : eqK P t = some e := by
        unfold eqOp at he
        split at he
        · split at he
          · cases hg : P.eqGuardType P.depth t <;> simp [hg] at he; exact he
          · cases hg : P.eqGuardType P.depth t <;> simp [hg] at he; exact he
          · exact he
        · split at he
          · cases hg : P.eqGuardType P.depth t <;> simp [hg] at he; exact he
          · cases hg : P.eqGuardType P.depth t <;> simp [hg] at he; exact he
          · exact he
        · simp at he
      exact eqV_ok hb this hx hy
    split at h
    · rename_i e he
      simp only [Option.map_eq_some_iff] at h
      obtain ⟨b, hb, rfl⟩ := h
      obtain ⟨p1, p2⟩ := both he hb
      rw [plain p1]
      refine ⟨_, rfl, ?_⟩
      rw [(binOp_eq t hb hx hy hn1 hn2 hn3).1]
      simp [p2]
    · rename_i e he
      simp only [Option.map_eq_some_iff] at h
      obtain ⟨b, hb, rfl⟩ := h
      obtain ⟨p1, p2⟩ := both he hb
      rw [plain p1]
      refine ⟨_, rfl, ?_⟩
      rw [(binOp_eq t hb hx hy hn1 hn2 hn3).2]
      simp [p2]
    · simp at h
theorem g_sint {k : IntKind} {n : Int} {hs : List (Int × Int)} {X : Value} (h : g φ (.sint k n hs) = some X) : X = .int k n ∧ hintOk n hs = true := by
  simp only [g] at h
  split at h
  · rename_i hh; simp only [Option.some.injEq] at h; exact ⟨h.symm, hh⟩
  · cases h
theorem hintOf_ok {n m r : Int} : ∀ {hs : List (Int × Int)}, hintOf m hs = some r → hintOk n hs = true → hint1 n m r = true
  | [], h, _ => by cases h
  | (a, q) :: l, h, k => by
    simp only [hintOk, Bool.and_eq_true] at k
    simp only [hintOf, Bool.cond_eq_ite, iEq_eq] at h
    by_cases ha : a = m
    · simp [ha] at h; rw [← ha, ← h]; exact k.1
    · simp [ha] at h; exact hintOf_ok h k.2
theorem iLt_iff {a b : Int} : iLt a b = true ↔ a < b := by rw [iLt_eq]; simp
theorem hint_pos {n m r : Int} (hm : 0 < m) (h : hint1 n m r = true) : n.tmod m = r := by
  unfold hint1 at h; rw [if_pos hm] at h; simpa using h
theorem hint_neg {n m r : Int} (hm : 0 < m) (h : hint1 n (0 - m) r = true) : n % m = r := by
  unfold hint1 at h; rw [if_neg (by omega), if_pos (by omega)] at h
  have : n % (0 - m) = r := by simpa using h
  rwa [Int.zero_sub, Int.emod_neg] at this
theorem hint_bd {n r : Int} (h : hint1 n 0 r = true) : -r < n ∧ n < r := by
  unfold hint1 at h; rw [if_neg (by omega), if_neg (by omega)] at h; simpa using h
theorem tmod_bd (n : Int) {b : Int} (hb : 0 < b) : -b < n.tmod b ∧ n.tmod b < b := by
  have h1 := Int.tmod_lt_of_pos n hb
  have h2 := Int.lt_tmod_of_pos n hb
  omega
theorem tmod_emod (n b : Int) : n.tmod b % b = n % b := by
  have h := Int.mul_tdiv_add_tmod n b
  have : n.tmod b = n - b * n.tdiv b := by omega
  rw [this, Int.sub_mul_emod_self_left]
theorem sRem_ok {k : IntKind} {n b : Int} {hs : List (Int × Int)} {r : AV} (hok : hintOk n hs = true) (h : sRem k n b hs = some r) : b ≠ 0 ∧ g φ r = some (.int k (n.tmod b)) := by
  unfold sRem at h
  rw [Bool.cond_eq_ite] at h
  split at h
  · rename_i hb
    have hb := iLt_iff.1 hb
    refine ⟨by omega, ?_⟩
    split at h
    · rename_i q hq
      simp only [Option.some.injEq] at h; subst h
      simp only [g, hint_pos hb (hintOf_ok hq hok)]
    · split at h
      · rename_i e he
        simp only [Option.some.injEq] at h; subst h
        have h1 := hint_neg hb (hintOf_ok he hok)
        have h2 := tmod_bd n hb
        have h3 := tmod_emod n b
        have : hintOk (n.tmod b) [(0, b), (0 - b, e)] = true := by
          simp only [hintOk, hint1, Bool.and_true, Bool.and_eq_true]
          rw [if_neg (by omega), if_neg (by omega), if_neg (by omega), if_pos (by omega)]
          refine ⟨by simpa using h2, ?_⟩
          rw [Int.zero_sub, Int.emod_neg, h3, h1]; simp
        simp only [g, this, if_true]
      · cases h
  · cases h
theorem sAdd_ok {k : IntKind} {n b : Int} {hs : List (Int × Int)} {r : AV} (hok : hintOk n hs = true) (h : sAdd k n b hs = some r) : g φ r = some (.int k (k.wrap (n + b))) := by
  unfold sAdd at h
  rw [Bool.cond_eq_ite] at h
  split at h
  · rename_i hb
    simp only [Bool.and_eq_true, iLt_iff, kEq_eq, decide_eq_true_eq] at hb
    obtain ⟨rfl, hb1, hb2⟩ := hb
    split at h
    · rename_i q hq
      rw [Bool.cond_eq_ite] at h
      split at h
      · rename_i hqb
        rw [iEq_eq] at hqb
        have hqb : q = b := by simpa using hqb
        subst hqb
        split at h
        · rename_i e he
          simp only [Option.some.injEq] at h; subst h
          have h1 := hint_neg hb1 (hintOf_ok he hok)
          have h2 := hint_bd (hintOf_ok hq hok)
          have hw : IntKind.wrap .i64 (n + q) = n + q := by
            simp [IntKind.wrap, IntKind.bits, IntKind.signed]
            omega
          have : hintOk (n + q) [(q, e)] = true := by
            simp only [hintOk, hint1, Bool.and_true]
            rw [if_pos hb1, Int.tmod_eq_emod_of_nonneg (by omega), Int.add_emod_right, h1]; simp
          simp only [g, this, if_true, hw]
        · cases h
      · cases h
    · cases h
  · cases h
theorem bitsOk_drop : ∀ (m : Nat) {n : Nat} {bs : List Bool}, m ≤ bs.length → bitsOk n bs = true → bitsOk (n / 2 ^ m) (bs.drop m) = true
  | 0, n, bs, _, h => by simpa using h
  | m + 1, n, [], hm, _ => by simp at hm
  | m + 1, n, b :: bs, hm, h => by
    simp only [bitsOk, Bool.and_eq_true] at h
    have := bitsOk_drop m (n := n / 2) (bs := bs) (by simpa using hm) h.2
    rw [List.drop_succ_cons, Nat.pow_succ, Nat.mul_comm, ← Nat.div_div_eq_div_mul]
    exact this
theorem g_sbit {n : Nat} {bs : List Bool} {X : Value} (h : g φ (.sbit n bs) = some X) : X = .int .u64 n ∧ bitsOk n bs = true := by
  simp only [g] at h
  split at h
  · rename_i hh; simp only [Option.some.injEq] at h; exact ⟨h.symm, hh⟩
  · cases h
theorem and_one (n : Nat) : IntKind.wrap .u64 ((BitVec.ofInt (IntKind.bits .u64) (n : Int) &&& BitVec.ofInt (IntKind.bits .u64) ((1 : Nat) : Int)).toNat : Int) = ((n % 2 : Nat) : Int) := by
  have h64 : IntKind.bits .u64 = 64 := rfl
  simp only [h64, BitVec.ofInt_natCast, BitVec.toNat_and, BitVec.toNat_ofNat]
  have e : (n % 2 ^ 64 &&& 1 % 2 ^ 64) = n % 2 := by
    rw [show (1 % 2 ^ 64 : Nat) = 1 from rfl, Nat.and_one_is_mod]; omega
  rw [e]
  simp [IntKind.wrap, IntKind.bits, IntKind.signed]
  omega
theorem g_sflt {i : Nat} {hs : List (Nat × Nat × BinOp × Bool)} {X : Value} (h : g φ (.sflt i hs) = some X) : X = .float .f64 (Sy.flt i) ∧ fHintOk (Sy.flt i) hs = true := by
  simp only [g] at h
  split at h
  · rename_i hh; simp only [Option.some.injEq] at h; exact ⟨h.symm, hh⟩
  · cases h
theorem opNum_inj {a b : BinOp} (h : opNum a = opNum b) (h1 : 1 ≤ opNum b) : a = b := by
  cases a <;> cases b <;> first | rfl | (simp [opNum] at h h1)
theorem fHintOf_ok {n k c : Nat} {op : BinOp} {q : Nat × Bool} : ∀ {hs : List (Nat × Nat × BinOp × Bool)}, fHintOf k c op hs = some q → fHintOk n hs = true → ∃ o, fHint1 n k q.1 o q.2 = true ∧ (k < 2 → q.1 = c) ∧ (k ≠ 3 → o = op)
  | [], h, _ => by cases h
  | (k', c', o, b) :: l, h, e => by
    simp only [fHintOk, Bool.and_eq_true] at e
    simp only [fHintOf, Bool.cond_eq_ite] at h
    split at h
    · rename_i hb
      simp only [Bool.and_eq_true, Bool.or_eq_true, Nat.beq_eq, Nat.ble_eq] at hb
      obtain ⟨⟨rfl, hb⟩, hc⟩ := hb
      simp only [Option.some.injEq] at h; subst h
      refine ⟨o, e.1, fun hk => ?_, fun hk => ?_⟩
      · rcases hb with hb | hb
        · omega
        · exact hb
      · rcases hc with hc | hc
        · exact (hk hc).elim
        · exact opNum_inj hc.1 hc.2
    · exact fHintOf_ok h e.2
theorem ordB_flt {op : BinOp} {x y : Nat} {b : Bool} (h : ordB op (FloatKind.f64.format.order x y) = some b) : aFlt op x y = some (.bool b) := by
  cases op <;> simp only [ordB] at h <;> cases h <;> rfl
theorem ordB_bin {op : BinOp} {e : Option EqK} {l : Bool} {x y : Nat} {b : Bool} (h : ordB op (FloatKind.f64.format.order x y) = some b) : aBin0 op e l (.flt .f64 x) (.flt .f64 y) = some (.bool b) := by
  have := ordB_flt h
  cases op <;> first | exact this | cases h
theorem sCmp_ok {n k c : Nat} {op : BinOp} {hs : List (Nat × Nat × BinOp × Bool)} {r : AV} (h : sCmp k c op hs = some r) (hok : fHintOk n hs = true) (hk : k ≠ 3) : ∃ c' b, r = .bool b ∧ fHint1 n k c' op b = true ∧ (k < 2 → c' = c) := by
  unfold sCmp at h
  split at h
  · rename_i c' b hq
    simp only [Option.some.injEq] at h; subst h
    obtain ⟨o, h1, h2, h3⟩ := fHintOf_ok hq hok
    rw [h3 hk] at h1
    exact ⟨c', b, rfl, h1, h2⟩
  · cases h
theorem aBin_ok {op : BinOp} {t : TypeId} {x y : Operand} {u v r : AV} {X Y : Value} (h : aBin op (eqOp P op t) (isC x || isC y) u v = some r) (hx : g φ u = some X) (hy : g φ v = some Y) :
    ∃ R, g φ r = some R ∧ ((do eqGuard op t x y X Y; binOp op t X Y : Sem Value)).run P w = .ok R w := by
  unfold aBin at h
  split at h
  · rename_i i hs c
    obtain ⟨rfl, hok⟩ := g_sflt hx
    obtain ⟨c', b, rfl, h1, h2⟩ := sCmp_ok h hok (by decide)
    simp only [fHint1, decide_eq_true_eq] at h1
    rw [h2 (by decide)] at h1
    exact aBin0_ok (u := .flt .f64 (Sy.flt i)) (v := .flt .f64 c) (ordB_bin h1) rfl hy
  · rename_i c j hs
    obtain ⟨rfl, hok⟩ := g_sflt hy
    obtain ⟨c', b, rfl, h1, h2⟩ := sCmp_ok h hok (by decide)
    simp only [fHint1, decide_eq_true_eq] at h1
    rw [h2 (by decide)] at h1
    exact aBin0_ok (u := .flt .f64 c) (v := .flt .f64 (Sy.flt j)) (ordB_bin h1) hx rfl
  · rename_i i hs j hs'
    obtain ⟨rfl, hok⟩ := g_sflt hx
    obtain ⟨rfl, _⟩ := g_sflt hy
    rw [Bool.cond_eq_ite] at h
    split at h
    · rename_i hij
      have hij := Nat.eq_of_beq_eq_true hij
      subst hij
      split at h
      · split at h
        · rename_i c b hq
          obtain ⟨o, h1, _⟩ := fHintOf_ok hq hok
          simp only [fHint1, decide_eq_true_eq] at h1
          refine aBin0_ok (u := .flt .f64 (Sy.flt i)) (v := .flt .f64 (Sy.flt i)) ?_ rfl rfl
          rw [← h]
          simp only [aBin0, aFlt, h1, Option.map_some]
        · cases h
      · obtain ⟨c', b, rfl, h1, h2⟩ := sCmp_ok h hok (by decide)
        simp only [fHint1, decide_eq_true_eq] at h1
        exact aBin0_ok (u := .flt .f64 (Sy.flt i)) (v := .flt .f64 (Sy.flt i)) (ordB_bin h1) rfl rfl
    · cases h
  · rename_i k n hs k' b
    split at h
    · obtain ⟨rfl, hok⟩ := g_sint hx
      rw [kEq_eq] at h
      by_cases hk : k = k'
      · subst hk
        simp only [decide_true, cond_true] at h
        obtain ⟨hb, hr⟩ := sRem_ok (φ := φ) hok h
        have hb0 : iEq b 0 = false := by rw [iEq_eq]; simpa using hb
        have := aBin0_ok (φ := φ) (P := P) (w := w) (op := .rem) (t := t) (x := x) (y := y) (u := .int k n) (v := .int k b) (r := .int k (n.tmod b)) (by
          unfold aBin0
          simp only [kEq_eq, decide_true, cond_true, aInt, hb0, cond_false]) rfl hy
        obtain ⟨R, h1, h2⟩ := this
        simp only [g, Option.some.injEq] at h1; subst h1
        exact ⟨_, hr, h2⟩
      · simp [hk] at h
    · obtain ⟨rfl, hok⟩ := g_sint hx
      rw [kEq_eq] at h
      by_cases hk : k = k'
      · subst hk
        simp only [decide_true, cond_true] at h
        have hr := sAdd_ok (φ := φ) hok h
        have := aBin0_ok (φ := φ) (P := P) (w := w) (op := .add) (t := t) (x := x) (y := y) (u := .int k n) (v := .int k b) (r := .int k (wr k (n + b))) (by
          unfold aBin0
          simp only [kEq_eq, decide_true, cond_true, aInt]) rfl hy
        obtain ⟨R, h1, h2⟩ := this
        simp only [g, Option.some.injEq] at h1; subst h1
        rw [wr_eq] at h2
        exact ⟨_, hr, h2⟩
      · simp [hk] at h
    · cases h
  · rename_i i j
    simp only [g, Option.some.injEq] at hx hy
    subst hx; subst hy
    split at h
    · rw [Bool.cond_eq_ite] at h
      split at h
      · rename_i hij
        have hij := Nat.eq_of_beq_eq_true hij
        subst hij
        refine aBin0_ok (u := .str (BS.ofList (Sy.str i))) (v := .str (BS.ofList (Sy.str i))) ?_ (by simp only [g, BS.ofList_list]) (by simp only [g, BS.ofList_list])
        rw [← h]
        simp [aBin0, aStr, BS.eq_beq]
      · cases h
    · rw [Bool.cond_eq_ite] at h
      split at h
      · rename_i hij
        have hij := Nat.eq_of_beq_eq_true hij
        subst hij
        refine aBin0_ok (u := .str (BS.ofList (Sy.str i))) (v := .str (BS.ofList (Sy.str i))) ?_ (by simp only [g, BS.ofList_list]) (by simp only [g, BS.ofList_list])
        rw [← h]
        simp [aBin0, aStr, BS.eq_beq]
      · cases h
    · cases h
  · rename_i n bs k' m
    obtain ⟨rfl, hok⟩ := g_sbit hx
    split at h
    · rw [Bool.cond_eq_ite] at h
      split at h
      · rename_i hm
        simp only [Bool.and_eq_true, Nat.ble_eq] at hm
        simp only [Option.some.injEq] at h; subst h
        have hb := bitsOk_drop m hm.1 hok
        have key : aBin0 .shr (eqOp P .shr t) (isC x || isC y) (.int .u64 (n : Int)) (.int k' (.ofNat m)) = some (.int .u64 ((n / 2 ^ m : Nat) : Int)) := by
          have e1 : ((2 : Int) ^ (min m (IntKind.bits .u64))) = ((2 ^ m : Nat) : Int) := by
            rw [show min m (IntKind.bits .u64) = m from Nat.min_eq_left hm.2]; simp
          simp only [aBin0, aShift, e1]
          rw [Int.fdiv_eq_ediv_of_nonneg _ (Int.natCast_nonneg _), ← Int.natCast_ediv]
        obtain ⟨R, hR, hrun⟩ := aBin0_ok (P := P) (w := w) key rfl hy
        refine ⟨R, ?_, hrun⟩
        simp only [g, hb, if_true]
        simpa [g] using hR
      · cases h
    · rw [Bool.cond_eq_ite] at h
      split at h
      · rename_i hm
        simp only [Bool.and_eq_true, Nat.beq_eq, kEq_eq, decide_eq_true_eq] at hm
        obtain ⟨rfl, rfl⟩ := hm
        split at h
        · rename_i b l
          simp only [Option.some.injEq] at h; subst h
          simp only [bitsOk, Bool.and_eq_true, decide_eq_true_eq] at hok
          refine aBin0_ok (u := .int .u64 (n : Int)) (v := .int .u64 (.ofNat 1)) ?_ rfl hy
          have e2 := and_one n
          have e3 : kEq .u64 .u64 = true := rfl
          simp only [aBin0, e3, cond_true, aInt]
          congr 2
          refine Eq.trans e2 ?_
          rw [hok.1]; cases b <;> rfl
        · cases h
      · cases h
    · cases h
  · exact aBin0_ok h hx hy

end
end Ax
namespace Ax
open Go
variable [Sy]

section
variable {P : Program} {φ : Mp} {w : World}

/-- Laid over, of any kind. -/
noncomputable def layG {α : Type} (cs : List α) (off : Nat) (xs : List α) : List α := cs.take off ++ (xs ++ cs.drop (off + xs.length))

theorem layG_get {α : Type} (cs : List α) (off : Nat) (xs : List α) (h : off + xs.length ≤ cs.length) (i : Nat) :
    (layG cs off xs)[i]? = if i < off then cs[i]? else if i < off + xs.length then xs[i - off]? else cs[i]? := by
  unfold layG
  have hl : (cs.take off).length = off := by rw [List.length_take]; omega
  by_cases h1 : i < off
  · rw [if_pos h1, List.getElem?_append_left (by omega), List.getElem?_take_of_lt h1]
  · rw [if_neg h1, List.getElem?_append_right (by omega), hl]
    by_cases h2 : i < off + xs.length
    · rw [if_pos h2, List.getElem?_append_left (by omega)]
    · rw [if_neg h2, List.getElem?_append_right (by omega), List.getElem?_drop]
      congr 1; omega

theorem layG_length {α : Type} (cs : List α) (off : Nat) (xs : List α) (h : off + xs.length ≤ cs.length) : (layG cs off xs).length = cs.length := by
  unfold layG
  rw [List.length_append, List.length_append, List.length_take, List.length_drop]; omega

theorem layG_cons {α : Type} (cs : List α) (off : Nat) (x : α) (xs : List α) (h : off + (xs.length + 1) ≤ cs.length) : layG (cs.set off x) (off + 1) xs = layG cs off (x :: xs) := by
  apply List.ext_getElem?
  intro i
  rw [layG_get _ _ _ (by rw [List.length_set]; omega), layG_get _ _ _ (by simpa using h)]
  simp only [List.length_cons]
  by_cases h1 : i < off
  · rw [if_pos (by omega), if_pos h1, List.getElem?_set_ne (by omega)]
  · by_cases h2 : i = off
    · subst h2
      rw [if_pos (by omega), if_neg h1, if_pos (by omega)]
      rw [List.getElem?_set_self (by omega)]; simp
    · rw [if_neg (by omega), if_neg h1]
      by_cases h3 : i < off + 1 + xs.length
      · rw [if_pos h3, if_pos (by omega)]
        obtain ⟨k, rfl⟩ : ∃ k, i = off + (k + 1) := ⟨i - off - 1, by omega⟩
        rw [show off + (k + 1) - (off + 1) = k by omega, show off + (k + 1) - off = k + 1 by omega]; simp
      · rw [if_neg h3, if_neg (by omega), List.getElem?_set_ne (by omega)]

theorem layG_nil {α : Type} (cs : List α) (off : Nat) : layG cs off [] = cs := by simp [layG]

theorem fold_lay (off : Nat) : ∀ (xs : List Value) (n : Nat) (cells : Array Value), off + n + xs.length ≤ cells.size →
    ((xs.zipIdx n).foldl (fun (cs : Array Value) (p : Value × Nat) => cs.setIfInBounds (off + p.2) p.1) cells).toList = layG cells.toList (off + n) xs
  | [], n, cells, _ => by simp [layG_nil]
  | x :: xs, n, cells, h => by
    simp only [List.length_cons] at h
    simp only [List.zipIdx_cons, List.foldl_cons]
    rw [fold_lay off xs (n + 1) _ (by simp; omega)]
    rw [Array.toList_setIfInBounds, ← layG_cons _ _ _ _ (by simpa using h)]
    rw [show off + (n + 1) = off + n + 1 by omega]

theorem gL_lay {cs : List AV} {xs : List AV} {CS XS : List Value} (off : Nat) (h1 : gL φ cs = some CS) (h2 : gL φ xs = some XS) : gL φ (lay cs off xs) = some (layG CS off XS) := by
  unfold lay layG
  rw [← gL_length h2]
  exact gL_append (gL_take _ h1) (gL_append h2 (gL_drop _ h1))

theorem aFill_ok {fr : T AV} {a : Act} (hF : FR φ fr a) {place : Nat → Option (Nat × Nat)} : ∀ {l : List (Nat × Operand)} {parts : List (Nat × Nat × Od)} {cs r : List AV} {CS : Array Value},
    cParts place l = some parts → aFill (Od.rd fr) parts cs = some r → gL φ cs = some CS.toList →
    ∃ R : Array Value, gL φ r = some R.toList ∧ Instr.fill place CS (l.map fun p => (p.1, a.eval p.2)) = some R
  | [], parts, cs, r, CS, hp, h, hc => by
    simp only [cParts, Option.some.injEq] at hp; subst hp
    simp only [aFill, Option.some.injEq] at h; subst h
    exact ⟨CS, hc, by simp [Instr.fill]⟩
  | (i, o) :: l, parts, cs, r, CS, hp, h, hc => by
    unfold cParts at hp
    split at hp
    · rename_i off n d rest h1 h2 h3
      simp only [Option.some.injEq] at hp; subst hp
      have hv := rd_ok hF h2
      simp only [aFill] at h
      cases hany : (d.rd fr).isAny with
      | true => rw [hany] at h; simp at h
      | false =>
      rw [hany] at h
      have hvc := g_cells hany hv
      simp only [cond_false] at h
      cases hb : (Nat.beq (d.rd fr).cells.length n && Nat.ble (off + n) cs.length) with
      | false => simp [hb] at h
      | true =>
        simp only [hb, cond_true] at h
        simp only [Bool.and_eq_true, Nat.beq_eq, Nat.ble_eq] at hb
        have l1 := gL_length hvc
        have l2 := gL_length hc
        have hsz : (a.eval o).cells.size = n := by rw [← Array.length_toList, l1]; exact hb.1
        have hle : off + (a.eval o).cells.size ≤ CS.size := by rw [hsz, ← Array.length_toList, l2]; exact hb.2
        simp only [List.map_cons, Instr.fill, h1]
        have hcond : (decide ((a.eval o).cells.size ≠ n) || decide (off + (a.eval o).cells.size > CS.size)) = false := by simp [hsz]; omega
        simp only [hcond, Bool.false_eq_true, if_false]
        have hfold := fold_lay off (a.eval o).cells.toList 0 CS (by simpa using hle)
        have hg := gL_lay (φ := φ) off hc hvc
        refine aFill_ok hF h3 h (CS := ?_) ?_
        rw [hg]
        congr 1
        rw [Nat.add_zero] at hfold
        rw [← hfold, ← Array.foldl_toList, Array.toList_zipIdx]
    · simp at hp

/-- An operand that may be left out. -/
noncomputable def RO' (φ : Mp) : Option AV → Option Value → Prop
  | none, none => True
  | some v, some x => g φ v = some x
  | _, _ => False

theorem opt_ok {fr : T AV} {a : Act} (hF : FR φ fr a) {o : Option Operand} {d : Option Od} (h : cOpt o = some d) : RO' φ (rdO fr Od.rd d) (o.map a.eval) := by
  cases o with
  | none => simp only [cOpt, Option.some.injEq] at h; subst h; trivial
  | some o =>
    simp only [cOpt, Option.map_eq_some_iff] at h
    obtain ⟨d, hd, rfl⟩ := h
    exact rd_ok hF hd

theorem toNat_ok {v : AV} {n : Nat} {x : Value} (h : toNat? v = some n) (hx : g φ v = some x) : ∃ k, x = .int k n := by
  unfold toNat? at h
  split at h
  · simp only [Option.some.injEq] at h; subst h
    exact ⟨_, g_int hx⟩
  · simp at h

theorem bound_ok {v : AV} {n y : Nat} {x : Value} (h : toNat? v = some n) (hx : g φ v = some x) (hy : n ≤ y) (c : BoundsCode) : (Instr.sliceBound x y c).run P w = .ok n w := by
  obtain ⟨k, rfl⟩ := toNat_ok h hx
  simp [Instr.sliceBound, asIntOf, hy]

theorem aBounds_ok {lo hi : Option AV} {LO HI : Option Value} {len cap l h : Nat} (hb : aBounds lo hi len cap = some (l, h)) (hlo : RO' φ lo LO) (hhi : RO' φ hi HI) (b : Bool) :
    (Instr.sliceBounds b len cap LO HI none).run P w = .ok (l, h, cap) w ∧ l ≤ h ∧ h ≤ cap := by
  unfold aBounds at hb
  split at hb
  · rename_i h' l' eh el
    cases hc : (Nat.ble h' cap && Nat.ble l' h') with
    | false => simp [hc] at hb
    | true =>
      simp only [hc, cond_true, Option.some.injEq, Prod.mk.injEq] at hb
      obtain ⟨rfl, rfl⟩ := hb
      simp only [Bool.and_eq_true, Nat.ble_eq] at hc
      refine ⟨?_, hc.2, hc.1⟩
      cases hi with
      | none =>
        cases HI with
        | some _ => exact hhi.elim
        | none =>
          simp only [Option.some.injEq] at eh; subst eh
          cases lo with
          | none =>
            cases LO with
            | some _ => exact hlo.elim
            | none => simp only [Option.some.injEq] at el; subst el; simp [Instr.sliceBounds]
          | some v =>
            cases LO with
            | none => exact hlo.elim
            | some x => simp [Instr.sliceBounds, bound_ok el hlo hc.2]
      | some u =>
        cases HI with
        | none => exact hhi.elim
        | some y =>
          cases lo with
          | none =>
            cases LO with
            | some _ => exact hlo.elim
            | none => simp only [Option.some.injEq] at el; subst el; simp [Instr.sliceBounds, bound_ok eh hhi hc.1]
          | some v =>
            cases LO with
            | none => exact hlo.elim
            | some x => simp [Instr.sliceBounds, bound_ok el hlo hc.2, bound_ok eh hhi hc.1]
  · simp at hb

/-- The parts of a struct, an array. -/
theorem aPart_ok {t : TypeId} {d : TypeDesc} (hu : P.underlying t = some d) {off : Nat} {cs : List AV} {v : AV} {CS : List Value} (h : aPart (isAggT P t) off (P.cellsOf t) cs = some v) (hc : gL φ cs = some CS) :
    ∃ x, g φ v = some x ∧ (part t CS.toArray off).run P w = .ok x w := by
  unfold aPart at h
  simp only [part, Sem.run_bind, run_isAgg' hu, Result.andThen_ok]
  cases ha : isAggT P t with
  | true =>
    simp only [ha, cond_true] at h
    cases hb : Nat.ble (off + P.cellsOf t) cs.length with
    | false => simp [hb] at h
    | true =>
      simp only [hb, cond_true, Option.some.injEq] at h; subst h
      refine ⟨_, by simp only [g, gL_take _ (gL_drop off hc), Option.map_some]; rfl, ?_⟩
      simp only [if_true, Sem.run_bind, run_sizeOf' hu, Result.andThen_ok, Sem.run_pure]
      congr 2
      simp [List.extract_eq_take_drop]
  | false =>
    simp only [ha, cond_false] at h
    obtain ⟨x, hx, hg⟩ := gL_get hc off v h
    refine ⟨x, hg, ?_⟩
    simp [hx]

theorem minL_ok {fr : T AV} {a : Act} (hF : FR φ fr a) : ∀ {l : List Operand} {ds : List Od} {x v : AV} {X : Value}, cOds l = some ds → minL (Od.rd fr) x ds = some v → g φ x = some X →
    ∃ V, g φ v = some V ∧ ((l.map a.eval).foldlM Builtin.min2 X).run P w = .ok V w
  | [], ds, x, v, X, hd, h, hx => by
    simp only [cOds, Option.some.injEq] at hd; subst hd
    simp only [minL, Option.some.injEq] at h; subst h
    exact ⟨X, hx, rfl⟩
  | o :: l, ds, x, v, X, hd, h, hx => by
    unfold cOds at hd
    split at hd
    · rename_i p q hp hq
      simp only [Option.some.injEq] at hd; subst hd
      cases x with
      | int k n =>
        have := g_int hx; subst this
        simp only [minL] at h
        split at h
        · rename_i k' b he
          have hb := rd_ok hF hp
          rw [he] at hb
          have hb := g_int hb
          simp only [List.map_cons, List.foldlM_cons, hb]
          have e : (Builtin.min2 (.int k n) (.int k' b)) = pure (.int k (if b < n then b else n)) := rfl
          rw [e]
          simp only [Sem.run_bind, Sem.run_pure, Result.andThen_ok]
          have : (if iLt b n = true then b else n) = (if b < n then b else n) := by rw [iLt_eq]; simp
          rw [this] at h
          exact minL_ok hF hq h (by simp [g])
        · simp at h
      | _ => simp [minL] at h
    · simp at hd

theorem maxL_ok {fr : T AV} {a : Act} (hF : FR φ fr a) : ∀ {l : List Operand} {ds : List Od} {x v : AV} {X : Value}, cOds l = some ds → maxL (Od.rd fr) x ds = some v → g φ x = some X →
    ∃ V, g φ v = some V ∧ ((l.map a.eval).foldlM Builtin.max2 X).run P w = .ok V w
  | [], ds, x, v, X, hd, h, hx => by
    simp only [cOds, Option.some.injEq] at hd; subst hd
    simp only [maxL, Option.some.injEq] at h; subst h
    exact ⟨X, hx, rfl⟩
  | o :: l, ds, x, v, X, hd, h, hx => by
    unfold cOds at hd
    split at hd
    · rename_i p q hp hq
      simp only [Option.some.injEq] at hd; subst hd
      cases x with
      | int k n =>
        have := g_int hx; subst this
        simp only [maxL] at h
        split at h
        · rename_i k' b he
          have hb := rd_ok hF hp
          rw [he] at hb
          have hb := g_int hb
          simp only [List.map_cons, List.foldlM_cons, hb]
          have e : (Builtin.max2 (.int k n) (.int k' b)) = pure (.int k (if b > n then b else n)) := rfl
          rw [e]
          simp only [Sem.run_bind, Sem.run_pure, Result.andThen_ok]
          have : (if iLt n b = true then b else n) = (if b > n then b else n) := by rw [iLt_eq]; simp
          rw [this] at h
          exact maxL_ok hF hq h (by simp [g])
        · simp at h
      | _ => simp [maxL] at h
    · simp at hd
end
end Ax
namespace Ax
open Go
variable [Sy]

section
variable {P : Program} {φ : Mp} {fr : T AV} {a : Act}

/-- An operation that needs no memory gives what the evaluator says, in every world. -/
noncomputable def PGives (P : Program) (φ : Mp) (a : Act) (o : Oper) (v : AV) : Prop := ∃ x, g φ v = some x ∧ ∀ w, (execOp a.eval o).run P w = .ok (.value x) w

theorem zeroOf_ok {t : TypeId} {z : AV} (h : zeroOf P t = some z) : ∃ i Z, P.info? t = some i ∧ i.zero = some Z ∧ ofV Z = some z := by
  unfold zeroOf at h
  split at h
  · rename_i i hi
    simp only [Option.bind_eq_some_iff] at h
    obtain ⟨Z, h1, h2⟩ := h
    exact ⟨i, Z, hi, h1, h2⟩
  · simp at h

theorem run_zero {t : TypeId} {z : AV} (h : zeroOf P t = some z) (φ : Mp) : ∃ Z, g φ z = some Z ∧ ∀ w, (zeroValue t).run P w = .ok Z w := by
  obtain ⟨i, Z, hi, hz, ho⟩ := zeroOf_ok h
  exact ⟨Z, ofV_ok ho, fun w => by simp [zeroValue, typeInfo, hi, hz]⟩
theorem zeroOf_na {t : TypeId} {z : AV} (h : zeroOf P t = some z) : z.isAny = false := not_any fun φ => by obtain ⟨Z, a, _⟩ := run_zero h φ; exact ⟨Z, a⟩

theorem okI_ok {t : TypeId} (h : okI P t = true) (w : World) : (Go.sizeOf t).run P w = .ok (P.cellsOf t) w := by
  unfold okI at h
  split at h
  · rename_i i hi; simp [Go.sizeOf, typeInfo, hi, Program.cellsOf]
  · simp at h
theorem okT_ok {t : TypeId} (h : okT P t = true) : ∃ d, P.underlying t = some d := by
  unfold okT at h
  split at h
  · rename_i d hd; exact ⟨d, hd⟩
  · simp at h

theorem run_mapM_list {α β : Type} (f : α → Sem β) (v : α → β) (w : World) : ∀ (l : List α), (∀ x ∈ l, (f x).run P w = .ok (v x) w) → (l.mapM f).run P w = .ok (l.map v) w
  | [], _ => rfl
  | x :: l, h => by
    simp only [List.mapM_cons, Sem.run_bind, h x (by simp), Result.andThen_ok, run_mapM_list f v w l (fun y hy => h y (by simp [hy]))]
    rfl

theorem mapM_places {fs : Array Field} (hall : fs.toList.all (fun f => okI P f.type) = true) (w : World) :
    (fs.mapM (fun f => do pure (f.offset, ← Go.sizeOf f.type)) : Sem (Array (Nat × Nat))).run P w = .ok (fs.map fun f => (f.offset, P.cellsOf f.type)) w := by
  rw [Array.mapM_eq_mapM_toList]
  simp only [Sem.run_map]
  rw [run_mapM_list _ (fun f => (f.offset, P.cellsOf f.type)) w]
  · simp only [Result.andThen_ok]
    congr 1
    apply Array.ext'; simp
  · intro f hf
    rw [List.all_eq_true] at hall
    simp [okI_ok (hall f hf) w]

theorem P_mov {o : Oper} {x : Operand} (ho : o.op = .move x ∨ o.op = .assign x) {q : PO} (hc : (cOd x).map (fun x => IOp.p (.mov x)) = some (.p q)) (hF : FR φ fr a) {v : AV} (hr : q.run fr = some v) : PGives P φ a o v := by
  simp only [Option.map_eq_some_iff, IOp.p.injEq] at hc
  obtain ⟨d, hd, rfl⟩ := hc
  simp only [PO.run, Option.some.injEq] at hr; subst hr
  refine ⟨_, rd_ok hF hd, fun w => ?_⟩
  rcases ho with ho | ho <;> simp [execOp, ho]

theorem P_pick {o : Oper} {c x y : Operand} (ho : o.op = .pick c x y) {q : PO} (hc : cOp0 P (.pick c x y) = some (.p q)) (hF : FR φ fr a) {v : AV} (hr : q.run fr = some v) : PGives P φ a o v := by
  simp only [cOp0] at hc
  split at hc
  · rename_i c' x' y' h1 h2 h3
    simp only [Option.some.injEq, IOp.p.injEq] at hc; subst hc
    simp only [PO.run] at hr
    split at hr
    · rename_i t ht
      simp only [Option.some.injEq] at hr; subst hr
      have e := rd_ok hF h1
      rw [ht] at e
      have e := g_bool e
      cases t
      · exact ⟨_, rd_ok hF h3, fun w => by simp [execOp, ho, e, asBool]⟩
      · exact ⟨_, rd_ok hF h2, fun w => by simp [execOp, ho, e, asBool]⟩
    · simp at hr
  · simp at hc

theorem P_nilck {o : Oper} {x : Operand} (ho : o.op = .nilCheck x) {q : PO} (hc : cOp0 P (.nilCheck x) = some (.p q)) (hF : FR φ fr a) {v : AV} (hr : q.run fr = some v) : PGives P φ a o v := by
  simp only [cOp0, Option.map_eq_some_iff, IOp.p.injEq] at hc
  obtain ⟨d, hd, rfl⟩ := hc
  have e := rd_ok hF hd
  simp only [PO.run] at hr
  split at hr
  · rename_i p hp
    simp only [Option.some.injEq] at hr; subst hr
    rw [hp] at e
    obtain ⟨A, hA, e'⟩ := g_ptr e
    exact ⟨_, e, fun w => by simp [execOp, ho, e']⟩
  · rename_i t u hp
    simp only [Option.some.injEq] at hr; subst hr
    rw [hp] at e
    obtain ⟨A, hA, e'⟩ := g_ifc e
    exact ⟨_, e, fun w => by simp [execOp, ho, e']⟩
  · rename_i f b c hp
    simp only [Option.some.injEq] at hr; subst hr
    rw [hp] at e
    obtain ⟨A, B, hA, hB, e'⟩ := g_fn e
    exact ⟨_, e, fun w => by simp [execOp, ho, e']⟩
  · simp at hr

theorem P_bin {o : Oper} {op : BinOp} {t u : TypeId} {x y : Operand} (ho : o.op = .binOp op t x y u) {q : PO} (hc : cOp0 P (.binOp op t x y u) = some (.p q)) (hF : FR φ fr a) {v : AV} (hr : q.run fr = some v) : PGives P φ a o v := by
  simp only [cOp0] at hc
  split at hc
  · rename_i x' y' h1 h2
    simp only [Option.some.injEq, IOp.p.injEq] at hc; subst hc
    simp only [PO.run] at hr
    have e1 := rd_ok hF h1
    have e2 := rd_ok hF h2
    have key := fun w => aBin_ok (P := P) (w := w) hr e1 e2
    obtain ⟨R, hR, _⟩ := key default
    refine ⟨R, hR, fun w => ?_⟩
    obtain ⟨R', hR', hrun⟩ := key w
    rw [hR] at hR'
    obtain rfl : R = R' := by simpa using hR'
    simp only [execOp, ho, Sem.run_bind]
    simp only [Sem.run_bind] at hrun
    rw [hrun]
    rfl
  · simp at hc

theorem P_un {o : Oper} {op : UnOp} {t : TypeId} {x : Operand} (ho : o.op = .unOp op t x) {q : PO} (hc : cOp0 P (.unOp op t x) = some (.p q)) (hF : FR φ fr a) {v : AV} (hr : q.run fr = some v) : PGives P φ a o v := by
  simp only [cOp0, Option.map_eq_some_iff, IOp.p.injEq] at hc
  obtain ⟨d, hd, rfl⟩ := hc
  simp only [PO.run] at hr
  have e := rd_ok hF hd
  have key := fun w => aUn_ok (P := P) (w := w) hr e
  obtain ⟨R, hR, _⟩ := key default
  refine ⟨R, hR, fun w => ?_⟩
  obtain ⟨R', hR', hrun⟩ := key w
  rw [hR] at hR'
  obtain rfl : R = R' := by simpa using hR'
  simp only [execOp, ho, Sem.run_bind, hrun]
  rfl

theorem P_convert {o : Oper} {s t : TypeId} {x : Operand} (ho : o.op = .convert s t x) {q : PO} (hc : cOp0 P (.convert s t x) = some (.p q)) (hF : FR φ fr a) {v : AV} (hr : q.run fr = some v) : PGives P φ a o v := by
  simp only [cOp0] at hc
  split at hc
  · rename_i x' k0 k h1 h2 h3
    simp only [Option.some.injEq, IOp.p.injEq] at hc; subst hc
    simp only [PO.run] at hr
    have e := rd_ok hF h1
    split at hr
    · rename_i k' n hn
      simp only [Option.some.injEq, wr_eq] at hr; subst hr
      rw [hn] at e
      have e := g_int e
      exact ⟨_, rfl, fun w => by simp [execOp, ho, convert, run_underlying h2, run_underlying h3, e, Conv.intToInt]⟩
    · simp at hr
  · rename_i x' k0 h1 h2 h3
    simp only [Option.some.injEq, IOp.p.injEq] at hc; subst hc
    simp only [PO.run] at hr
    have e := rd_ok hF h1
    split at hr
    · rename_i k' n hn
      simp only [Option.some.injEq] at hr; subst hr
      rw [hn] at e
      have e := g_int e
      exact ⟨_, rfl, fun w => by simp [execOp, ho, convert, run_underlying h2, run_underlying h3, e, Conv.intToFloat]⟩
    · simp at hr
  · rename_i x' h1 h2 h3
    simp only [Option.some.injEq, IOp.p.injEq] at hc; subst hc
    simp only [PO.run] at hr
    have e := rd_ok hF h1
    split at hr
    · rename_i n hn
      simp only [Option.some.injEq] at hr; subst hr
      rw [hn] at e
      have e' := g_str e
      exact ⟨_, e, fun w => by simp [execOp, ho, convert, run_underlying h2, run_underlying h3, e']⟩
    · simp at hr
  · split at hc <;> simp at hc
  · split at hc <;> simp at hc
  · split at hc
    · rw [Bool.cond_eq_ite] at hc; split at hc <;> simp at hc
    · simp at hc
  · simp at hc

theorem P_arr {o : Oper} {t : TypeId} {x : Operand} (ho : o.op = .sliceToArrayPointer t x) {q : PO} (hc : cOp0 P (.sliceToArrayPointer t x) = some (.p q)) (hF : FR φ fr a) {v : AV} (hr : q.run fr = some v) : PGives P φ a o v := by
  simp only [cOp0] at hc
  split at hc
  · rename_i x' n el h1 h2
    simp only [Option.some.injEq, IOp.p.injEq] at hc; subst hc
    simp only [PO.run] at hr
    have e := rd_ok hF h1
    split at hr
    · rename_i p len cap hp
      cases hb : Nat.ble n len with
      | false => simp [hb] at hr
      | true =>
        simp only [hb, cond_true, Option.some.injEq] at hr; subst hr
        rw [Nat.ble_eq] at hb
        rw [hp] at e
        obtain ⟨A, c, hA, e', _⟩ := g_slc e
        refine ⟨.pointer (some A), by simp [g, hA], fun w => ?_⟩
        have : ¬ len < n := by omega
        simp [execOp, ho, Instr.arrayAt, run_underlying h2, e', this]
    · simp at hr
  · simp at hc

theorem P_mkif {o : Oper} {t : TypeId} {x : Operand} (ho : o.op = .makeInterface t x) {q : PO} (hc : cOp0 P (.makeInterface t x) = some (.p q)) (hF : FR φ fr a) {v : AV} (hr : q.run fr = some v) : PGives P φ a o v := by
  simp only [cOp0] at hc
  split at hc
  · simp at hc
  · rename_i x' d hn h1 h2
    simp only [Option.some.injEq, IOp.p.injEq] at hc; subst hc
    simp only [PO.run, Option.some.injEq] at hr; subst hr
    have e := rd_ok hF h1
    refine ⟨.iface t (a.eval x), by simp [g, e], fun w => ?_⟩
    simp only [execOp, ho, Instr.makeInterface, Sem.run_bind, run_underlying h2, Result.andThen_ok]
    cases d with
    | interface ms => exact (hn ms rfl).elim
    | _ => rfl
  · simp at hc

theorem P_mkfn {o : Oper} {f : Fn} {l m : Array Operand} (ho : o.op = .makeFunc f l m) {q : PO} (hc : cOp0 P (.makeFunc f l m) = some (.p q)) (hF : FR φ fr a) {v : AV} (hr : q.run fr = some v) : PGives P φ a o v := by
  simp only [cOp0] at hc
  split at hc
  · rename_i d1 d2 h1 h2
    simp only [Option.some.injEq, IOp.p.injEq] at hc; subst hc
    simp only [PO.run, Option.some.injEq] at hr; subst hr
    have e1 := rds_ok hF h1
    have e2 := rds_ok hF h2
    refine ⟨.func f (l.map a.eval) (m.map a.eval), ?_, fun w => by simp [execOp, ho, Instr.makeFunc]⟩
    simp only [g, e1, e2, Option.map_some, Option.bind_some, Option.some.injEq, Value.func.injEq, true_and]
    constructor <;> (apply Array.ext'; simp)
  · simp at hc

theorem P_fadr {o : Oper} {t : TypeId} {x : Operand} {i : Nat} (ho : o.op = .fieldAddr t x i) {q : PO} (hc : cOp0 P (.fieldAddr t x i) = some (.p q)) (hF : FR φ fr a) {v : AV} (hr : q.run fr = some v) : PGives P φ a o v := by
  simp only [cOp0] at hc
  split at hc
  · rename_i x' fs h1 h2
    split at hc
    · rename_i fd hfd
      cases hz : Nat.beq (P.cellsOf fd.type) 0 with
      | true => simp [hz] at hc
      | false =>
        simp only [hz, cond_false, Option.some.injEq, IOp.p.injEq] at hc; subst hc
        have hz' : P.cellsOf fd.type ≠ 0 := by intro h; rw [h] at hz; simp at hz
        simp only [PO.run] at hr
        have e := rd_ok hF h1
        split at hr
        · rename_i p hp
          simp only [Option.some.injEq] at hr; subst hr
          rw [hp] at e
          obtain ⟨A, hA, e'⟩ := g_ptr e
          refine ⟨.pointer (some (A.add fd.offset)), by simp [g, gA_add _ hA], fun w => ?_⟩
          have hsz : ∀ w, (Go.sizeOf fd.type).run P w = .ok (P.cellsOf fd.type) w := by
            intro w
            cases hi : P.info? fd.type with
            | none => simp [Program.cellsOf, hi] at hz'
            | some i => simp [Go.sizeOf, typeInfo, hi, Program.cellsOf]
          simp only [execOp, ho, Instr.fieldAt, Sem.run_bind, run_underlying h2, Result.andThen_ok, hfd, e', Instr.sureAddr, Sem.run_pure, fieldPlace, hsz, hz', if_false]
        · simp at hr
    · simp at hc
  · simp at hc

theorem P_fld {o : Oper} {t : TypeId} {x : Operand} {i : Nat} (ho : o.op = .field t x i) {q : PO} (hc : cOp0 P (.field t x i) = some (.p q)) (hF : FR φ fr a) {v : AV} (hr : q.run fr = some v) : PGives P φ a o v := by
  simp only [cOp0] at hc
  split at hc
  · rename_i x' fs h1 h2
    split at hc
    · rename_i fd hfd
      cases ht : okT P fd.type with
      | false => simp [ht] at hc
      | true =>
      simp only [ht, cond_true, Option.some.injEq, IOp.p.injEq] at hc; subst hc
      simp only [PO.run] at hr
      have e := rd_ok hF h1
      split at hr
      · rename_i cs hp
        rw [hp] at e
        obtain ⟨CS, hCS, e'⟩ := g_agg e
        obtain ⟨d, hd⟩ := okT_ok ht
        have key := fun w => aPart_ok (P := P) (w := w) hd hr hCS
        obtain ⟨R, hR, _⟩ := key default
        refine ⟨R, hR, fun w => ?_⟩
        obtain ⟨R', hR', hrun⟩ := key w
        rw [hR] at hR'
        obtain rfl : R = R' := by simpa using hR'
        simp [execOp, ho, Instr.field, run_underlying h2, hfd, e', asAgg, hrun]
      · simp at hr
    · simp at hc
  · simp at hc

theorem P_extr {o : Oper} {x : Operand} {i : Nat} (ho : o.op = .extract x i) {q : PO} (hc : cOp0 P (.extract x i) = some (.p q)) (hF : FR φ fr a) {v : AV} (hr : q.run fr = some v) : PGives P φ a o v := by
  simp only [cOp0, Option.map_eq_some_iff, IOp.p.injEq] at hc
  obtain ⟨d, hd, rfl⟩ := hc
  simp only [PO.run] at hr
  have e := rd_ok hF hd
  split at hr
  · rename_i l hp
    rw [hp] at e
    obtain ⟨XS, hX, e'⟩ := g_tup e
    obtain ⟨y, hy, hg⟩ := gL_get hX i v hr
    exact ⟨y, hg, fun w => by simp [execOp, ho, Instr.extract, e', hy]⟩
  · simp at hr
end
end Ax
namespace Ax
open Go
variable [Sy]

section
variable {P : Program} {φ : Mp} {fr : T AV} {a : Act}

theorem P_build {o : Oper} {t : TypeId} {parts : Array (Nat × Operand)} (ho : o.op = .build t parts) {q : PO} (hc : cOp0 P (.build t parts) = some (.p q)) (hF : FR φ fr a) {v : AV} (hr : q.run fr = some v) : PGives P φ a o v := by
  simp only [cOp0] at hc
  split at hc
  · rename_i fs z hu hz
    cases hall : fs.toList.all (fun f => okI P f.type) with
    | false => simp [hall] at hc
    | true =>
      simp only [hall, cond_true, Option.map_eq_some_iff, IOp.p.injEq] at hc
      obtain ⟨l, hl, rfl⟩ := hc
      simp only [PO.run, Option.map_eq_some_iff] at hr
      obtain ⟨r, hr, rfl⟩ := hr
      obtain ⟨Z, hZ, hrun⟩ := run_zero hz φ
      obtain ⟨R, hR, hfill⟩ := aFill_ok hF hl hr (CS := Z.cells) (g_cells (zeroOf_na hz) hZ)
      refine ⟨.agg R, by simp [g, hR], fun w => ?_⟩
      simp only [execOp, ho, Instr.build, Sem.run_bind, hrun, Result.andThen_ok, run_underlying hu, mapM_places hall]
      have e : (fun (x : Nat) => (fs.map fun (f : Field) => (f.offset, P.cellsOf f.type))[x]?) = fun (i : Nat) => (fs[i]?).map fun (f : Field) => (f.offset, P.cellsOf f.type) := by
        funext i; simp
      rw [e]
      have e2 : (parts.map fun x => (x.1, a.eval x.2)).toList = parts.toList.map fun p => (p.1, a.eval p.2) := by simp
      rw [e2, hfill]
      rfl
  · rename_i n el z hu hz
    cases hall : okI P el with
    | false => simp [hall] at hc
    | true =>
      simp only [hall, cond_true, Option.map_eq_some_iff, IOp.p.injEq] at hc
      obtain ⟨l, hl, rfl⟩ := hc
      simp only [PO.run, Option.map_eq_some_iff] at hr
      obtain ⟨r, hr, rfl⟩ := hr
      obtain ⟨Z, hZ, hrun⟩ := run_zero hz φ
      obtain ⟨R, hR, hfill⟩ := aFill_ok hF hl hr (CS := Z.cells) (g_cells (zeroOf_na hz) hZ)
      refine ⟨.agg R, by simp [g, hR], fun w => ?_⟩
      simp only [execOp, ho, Instr.build, Sem.run_bind, hrun, Result.andThen_ok, run_underlying hu, okI_ok hall]
      have e2 : (parts.map fun x => (x.1, a.eval x.2)).toList = parts.toList.map fun p => (p.1, a.eval p.2) := by simp
      rw [e2, hfill]
      rfl
  · simp at hc

theorem str_extract (s : List UInt8) (l h : Nat) : (⟨s.toArray⟩ : ByteArray).extract l h = ⟨((s.take h).drop l).toArray⟩ := by
  apply ByteArray.ext
  simp [List.extract_eq_take_drop, List.drop_take]

theorem P_slice {o : Oper} {t : TypeId} {x : Operand} {lo hi mx : Option Operand} (ho : o.op = .slice t x lo hi mx) {q : PO} (hc : cOp0 P (.slice t x lo hi mx) = some (.p q)) (hF : FR φ fr a) {v : AV} (hr : q.run fr = some v) : PGives P φ a o v := by
  simp only [cOp0] at hc
  split at hc
  · rename_i x' lo' hi' h1 h2 h3 h4 hu
    obtain rfl : mx = none := by cases mx with
      | none => rfl
      | some m => simp [cOpt, Option.map_eq_some_iff] at h4
    simp only [Option.some.injEq, IOp.p.injEq] at hc; subst hc
    simp only [PO.run] at hr
    have e := rd_ok hF h1
    split at hr
    · rename_i s hs
      rw [hs] at e
      have e := g_str e
      split at hr
      · rename_i l h hb
        simp only [Option.some.injEq] at hr; subst hr
        have key := fun w => (aBounds_ok (P := P) (w := w) hb (opt_ok hF h2) (opt_ok hF h3) false).1
        refine ⟨_, rfl, fun w => ?_⟩
        have hsz : (⟨s.list.toArray⟩ : ByteArray).size = s.len := by simp [ByteArray.size, BS.list_len]
        simp only [execOp, ho, Instr.sliceAt, Instr.slice, Sem.run_bind, run_underlying hu, Result.andThen_ok, e, Option.map_none, Option.isSome_none, Bool.false_eq_true, if_false, hsz, key, str_extract, BS.drop_list, BS.take_list]
        rfl
      · simp at hr
    · simp at hr
  · rename_i x' lo' hi' n el h1 h2 h3 h4 hu
    obtain rfl : mx = none := by cases mx with
      | none => rfl
      | some m => simp [cOpt, Option.map_eq_some_iff] at h4
    cases hI : okI P el with
    | false => simp [hI] at hc
    | true =>
    simp only [hI, cond_true, Option.some.injEq, IOp.p.injEq] at hc; subst hc
    simp only [PO.run] at hr
    have e := rd_ok hF h1
    split at hr
    · rename_i p hs
      rw [hs] at e
      obtain ⟨A, hA, e⟩ := g_ptr e
      split at hr
      · rename_i l h hb
        simp only [Option.some.injEq] at hr; subst hr
        have key := fun w => (aBounds_ok (P := P) (w := w) hb (opt_ok hF h2) (opt_ok hF h3) false).1
        refine ⟨.slice (some (if n = l then A else A.add (l * P.cellsOf el))) (h - l) (n - l), ?_, fun w => ?_⟩
        · by_cases hn : n = l
          · subst hn; simp [g, hA]
          · have : Nat.beq n l = false := by rw [Bool.eq_false_iff]; intro hh; exact hn (Nat.eq_of_beq_eq_true hh)
            simp [g, this, hn, gA_add _ hA]
        · simp only [execOp, ho, Instr.sliceAt, Sem.run_bind, run_underlying hu, Result.andThen_ok, e, Instr.sureAddr, Sem.run_pure, Option.map_none, key, okI_ok hI]
      · simp at hr
    · simp at hr
  · rename_i el _ _ _ _ _
    cases hI : okI P el <;> simp [hI] at hc
  · rename_i x' lo' hi' arr h1 h2 h3 h4 hu
    obtain rfl : mx = none := by cases mx with
      | none => rfl
      | some m => simp [cOpt, Option.map_eq_some_iff] at h4
    split at hc
    · rename_i n el hu2
      cases hI : okI P el with
      | false => simp [hI] at hc
      | true =>
      simp only [hI, cond_true, Option.some.injEq, IOp.p.injEq] at hc; subst hc
      simp only [PO.run] at hr
      have e := rd_ok hF h1
      split at hr
      · rename_i p hs
        rw [hs] at e
        obtain ⟨A, hA, e⟩ := g_ptr e
        split at hr
        · rename_i l h hb
          simp only [Option.some.injEq] at hr; subst hr
          have key := fun w => (aBounds_ok (P := P) (w := w) hb (opt_ok hF h2) (opt_ok hF h3) false).1
          refine ⟨.slice (some (if n = l then A else A.add (l * P.cellsOf el))) (h - l) (n - l), ?_, fun w => ?_⟩
          · by_cases hn : n = l
            · subst hn; simp [g, hA]
            · have : Nat.beq n l = false := by rw [Bool.eq_false_iff]; intro hh; exact hn (Nat.eq_of_beq_eq_true hh)
              simp [g, this, hn, gA_add _ hA]
          · simp only [execOp, ho, Instr.sliceAt, Instr.slice, Sem.run_bind, run_underlying hu, run_underlying hu2, Result.andThen_ok, e, asAddr, Sem.run_pure, Option.map_none, key, okI_ok hI]
        · simp at hr
      · simp at hr
    · simp at hc
  · simp at hc

theorem P_ixa {o : Oper} {t : TypeId} {x ix : Operand} (ho : o.op = .indexAddr t x ix) {q : PO} (hc : cOp0 P (.indexAddr t x ix) = some (.p q)) (hF : FR φ fr a) {v : AV} (hr : q.run fr = some v) : PGives P φ a o v := by
  simp only [cOp0] at hc
  split at hc
  · rename_i x' i' len el h1 h2 hu
    cases hI : okI P el with
    | false => simp [hI] at hc
    | true =>
    simp only [hI, cond_true, Option.some.injEq, IOp.p.injEq] at hc; subst hc
    simp only [PO.run] at hr
    have e := rd_ok hF h1
    have ei := rd_ok hF h2
    split at hr
    · rename_i p k n hp hn
      rw [hp] at e; rw [hn] at ei
      obtain ⟨A, hA, e⟩ := g_ptr e
      have ei := g_int ei
      cases hb : Nat.blt n len with
      | false => simp [hb] at hr
      | true =>
        simp only [hb, cond_true, Option.some.injEq] at hr; subst hr
        rw [blt_iff] at hb
        refine ⟨.pointer (some (A.add (n * P.cellsOf el))), by simp [g, gA_add _ hA], fun w => ?_⟩
        have hlt : (0 : Int) ≤ Int.ofNat n ∧ (Int.ofNat n : Int) < len := by simp only [Int.ofNat_eq_natCast]; omega
        simp only [execOp, ho, Instr.indexAt, Sem.run_bind, run_underlying hu, Result.andThen_ok, e, ei, asIntOf, Sem.run_pure, Instr.sureAddr, hlt, and_self, if_true, okI_ok hI]
        rfl
    · simp at hr
  · rename_i x' i' el h1 h2 hu
    cases hI : okI P el with
    | false => simp [hI] at hc
    | true =>
    simp only [hI, cond_true, Option.some.injEq, IOp.p.injEq] at hc; subst hc
    simp only [PO.run] at hr
    have e := rd_ok hF h1
    have ei := rd_ok hF h2
    split at hr
    · rename_i p len cap k n hp hn
      rw [hp] at e; rw [hn] at ei
      obtain ⟨A, c, hA, e, _⟩ := g_slc e
      have ei := g_int ei
      cases hb : Nat.blt n len with
      | false => simp [hb] at hr
      | true =>
        simp only [hb, cond_true, Option.some.injEq] at hr; subst hr
        rw [blt_iff] at hb
        refine ⟨.pointer (some (A.add (n * P.cellsOf el))), by simp [g, gA_add _ hA], fun w => ?_⟩
        have hlt : (0 : Int) ≤ Int.ofNat n ∧ (Int.ofNat n : Int) < len := by simp only [Int.ofNat_eq_natCast]; omega
        simp only [execOp, ho, Instr.indexAt, Sem.run_bind, run_underlying hu, Result.andThen_ok, e, ei, asIntOf, Sem.run_pure, hlt, and_self, if_true, okI_ok hI]
        rfl
    · simp at hr
  · simp at hc

theorem P_ix {o : Oper} {t : TypeId} {x ix : Operand} (ho : o.op = .index t x ix) {q : PO} (hc : cOp0 P (.index t x ix) = some (.p q)) (hF : FR φ fr a) {v : AV} (hr : q.run fr = some v) : PGives P φ a o v := by
  simp only [cOp0] at hc
  split at hc
  · rename_i x' i' len el h1 h2 hu
    cases hI : okT P el with
    | false => simp [hI] at hc
    | true =>
    simp only [hI, cond_true, Option.some.injEq, IOp.p.injEq] at hc; subst hc
    simp only [PO.run] at hr
    have e := rd_ok hF h1
    have ei := rd_ok hF h2
    obtain ⟨d, hd⟩ := okT_ok hI
    split at hr
    · rename_i cs k n hp hn
      rw [hp] at e; rw [hn] at ei
      obtain ⟨CS, hCS, e⟩ := g_agg e
      have ei := g_int ei
      cases hb : Nat.blt n len with
      | false => simp [hb] at hr
      | true =>
        simp only [hb, cond_true] at hr
        rw [blt_iff] at hb
        have key := fun w => aPart_ok (P := P) (w := w) hd hr hCS
        obtain ⟨R, hR, _⟩ := key default
        refine ⟨R, hR, fun w => ?_⟩
        obtain ⟨R', hR', hrun⟩ := key w
        rw [hR] at hR'
        obtain rfl : R = R' := by simpa using hR'
        have hlt : (0 : Int) ≤ Int.ofNat n ∧ (Int.ofNat n : Int) < len := by simp only [Int.ofNat_eq_natCast]; omega
        have en : (Int.ofNat n).toNat = n := rfl
        simp only [execOp, ho, Instr.index, Sem.run_bind, run_underlying hu, Result.andThen_ok, e, ei, asIntOf, Sem.run_pure, hlt, and_self, if_true, run_sizeOf' hd, en, hrun]
    · simp at hr
  · rename_i x' i' h1 h2 hu
    simp only [Option.some.injEq, IOp.p.injEq] at hc; subst hc
    simp only [PO.run] at hr
    have e := rd_ok hF h1
    have ei := rd_ok hF h2
    split at hr
    · rename_i s k n hp hn
      rw [hp] at e; rw [hn] at ei
      have e := g_str e
      have ei := g_int ei
      rw [Bool.cond_eq_ite] at hr
      split at hr
      · rename_i hble
        have hln : n < s.len := Nat.le_of_ble_eq_true hble
        simp only [Option.some.injEq] at hr; subst hr
        refine ⟨_, rfl, fun w => ?_⟩
        have h0 : (0 : Int) ≤ Int.ofNat n := by simp only [Int.ofNat_eq_natCast]; omega
        have en : (Int.ofNat n).toNat = n := rfl
        obtain ⟨hlt, hbe⟩ := List.getElem?_eq_some_iff.1 (BS.get_list n s hln)
        have hget : (⟨s.list.toArray⟩ : ByteArray)[n]? = some (UInt8.ofNat (s.get n)) := by
          have hs : n < (⟨s.list.toArray⟩ : ByteArray).size := by simpa [ByteArray.size] using hlt
          rw [getElem?_pos (⟨s.list.toArray⟩ : ByteArray) n hs]
          congr 1
        have e8 : (UInt8.ofNat (s.get n)).toNat = s.get n := by have := BS.get_lt n s; simp; omega
        simp only [execOp, ho, Instr.index, Sem.run_bind, run_underlying hu, Result.andThen_ok, e, ei, asIntOf, Sem.run_pure, h0, if_true, en, hget, e8]
        first | done | rfl
      · simp at hr
    · simp at hr
  · simp at hc

theorem P_tas {o : Oper} {x : Operand} {t u : TypeId} {ok : Bool} (ho : o.op = .typeAssert x u t ok) {q : PO} (hc : cOp0 P (.typeAssert x u t ok) = some (.p q)) (hF : FR φ fr a) {v : AV} (hr : q.run fr = some v) : PGives P φ a o v := by
  simp only [cOp0] at hc
  split at hc
  · simp at hc
  · rename_i x' d z hn h1 h2 hz
    simp only [Option.some.injEq, IOp.p.injEq] at hc; subst hc
    simp only [PO.run] at hr
    have e := rd_ok hF h1
    obtain ⟨Z, hZ, hzr⟩ := run_zero hz φ
    have hni : ∀ ms, d ≠ .interface ms := fun ms he => hn ms he
    split at hr
    · rename_i u' y hp
      rw [hp] at e
      obtain ⟨Y, hY, e⟩ := g_ifc e
      cases hb : Nat.beq u' t with
      | true =>
        have hut : u' = t := Nat.eq_of_beq_eq_true hb
        simp only [hb, cond_true, Option.some.injEq] at hr; subst hr
        refine ⟨if ok then .tuple #[Y, .bool true] else Y, ?_, fun w => ?_⟩
        · cases ok <;> simp [g, gL, hY]
        · simp only [execOp, ho, Instr.typeAssert, Sem.run_bind, run_underlying h2, Result.andThen_ok, e]
          cases d <;> first | exact (hni _ rfl).elim | (cases ok <;> simp [hut])
      | false =>
        have hut : ¬ u' = t := by intro h; rw [h] at hb; simp at hb
        simp only [hb, cond_false] at hr
        cases ok with
        | false => simp at hr
        | true =>
          simp only [cond_true, Option.some.injEq] at hr; subst hr
          refine ⟨.tuple #[Z, .bool false], by simp [g, gL, hZ], fun w => ?_⟩
          simp only [execOp, ho, Instr.typeAssert, Sem.run_bind, run_underlying h2, Result.andThen_ok, e]
          cases d <;> first | exact (hni _ rfl).elim | simp [hut, hzr]
    · rename_i hp
      rw [hp] at e
      have e := g_nilIfc e
      cases ok with
      | false => simp at hr
      | true =>
        simp only [cond_true, Option.some.injEq] at hr; subst hr
        refine ⟨.tuple #[Z, .bool false], by simp [g, gL, hZ], fun w => ?_⟩
        simp only [execOp, ho, Instr.typeAssert, Sem.run_bind, run_underlying h2, Result.andThen_ok, e]
        cases d <;> first | exact (hni _ rfl).elim | simp [hzr]
    · simp at hr
  · simp at hc

theorem bsize (s : List UInt8) : (⟨s.toArray⟩ : ByteArray).size = s.length := by show s.toArray.size = _; simp

theorem run_builtin {o : Oper} {b : Builtin} {as : Array Operand} {tys : Array TypeId} (ho : o.op = .call { callee := .builtin b, args := as, argTypes := tys }) (a : Act) :
    ∃ cst : Array Bool, ∀ w, (execOp a.eval o).run P w = (builtin b tys o.type cst (as.map a.eval)).run P w := by
  refine ⟨(as.map fun x => isC x), fun w => ?_⟩
  have : (fun x : Operand => isC x) = fun x => match x with | .const _ => true | _ => false := by
    funext x; cases x <;> rfl
  rw [this]
  simp only [execOp, ho, resolve, Sem.run_bind, Sem.run_pure, Result.andThen_ok, invoke]
  rfl

theorem P_call {o : Oper} {c : Call} (ho : o.op = .call c) {q : PO} (hc : cOp0 P (.call c) = some (.p q)) (hF : FR φ fr a) {v : AV} (hr : q.run fr = some v) : PGives P φ a o v := by
  simp only [cOp0] at hc
  split at hc
  · rename_i args hargs
    obtain ⟨callee, as, tys⟩ := c
    dsimp only at hc hargs
    split at hc
    · rename_i f
      cases hf : isFn P f <;> simp [hf] at hc
    · simp [Option.map_eq_some_iff] at hc
    · rename_i b
      -- a builtin
      unfold cBuiltin at hc
      obtain ⟨cst, run0⟩ := run_builtin (P := P) ho a
      have hlen : ∀ {l : List Operand} {ds : List Od}, cOds l = some ds → l.length = ds.length := by
        intro l
        induction l with
        | nil => intro ds h; simp only [cOds, Option.some.injEq] at h; subst h; rfl
        | cons x l ih =>
          intro ds h
          unfold cOds at h
          split at h
          · simp only [Option.some.injEq] at h; subst h; simp [ih ‹_›]
          · simp at h
      have hl := hlen hargs
      split at hc
      · split at hc
        · split at hc
          · simp at hc
          · simp only [Bool.cond_eq_ite] at hc
            split at hc <;> simp at hc
        · simp at hc
      · split at hc
        · simp only [Bool.cond_eq_ite] at hc
          split at hc <;> simp at hc
        · simp at hc
      · -- len
        rename_i x'
        obtain ⟨x, rfl⟩ : ∃ x, as = #[x] := by
          obtain ⟨as⟩ := as
          simp only [List.length_cons, List.length_nil] at hl
          obtain ⟨x, rfl⟩ : ∃ x, as = [x] := List.length_eq_one_iff.1 hl
          exact ⟨x, rfl⟩
        have hx : cOd x = some x' := by
          unfold cOds at hargs
          split at hargs
          · rename_i p q hp hq
            simp only [Option.some.injEq, List.cons.injEq] at hargs
            rw [hp, hargs.1]
          · simp at hargs
        have e := rd_ok hF hx
        split at hc
        · rename_i hu
          simp only [Option.bind_eq_some_iff] at hu
          obtain ⟨t, ht, hu⟩ := hu
          simp only [Option.some.injEq, IOp.p.injEq] at hc; subst hc
          simp only [PO.run] at hr
          split at hr
          · rename_i s hs
            simp only [Option.some.injEq] at hr; subst hr
            rw [hs] at e
            have e := g_str e
            exact ⟨_, rfl, fun w => by rw [run0]; simp [builtin, Builtin.len_, ht, run_underlying hu, e, goInt, bsize, BS.list_len]⟩
          · simp at hr
        · rename_i el hu
          simp only [Option.bind_eq_some_iff] at hu
          obtain ⟨t, ht, hu⟩ := hu
          simp only [Option.some.injEq, IOp.p.injEq] at hc; subst hc
          simp only [PO.run] at hr
          split at hr
          · rename_i s n cap hs
            simp only [Option.some.injEq] at hr; subst hr
            rw [hs] at e
            have hn : ∃ A m, a.eval x = .slice A n m := by
              cases s with
              | none => cases cap with
                | u _ => simp [g] at e
                | k c => simp only [g, Option.some.injEq] at e; exact ⟨_, _, e.symm⟩
              | some s => obtain ⟨A', m', _, e', _⟩ := g_slc e; exact ⟨_, _, e'⟩
            obtain ⟨A', m', e'⟩ := hn
            exact ⟨_, rfl, fun w => by rw [run0]; simp [builtin, Builtin.len_, ht, run_underlying hu, e', goInt]⟩
          · simp at hr
        · rename_i n el hu
          simp only [Option.bind_eq_some_iff] at hu
          obtain ⟨t, ht, hu⟩ := hu
          simp only [Option.some.injEq, IOp.p.injEq] at hc; subst hc
          simp only [PO.run, Option.some.injEq] at hr; subst hr
          exact ⟨_, rfl, fun w => by rw [run0]; simp [builtin, Builtin.len_, ht, run_underlying hu, goInt]⟩
        · simp at hc
        · simp at hc
      · -- cap
        rename_i x'
        obtain ⟨x, rfl⟩ : ∃ x, as = #[x] := by
          obtain ⟨as⟩ := as
          simp only [List.length_cons, List.length_nil] at hl
          obtain ⟨x, rfl⟩ : ∃ x, as = [x] := List.length_eq_one_iff.1 hl
          exact ⟨x, rfl⟩
        have hx : cOd x = some x' := by
          unfold cOds at hargs
          split at hargs
          · rename_i p q hp hq
            simp only [Option.some.injEq, List.cons.injEq] at hargs
            rw [hp, hargs.1]
          · simp at hargs
        have e := rd_ok hF hx
        split at hc
        · rename_i el hu
          simp only [Option.bind_eq_some_iff] at hu
          obtain ⟨t, ht, hu⟩ := hu
          simp only [Option.some.injEq, IOp.p.injEq] at hc; subst hc
          simp only [PO.run] at hr
          split at hr
          · rename_i s n cap hs
            simp only [Option.some.injEq] at hr; subst hr
            rw [hs] at e
            have e' : ∃ A, a.eval x = .slice A n cap := by
              cases s with
              | none => simp only [g, Option.some.injEq] at e; exact ⟨_, e.symm⟩
              | some s => obtain ⟨A', _, e'⟩ := g_slcS e; exact ⟨_, e'⟩
            obtain ⟨A, e'⟩ := e'
            exact ⟨_, rfl, fun w => by rw [run0]; simp [builtin, Builtin.cap_, ht, run_underlying hu, e', goInt]⟩
          · simp at hr
        · simp at hc
      · -- min
        rename_i x' xs'
        simp only [Option.some.injEq, IOp.p.injEq] at hc; subst hc
        simp only [PO.run] at hr
        obtain ⟨as⟩ := as
        cases as with
        | nil => simp at hl
        | cons x xs =>
          have hx : cOd x = some x' ∧ cOds xs = some xs' := by
            unfold cOds at hargs
            split at hargs
            · rename_i p q hp hq
              simp only [Option.some.injEq, List.cons.injEq] at hargs
              rw [hp, hq, hargs.1, hargs.2]; exact ⟨rfl, rfl⟩
            · simp at hargs
          have key := fun w => minL_ok (P := P) (w := w) hF hx.2 hr (rd_ok hF hx.1)
          obtain ⟨R, hR, _⟩ := key default
          refine ⟨R, hR, fun w => ?_⟩
          obtain ⟨R', hR', hrun⟩ := key w
          rw [hR] at hR'
          obtain rfl : R = R' := by simpa using hR'
          rw [run0]
          simp [builtin, Builtin.min_, hrun]
      · -- max
        rename_i x' xs'
        simp only [Option.some.injEq, IOp.p.injEq] at hc; subst hc
        simp only [PO.run] at hr
        obtain ⟨as⟩ := as
        cases as with
        | nil => simp at hl
        | cons x xs =>
          have hx : cOd x = some x' ∧ cOds xs = some xs' := by
            unfold cOds at hargs
            split at hargs
            · rename_i p q hp hq
              simp only [Option.some.injEq, List.cons.injEq] at hargs
              rw [hp, hq, hargs.1, hargs.2]; exact ⟨rfl, rfl⟩
            · simp at hargs
          have key := fun w => maxL_ok (P := P) (w := w) hF hx.2 hr (rd_ok hF hx.1)
          obtain ⟨R, hR, _⟩ := key default
          refine ⟨R, hR, fun w => ?_⟩
          obtain ⟨R', hR', hrun⟩ := key w
          rw [hR] at hR'
          obtain rfl : R = R' := by simpa using hR'
          rw [run0]
          simp [builtin, Builtin.max_, hrun]
      · split at hc
        · split at hc <;> simp at hc
        · simp at hc
      · split at hc
        · split at hc
          · simp only [Bool.cond_eq_ite] at hc
            split at hc <;> simp at hc
          · simp at hc
        · simp at hc
      · simp at hc
    · simp at hc
  · simp at hc

/-- What needs no memory gives what the evaluator says. -/
theorem P_ok {o : Oper} {q : PO} (hc : cOp0 P o.op = some (.p q)) (hF : FR φ fr a) {v : AV} (hr : q.run fr = some v) : PGives P φ a o v := by
  cases ho : o.op with
  | move x => rw [ho] at hc; exact P_mov (.inl ho) hc hF hr
  | assign x => rw [ho] at hc; exact P_mov (.inr ho) hc hF hr
  | pick c x y => rw [ho] at hc; exact P_pick ho hc hF hr
  | build t l => rw [ho] at hc; exact P_build ho hc hF hr
  | nilCheck x => rw [ho] at hc; exact P_nilck ho hc hF hr
  | binOp op t x y u => rw [ho] at hc; exact P_bin ho hc hF hr
  | unOp op t x => rw [ho] at hc; exact P_un ho hc hF hr
  | convert s t x => rw [ho] at hc; exact P_convert ho hc hF hr
  | sliceToArrayPointer t x => rw [ho] at hc; exact P_arr ho hc hF hr
  | makeInterface t x => rw [ho] at hc; exact P_mkif ho hc hF hr
  | makeFunc f l m => rw [ho] at hc; exact P_mkfn ho hc hF hr
  | slice t x lo hi mx => rw [ho] at hc; exact P_slice ho hc hF hr
  | fieldAddr t x i => rw [ho] at hc; exact P_fadr ho hc hF hr
  | field t x i => rw [ho] at hc; exact P_fld ho hc hF hr
  | indexAddr t x i => rw [ho] at hc; exact P_ixa ho hc hF hr
  | index t x i => rw [ho] at hc; exact P_ix ho hc hF hr
  | typeAssert x u t ok => rw [ho] at hc; exact P_tas ho hc hF hr
  | extract x i => rw [ho] at hc; exact P_extr ho hc hF hr
  | call c => rw [ho] at hc; exact P_call ho hc hF hr
  | alloc t => rw [ho] at hc; simp [cOp0] at hc
  | box t x => rw [ho] at hc; simp [cOp0] at hc
  | buildSlice t n l =>
    rw [ho] at hc; simp only [cOp0] at hc
    split at hc
    · split at hc
      · simp only [Bool.cond_eq_ite] at hc; split at hc <;> simp at hc
      · simp at hc
    · simp at hc
  | insert t m k x =>
    rw [ho] at hc; simp only [cOp0] at hc
    split at hc
    · split at hc
      · simp only [Bool.cond_eq_ite] at hc; split at hc <;> simp at hc
      · simp at hc
    · simp at hc
  | mapUpdate t m k x =>
    rw [ho] at hc; simp only [cOp0] at hc
    split at hc
    · split at hc
      · simp only [Bool.cond_eq_ite] at hc; split at hc <;> simp at hc
      · simp at hc
    · simp at hc
  | load t x =>
    rw [ho] at hc; simp only [cOp0] at hc
    split at hc
    · simp only [Bool.cond_eq_ite] at hc; split at hc
      · split at hc <;> simp at hc
      · simp at hc
    · simp at hc
  | store t x y =>
    rw [ho] at hc; simp only [cOp0] at hc
    split at hc
    · simp only [Bool.cond_eq_ite] at hc; split at hc <;> simp at hc
    · simp at hc
  | makeMap t r =>
    rw [ho] at hc
    unfold cOp0 at hc
    split at hc <;> first | (simp at hc; done) | skip
    all_goals simp_all
    all_goals (split at hc <;> simp at hc)
  | makeSlice t l c =>
    rw [ho] at hc; simp only [cOp0] at hc
    split at hc
    · split at hc
      · simp only [Bool.cond_eq_ite] at hc; split at hc <;> simp at hc
      · simp at hc
    · simp at hc
  | lookup t m k c =>
    rw [ho] at hc; simp only [cOp0] at hc
    split at hc
    · split at hc <;> simp at hc
    · simp at hc
  | range t x => rw [ho] at hc; simp only [cOp0] at hc; split at hc <;> simp at hc
  | next x b => rw [ho] at hc; cases b <;> simp [cOp0] at hc
  | panic x => rw [ho] at hc; simp [cOp0] at hc
  | _ => rw [ho] at hc; simp [cOp0] at hc
end
end Ax
namespace Ax
open Go
variable [Sy]

section
variable {P : Program} {φ : Mp}

/-- What is to be shown of a type's keys. -/
noncomputable def ChkAt (P : Program) (D : Nat) (t : TypeId) (ls : List Lf) : Prop :=
  (isAggT P t = false → ls.length = 1) ∧ (∃ d, P.underlying t = some d) ∧
  ∀ d, D ≤ d → ∀ (em : Bool) (XS : List Value) (w : World), XS.length = ls.length → (Instr.checkKey em d t (pk P t XS)).run P w = .ok () w

theorem lvFc_ok {D : Nat} {rec : TypeId → Option (List Lf)} (hrec : ∀ t ls, rec t = some ls → ChkAt P D t ls) (em : Bool) :
    ∀ (fs : List Field) (off : Nat) (ls : List Lf), lvF P rec fs off = some ls → ∀ d, D ≤ d → ∀ (px : List Value) (XS : List Value) (w : World), px.length = off → XS.length = ls.length →
      (forIn fs PUnit.unit (fun f _ => if f.name ≠ "_" then (do let v ← part f.type (px ++ XS).toArray f.offset; Instr.checkKey em d f.type v; pure (ForInStep.yield PUnit.unit)) else pure (ForInStep.yield PUnit.unit)) : Sem PUnit).run P w = .ok PUnit.unit w
  | [], off, ls, h, d, hd, px, XS, w, hpx, hlx => by simp
  | f :: fs, off, ls, h, d, hd, px, XS, w, hpx, hlx => by
    unfold lvF at h
    split at h
    · simp at h
    · rename_i l hl
      cases hc : (f.name != "_" && Nat.beq f.offset off && Nat.beq (P.cellsOf f.type) l.length) with
      | false => simp [hc] at h
      | true =>
        simp only [hc, cond_true] at h
        split at h
        · rename_i r hr
          simp only [Option.some.injEq] at h; subst h
          simp only [Bool.and_eq_true, bne_iff_ne, ne_eq, Nat.beq_eq] at hc
          obtain ⟨⟨hn, ho⟩, hcl⟩ := hc
          obtain ⟨h1, ⟨u, hu⟩, hq⟩ := hrec _ _ hl
          simp only [List.length_append] at hlx
          have ex : XS = XS.take l.length ++ XS.drop l.length := (List.take_append_drop _ _).symm
          have tx : (XS.take l.length).length = P.cellsOf f.type := by rw [hcl, List.length_take]; omega
          have p1 := run_part_pk (P := P) (t := f.type) (pre := px) (mid := XS.take l.length) (post := XS.drop l.length) hu tx (fun ha => by rw [tx, hcl]; exact h1 ha)
          rw [← ex] at p1
          have fo : f.offset = px.length := by omega
          have q := hq d hd em (XS.take l.length) w (by rw [List.length_take]; omega)
          have rest := lvFc_ok hrec em fs (off + l.length) r hr d hd (px ++ XS.take l.length) (XS.drop l.length) w (by rw [List.length_append, tx, hcl]; omega) (by rw [List.length_drop]; omega)
          simp only [List.append_assoc, List.take_append_drop] at rest
          simp only [List.forIn_cons, hn, ne_eq, not_false_eq_true, if_true, Sem.run_bind, fo, p1, Result.andThen_ok, q, Sem.run_pure]
          exact rest
        · simp at h

theorem lvAc_ok {D : Nat} {e : TypeId} {l : List Lf} (hq : ChkAt P D e l) (hcl : P.cellsOf e = l.length) (em : Bool) :
    ∀ (n k : Nat) (d : Nat), D ≤ d → ∀ (px : List Value) (XS : List Value) (w : World), px.length = k * l.length → XS.length = (List.flatten (List.replicate n l)).length →
      (forIn (List.range' k n) PUnit.unit (fun i _ => do let s ← Go.sizeOf e; let v ← part e (px ++ XS).toArray (i * s); Instr.checkKey em d e v; pure (ForInStep.yield PUnit.unit)) : Sem PUnit).run P w = .ok PUnit.unit w
  | 0, k, d, hd, px, XS, w, hpx, hlx => by simp
  | n + 1, k, d, hd, px, XS, w, hpx, hlx => by
    simp only [List.replicate_succ, List.flatten_cons, List.length_append] at hlx
    obtain ⟨h1, ⟨u, hu⟩, hq'⟩ := hq
    have ex : XS = XS.take l.length ++ XS.drop l.length := (List.take_append_drop _ _).symm
    have tx : (XS.take l.length).length = P.cellsOf e := by rw [hcl, List.length_take]; omega
    have p1 := run_part_pk (P := P) (t := e) (pre := px) (mid := XS.take l.length) (post := XS.drop l.length) hu tx (fun ha => by rw [tx, hcl]; exact h1 ha)
    have hpx' : px.length = k * P.cellsOf e := by rw [hpx, hcl]
    rw [← ex, hpx'] at p1
    have q := hq' d hd em (XS.take l.length) w (by rw [List.length_take]; omega)
    have rest := lvAc_ok ⟨h1, ⟨u, hu⟩, hq'⟩ hcl em n (k + 1) d hd (px ++ XS.take l.length) (XS.drop l.length) w (by rw [List.length_append, tx, hcl, hpx, Nat.succ_mul]) (by rw [List.length_drop]; omega)
    simp only [List.append_assoc, List.take_append_drop] at rest
    rw [List.range'_succ]
    simp only [List.forIn_cons, Sem.run_bind, run_sizeOf' hu, p1, Result.andThen_ok, q, Sem.run_pure]
    exact rest

theorem ChkAt.leaf {D : Nat} {t : TypeId} {l : Lf} {u : TypeDesc} (ha : isAggT P t = false) (hu : P.underlying t = some u) (hi : ∀ ms, u ≠ .interface ms) : ChkAt P (D + 1) t [l] := by
  refine ⟨fun _ => rfl, ⟨_, hu⟩, fun d hd em XS w hl => ?_⟩
  obtain ⟨d, rfl⟩ : ∃ e, d = e + 1 := ⟨d - 1, by omega⟩
  simp only [Instr.checkKey, Sem.run_bind, run_underlying hu, Result.andThen_ok]
  have : isAggT P t = (match u with | .struct _ | .array _ _ => true | _ => false) := by simp only [isAggT, hu]; cases u <;> rfl
  rw [ha] at this
  cases u <;> first | rfl | (simp at this; done) | exact (hi _ rfl).elim

theorem lvsc_ok : ∀ (D : Nat) (t : TypeId) (ls : List Lf), lvs P D t = some ls → ChkAt P D t ls
  | 0, t, ls, h => by simp [lvs] at h
  | D + 1, t, ls, h => by
    unfold lvs at h
    split at h
    · rename_i hu; simp only [Option.some.injEq] at h; subst h
      exact .leaf (by simp [isAggT, hu]) hu (by simp)
    · rename_i k hu; simp only [Option.some.injEq] at h; subst h
      exact .leaf (by simp [isAggT, hu]) hu (by simp)
    · rename_i hu; simp only [Option.some.injEq] at h; subst h
      exact .leaf (by simp [isAggT, hu]) hu (by simp)
    · rename_i hu; simp only [Option.some.injEq] at h; subst h
      exact .leaf (by simp [isAggT, hu]) hu (by simp)
    · rename_i fs hu
      cases hs : P.stoodInHeld t with
      | true => simp [hs] at h
      | false =>
        simp only [hs, cond_false] at h
        have hagg : isAggT P t = true := by simp [isAggT, hu]
        refine ⟨fun h => by simp [hagg] at h, ⟨_, hu⟩, fun d hd em XS w hl => ?_⟩
        obtain ⟨d, rfl⟩ : ∃ e, d = e + 1 := ⟨d - 1, by omega⟩
        have := lvFc_ok (P := P) (D := D) (fun t ls h => lvsc_ok D t ls h) em fs.toList 0 ls h d (by omega) [] XS w rfl hl
        simp only [pk, hagg, if_true, Instr.checkKey, Sem.run_bind, run_underlying hu, Result.andThen_ok]
        rw [← Array.forIn_toList]
        simp only [List.nil_append] at this
        rw [this]
        rfl
    · rename_i n e hu
      split at h
      · rename_i l hl
        cases hc : Nat.beq (P.cellsOf e) l.length with
        | false => simp [hc] at h
        | true =>
          simp only [hc, cond_true, Option.some.injEq] at h; subst h
          rw [Nat.beq_eq] at hc
          have hq := lvsc_ok D e l hl
          have hagg : isAggT P t = true := by simp [isAggT, hu]
          refine ⟨fun h => by simp [hagg] at h, ⟨_, hu⟩, fun d hd em XS w hl => ?_⟩
          obtain ⟨d, rfl⟩ : ∃ e, d = e + 1 := ⟨d - 1, by omega⟩
          have := lvAc_ok (P := P) hq hc em n 0 d (by omega) [] XS w (by simp) hl
          simp only [pk, hagg, if_true, Instr.checkKey, Sem.run_bind, run_underlying hu, Result.andThen_ok]
          simp only [Std.Legacy.Range.forIn_eq_forIn_range', Std.Legacy.Range.size, Nat.sub_zero, Nat.add_one_sub_one, Nat.div_one]
          simp only [List.nil_append] at this
          simp at this ⊢
          simp [this]
      · simp at h
    · simp at h

/-! ## Finding a key -/

noncomputable def mPos (eq : EqK) (k : AV) : List (AV × AV) → Nat → Option (Option Nat)
  | [], _ => some none
  | (k', _) :: l, i => match eqV false eq k k' with
    | some true => some (some i)
    | some false => mPos eq k l (i + 1)
    | none => none

theorem mFind_pos {eq : EqK} {k : AV} : ∀ {es : List (AV × AV)} {r : Option AV} (i : Nat), mFind eq k es = some r →
    (r = none ∧ mPos eq k es i = some none) ∨ ∃ j k' v, r = some v ∧ es[j]? = some (k', v) ∧ mPos eq k es i = some (some (i + j))
  | [], r, i, h => by simp only [mFind, Option.some.injEq] at h; exact .inl ⟨h.symm, rfl⟩
  | (k', v) :: l, r, i, h => by
    simp only [mFind] at h
    simp only [mPos]
    split at h
    · rename_i he
      simp only [Option.some.injEq] at h; subst h
      exact .inr ⟨0, k', v, rfl, rfl, by simp [he]⟩
    · rename_i he
      rcases mFind_pos (i + 1) h with ⟨h1, h2⟩ | ⟨j, k2, v2, h1, h2, h3⟩
      · exact .inl ⟨h1, by simp [he, h2]⟩
      · exact .inr ⟨j + 1, k2, v2, h1, by simpa using h2, by simp [he, h3]; omega⟩
    · simp at h

theorem mPut_pos {eq : EqK} {k v : AV} : ∀ {es r : List (AV × AV)} (i : Nat), mPut eq k v es = some r →
    (r = es ++ [(k, v)] ∧ mPos eq k es i = some none) ∨ ∃ j, j < es.length ∧ r = es.set j (k, v) ∧ mPos eq k es i = some (some (i + j))
  | [], r, i, h => by simp only [mPut, Option.some.injEq] at h; exact .inl ⟨h.symm, rfl⟩
  | (k', u) :: l, r, i, h => by
    simp only [mPut] at h
    simp only [mPos]
    split at h
    · rename_i he
      simp only [Option.some.injEq] at h; subst h
      exact .inr ⟨0, by simp, rfl, by simp [he]⟩
    · rename_i he
      split at h
      · rename_i r' hr
        simp only [Option.some.injEq] at h; subst h
        rcases mPut_pos (i + 1) hr with ⟨h1, h2⟩ | ⟨j, h1, h2, h3⟩
        · exact .inl ⟨by rw [h1]; rfl, by simp [he, h2]⟩
        · exact .inr ⟨j + 1, by simpa using h1, by rw [h2]; rfl, by simp [he, h3]; omega⟩
      · simp at h
    · simp at h

theorem mDel_pos {eq : EqK} {k : AV} : ∀ {es r : List (AV × AV)} (i : Nat), mDel eq k es = some r →
    (r = es ∧ mPos eq k es i = some none) ∨ ∃ j, j < es.length ∧ r = es.eraseIdx j ∧ mPos eq k es i = some (some (i + j))
  | [], r, i, h => by simp only [mDel, Option.some.injEq] at h; exact .inl ⟨h.symm, rfl⟩
  | (k', u) :: l, r, i, h => by
    simp only [mDel] at h
    simp only [mPos]
    split at h
    · rename_i he
      simp only [Option.some.injEq] at h; subst h
      exact .inr ⟨0, by simp, rfl, by simp [he]⟩
    · rename_i he
      split at h
      · rename_i r' hr
        simp only [Option.some.injEq] at h; subst h
        rcases mDel_pos (i + 1) hr with ⟨h1, h2⟩ | ⟨j, h1, h2, h3⟩
        · exact .inl ⟨by rw [h1], by simp [he, h2]⟩
        · exact .inr ⟨j + 1, by simpa using h1, by rw [h2]; rfl, by simp [he, h3]; omega⟩
      · simp at h
    · simp at h

/-- A key's type: compared by leaves. -/
inductive KeyT (P : Program) (t : TypeId) : EqK → Prop
  | bool : P.underlying t = some .bool → KeyT P t (.leaf .bool)
  | int (k : IntKind) : P.underlying t = some (.int k) → KeyT P t (.leaf .int)
  | str : P.underlying t = some .string → KeyT P t (.leaf .str)
  | agg (ls : List Lf) : isAggT P t = true → lvs P 20 t = some ls → KeyT P t (.agg ls)

theorem keyT_of {t : TypeId} {e : EqK} (h : eqKey P t = some e) : KeyT P t e ∧ eqK P t = some e := by
  unfold eqKey at h
  split at h
  · rename_i hu; simp only [Option.some.injEq] at h; subst h; exact ⟨.bool hu, by simp [eqK, hu]⟩
  · rename_i k hu; simp only [Option.some.injEq] at h; subst h; exact ⟨.int k hu, by simp [eqK, hu]⟩
  · rename_i hu; simp only [Option.some.injEq] at h; subst h; exact ⟨.str hu, by simp [eqK, hu]⟩
  · rename_i fs hu
    simp only [Option.map_eq_some_iff] at h
    obtain ⟨ls, hls, rfl⟩ := h
    exact ⟨.agg ls (by simp [isAggT, hu]) hls, by simp [eqK, hu, hls]⟩
  · rename_i n el hu
    simp only [Option.map_eq_some_iff] at h
    obtain ⟨ls, hls, rfl⟩ := h
    exact ⟨.agg ls (by simp [isAggT, hu]) hls, by simp [eqK, hu, hls]⟩
  · simp at h

theorem gP_get {φ : Mp} : ∀ {es : List (AV × AV)} {ps : List (Value × Value)}, gP φ es = some ps → ∀ (j : Nat) (k v : AV), es[j]? = some (k, v) → ∃ K V, ps[j]? = some (K, V) ∧ g φ k = some K ∧ g φ v = some V
  | [], ps, _, j, k, v, h => by simp at h
  | (k', v') :: l, ps, e, j, k, v, h => by
    simp only [gP, Option.map_eq_some_iff, Option.bind_eq_some_iff] at e
    obtain ⟨K, hK, V, hV, r, hr, rfl⟩ := e
    cases j with
    | zero => simp only [List.getElem?_cons_zero, Option.some.injEq, Prod.mk.injEq] at h; obtain ⟨rfl, rfl⟩ := h; exact ⟨K, V, rfl, hK, hV⟩
    | succ j => simp only [List.getElem?_cons_succ] at h ⊢; exact gP_get hr j k v h

theorem gP_length {φ : Mp} : ∀ {es : List (AV × AV)} {ps : List (Value × Value)}, gP φ es = some ps → ps.length = es.length
  | [], ps, e => by simp only [gP, Option.some.injEq] at e; subst e; rfl
  | (k', v') :: l, ps, e => by
    simp only [gP, Option.map_eq_some_iff, Option.bind_eq_some_iff] at e
    obtain ⟨K, hK, V, hV, r, hr, rfl⟩ := e
    simp [gP_length hr]

/-- What looking for a key comes to. -/
noncomputable def foundAt (ents : List MapEntry) (i : Nat) : Option Nat → Option (Nat × Value)
  | none => none
  | some j => (ents[j - i]?).map fun e => (j, e.val)

theorem asking_ok {t : TypeId} {eq : EqK} {k : AV} {K : Value} (he : eqK P t = some eq) (hk : g φ k = some K) (w : World) :
    ∀ {es : List (AV × AV)} {ents : List MapEntry} (i : Nat) {p : Option Nat}, gP φ es = some (ents.map fun e => (e.key, e.val)) → mPos eq k es i = some p →
      (Instr.findAsking t K ents i).run P w = .ok (foundAt ents i p) w
  | [], ents, i, p, hg, hp => by
    simp only [gP, Option.some.injEq, List.nil_eq, List.map_eq_nil_iff] at hg; subst hg
    simp only [mPos, Option.some.injEq] at hp; subst hp
    rfl
  | (k', v') :: l, ents, i, p, hg, hp => by
    simp only [gP, Option.map_eq_some_iff, Option.bind_eq_some_iff] at hg
    obtain ⟨K', hK', V', hV', r, hr, hents⟩ := hg
    cases ents with
    | nil => simp at hents
    | cons e ents =>
      simp only [List.map_cons, List.cons.injEq, Prod.mk.injEq] at hents
      obtain ⟨⟨rfl, rfl⟩, rfl⟩ := hents
      simp only [mPos] at hp
      simp only [Instr.findAsking, Sem.run_bind]
      split at hp
      · rename_i hb
        simp only [Option.some.injEq] at hp; subst hp
        rw [eqV_ok hb he hk hK']
        simp [foundAt]
      · rename_i hb
        rw [eqV_ok hb he hk hK']
        simp only [Result.andThen_ok, Bool.false_eq_true, if_false]
        rw [asking_ok he hk w (i + 1) hr hp]
        congr 1
        cases p with
        | none => rfl
        | some j =>
          have hj : i + 1 ≤ j := by
            clear hr hK' hV' hb
            have : ∀ (l : List (AV × AV)) (i j : Nat), mPos eq k l i = some (some j) → i ≤ j := by
              intro l
              induction l with
              | nil => intro i j h; simp [mPos] at h
              | cons x l ih =>
                intro i j h
                simp only [mPos] at h
                split at h
                · simp at h; omega
                · have := ih _ _ h; omega
                · simp at h
            exact this _ _ _ hp
          simp only [foundAt]
          rw [show j - i = (j - (i + 1)) + 1 by omega]
          simp
      · simp at hp

theorem now_ok {t : TypeId} {l : Lf} {k : AV} {K : Value} {d : TypeDesc} (hl : KeyT P t (.leaf l)) (hu : P.underlying t = some d) (hk : g φ k = some K) :
    ∀ {es : List (AV × AV)} {ents : List MapEntry} (i : Nat) {p : Option Nat}, gP φ es = some (ents.map fun e => (e.key, e.val)) → mPos (.leaf l) k es i = some p →
      Instr.findNow d K ents i = some (foundAt ents i p)
  | [], ents, i, p, hg, hp => by
    simp only [gP, Option.some.injEq, List.nil_eq, List.map_eq_nil_iff] at hg; subst hg
    simp only [mPos, Option.some.injEq] at hp; subst hp
    rfl
  | (k', v') :: m, ents, i, p, hg, hp => by
    simp only [gP, Option.map_eq_some_iff, Option.bind_eq_some_iff] at hg
    obtain ⟨K', hK', V', hV', r, hr, hents⟩ := hg
    cases ents with
    | nil => simp at hents
    | cons e ents =>
      simp only [List.map_cons, List.cons.injEq, Prod.mk.injEq] at hents
      obtain ⟨⟨rfl, rfl⟩, rfl⟩ := hents
      have same : ∀ b, eqV false (.leaf l) k k' = some b → Instr.sameNow d K e.key = some b := by
        intro b hb
        simp only [eqV] at hb
        unfold eqLf at hb
        cases hl with
        | bool h =>
          rw [hu] at h; simp only [Option.some.injEq] at h; subst h
          split at hb <;> first | contradiction | skip
          · have := g_bool hk; subst this; have := g_bool hK'; rw [this]
            simpa [Instr.sameNow] using hb
        | int kd h =>
          rw [hu] at h; simp only [Option.some.injEq] at h; subst h
          split at hb <;> first | contradiction | skip
          · rename_i k1 a k2 b' _
            have := g_int hk; subst this; have := g_int hK'; rw [this]
            rw [kEq_eq] at hb
            by_cases hkk : k1 = k2
            · subst hkk
              simp only [decide_true, cond_true, Option.some.injEq, iEq_eq] at hb; subst hb
              simp only [Instr.sameNow, if_true, Option.some.injEq]
              rw [Bool.eq_iff_iff]; simp
            · simp [hkk] at hb
        | str h =>
          rw [hu] at h; simp only [Option.some.injEq] at h; subst h
          split at hb <;> first | contradiction | skip
          · have := g_str hk; subst this; have := g_str hK'; rw [this]
            simp only [Option.some.injEq, BS.eq_beq] at hb; subst hb
            simp only [Instr.sameNow, beq_toListBytes, ByteArray.toList_eq]
      simp only [mPos] at hp
      simp only [Instr.findNow]
      split at hp
      · rename_i hb
        simp only [Option.some.injEq] at hp; subst hp
        rw [same _ hb]
        simp [foundAt]
      · rename_i hb
        rw [same _ hb]
        simp only []
        rw [now_ok hl hu hk (i + 1) hr hp]
        congr 1
        cases p with
        | none => rfl
        | some j =>
          have hj : i + 1 ≤ j := by
            clear hr hK' hV' hb same
            have : ∀ (m : List (AV × AV)) (i j : Nat), mPos (.leaf l) k m i = some (some j) → i ≤ j := by
              intro m
              induction m with
              | nil => intro i j h; simp [mPos] at h
              | cons x m ih =>
                intro i j h
                simp only [mPos] at h
                split at h
                · simp at h; omega
                · have := ih _ _ h; omega
                · simp at h
            exact this _ _ _ hp
          simp only [foundAt]
          rw [show j - i = (j - (i + 1)) + 1 by omega]
          simp
      · simp at hp

theorem find_ok {t : TypeId} {eq : EqK} {k : AV} {K : Value} (he : eqKey P t = some eq) (hk : g φ k = some K) (w : World)
    {es : List (AV × AV)} {ents : List MapEntry} {p : Option Nat} (hg : gP φ es = some (ents.map fun e => (e.key, e.val))) (hp : mPos eq k es 0 = some p) :
    (Instr.findKey t K ents).run P w = .ok (foundAt ents 0 p) w := by
  obtain ⟨hK, he'⟩ := keyT_of he
  have leaf : ∀ l, eq = .leaf l → (Instr.findKey t K ents).run P w = .ok (foundAt ents 0 p) w := by
    intro l hl
    subst hl
    obtain ⟨d, hu⟩ : ∃ d, P.underlying t = some d := by cases hK <;> exact ⟨_, ‹_›⟩
    exact Go.MapKept.run_findKey hu (now_ok hK hu hk 0 hg hp)
  cases hK with
  | bool h => exact leaf _ rfl
  | int kd h => exact leaf _ rfl
  | str h => exact leaf _ rfl
  | agg ls hagg hls =>
    obtain ⟨d, hu⟩ := (lvsc_ok 20 t ls hls).2.1
    have hd : ∀ x, (∃ fs, d = .struct fs) ∨ (∃ n e, d = .array n e) ∨ x := by
      intro x
      simp only [isAggT, hu] at hagg
      cases d <;> simp at hagg
      · exact .inr (.inl ⟨_, _, rfl⟩)
      · exact .inl ⟨_, rfl⟩
    simp only [Instr.findKey, Sem.run_bind, run_underlying hu, Result.andThen_ok]
    cases ents with
    | nil =>
      have : es = [] := by have := gP_length hg; simpa using this.symm
      subst this
      simp only [mPos, Option.some.injEq] at hp; subst hp
      simp [Instr.findNow, foundAt]
    | cons e ents =>
      have hn : Instr.findNow d K (e :: ents) 0 = none := by
        rcases hd False with ⟨fs, rfl⟩ | ⟨n, el, rfl⟩ | hf
        · simp [Instr.findNow, Instr.sameNow]
        · simp [Instr.findNow, Instr.sameNow]
        · exact hf.elim
      rw [hn]
      exact asking_ok he' hk w 0 hg hp

theorem chk_ok {t : TypeId} {eq : EqK} {k : AV} {K : Value} (he : eqKey P t = some eq) (hk : g φ k = some K) (hs : keyFits eq k = true) (em : Bool) (w : World) :
    (Instr.checkKey em 10000 t K).run P w = .ok () w := by
  obtain ⟨hK, he'⟩ := keyT_of he
  obtain ⟨d0, hd0⟩ : ∃ d, d = 9999 := ⟨_, rfl⟩
  have h20 : 20 ≤ d0 + 1 := by omega
  show (Instr.checkKey em (9999 + 1) t K).run P w = _
  rw [← hd0]
  cases hK with
  | bool h => simp [Instr.checkKey, run_underlying h]
  | int kd h => simp [Instr.checkKey, run_underlying h]
  | str h => simp [Instr.checkKey, run_underlying h]
  | agg ls hagg hls =>
    cases k <;> simp [keyFits] at hs
    rename_i l
    obtain ⟨XS, hX, rfl⟩ := g_agg hk
    have := (lvsc_ok (P := P) 20 t ls hls).2.2 (d0 + 1) h20 em XS w (by rw [gL_length hX]; exact hs)
    simpa [pk, hagg] using this
end
end Ax
namespace Ax
open Go
variable [Sy]

section
variable {P : Program} {φ : Mp} {fr : T AV} {a : Act} {ng : Nat} {gl : T (List AV)} {h : Hp} {w : World}

noncomputable abbrev glF (gl : T (List AV)) : Nat → Option (List AV) := fun n => gl.get (Ps.key n)

theorem add_eq (B O n : Nat) : (⟨B, O, none⟩ : Addr).add n = ⟨B, O + n, none⟩ := by
  unfold Addr.add; split
  · rename_i h0; subst h0; rfl
  · rfl

theorem cell_row {c : Array Value} {el : TypeId} {fz : Nat × Nat} {B O : Nat} (hh : w.heap[B]? = some (.cells c el fz)) : w.cell? ⟨B, O, none⟩ = c[O]? := by
  simp [World.cell?, hh]

theorem cellsC_ok (hR : Rel ng (glF gl) φ h w) {x : Ad × Nat} {n : Nat} {cs : Cl} {A : Addr} (hc : cellsC gl h x n = some cs) (hA : gA φ x = some A) :
    ∃ CS, gL φ cs.list = some CS ∧ CS.length = n ∧ ∀ (j : Nat) v, CS[j]? = some v → w.cell? (A.add j) = some v := by
  obtain ⟨d, off⟩ := x
  cases d with
  | own id =>
    simp only [cellsC] at hc
    split at hc
    · rename_i el cs' tail hg
      cases hb : Nat.ble (off + n) cs'.len with
      | false => simp [hb] at hc
      | true =>
        simp only [hb, cond_true, Option.some.injEq] at hc; subst hc
        rw [Nat.ble_eq, Cl.len_eq] at hb
        obtain ⟨L, hL, _, c, lo, hi, xs, hh, hx, _, _, _, _, hget, _⟩ := hR.at_ id _ hg
        simp only [gA, hL, Option.map_some, Option.some.injEq] at hA; subst hA
        have hl := gL_length hx
        refine ⟨(xs.drop off).take n, by rw [Cl.take_eq, Cl.drop_eq]; exact gL_take _ (gL_drop _ hx), by rw [List.length_take, List.length_drop]; omega, fun j v hv => ?_⟩
        rw [add_eq, cell_row hh]
        by_cases hj : j < n
        · rw [List.getElem?_take_of_lt hj, List.getElem?_drop] at hv
          have hlt : off + j < xs.length := by
            rcases Nat.lt_or_ge (off + j) xs.length with h | h
            · exact h
            · rw [List.getElem?_eq_none h] at hv; cases hv
          rw [show L.base + off + j = L.base + (off + j) by omega, hget _ hlt, hv]
        · rw [List.getElem?_eq_none (by rw [List.length_take]; omega)] at hv; cases hv
    · simp at hc
  | glob m =>
    simp only [cellsC] at hc
    split at hc
    · rename_i cs' hg
      cases hb : Nat.ble (off + n) (lenF cs') with
      | false => simp [hb] at hc
      | true =>
        simp only [hb, cond_true, Option.some.injEq] at hc; subst hc
        rw [Nat.ble_eq, lenF_eq] at hb
        obtain ⟨_, c, el, fz, xs, hh, hx, hcx⟩ := hR.gl_ m _ hg
        simp only [gA, Option.some.injEq] at hA; subst hA
        have hl := gL_length hx
        refine ⟨(xs.drop off).take n, by rw [Cl.list_gen, takeF_eq, dropF_eq]; exact gL_take _ (gL_drop _ hx), by rw [List.length_take, List.length_drop]; omega, fun j v hv => ?_⟩
        rw [add_eq, cell_row hh]
        by_cases hj : j < n
        · rw [List.getElem?_take_of_lt hj, List.getElem?_drop] at hv
          rw [← Array.getElem?_toList, hcx, hv]
        · rw [List.getElem?_eq_none (by rw [List.length_take]; omega)] at hv; cases hv
    · simp at hc

theorem cells_ok (hR : Rel ng (glF gl) φ h w) {x : Ad × Nat} {n : Nat} {cs : List AV} {A : Addr} (hc : cellsAt gl h x n = some cs) (hA : gA φ x = some A) :
    ∃ CS, gL φ cs = some CS ∧ CS.length = n ∧ ∀ (j : Nat) v, CS[j]? = some v → w.cell? (A.add j) = some v := by
  simp only [cellsAt, Option.map_eq_some_iff] at hc
  obtain ⟨c, hc, rfl⟩ := hc
  exact cellsC_ok hR hc hA

theorem run_load' {A : Addr} {v : Value} (hv : w.cell? A = some v) : (load A).run P w = .ok v w := by
  simp [load, Sem.run, hv]

theorem load_ok (hR : Rel ng (glF gl) φ h w) {x : Ad × Nat} {A : Addr} (hA : gA φ x = some A) {t : TypeId} {d : TypeDesc} (hu : P.underlying t = some d) {v : AV}
    (hr : (match cellsAt gl h x (if isAggT P t then P.cellsOf t else 1) with | some cs => bif isAggT P t then some (.agg cs) else (match cs with | [v] => some v | _ => none) | none => none) = some v) :
    ∃ X, g φ v = some X ∧ (loadVar t A).run P w = .ok X w := by
  split at hr
  · rename_i cs hc
    obtain ⟨CS, hCS, hl, hcell⟩ := cells_ok hR hc hA
    simp only [loadVar, Sem.run_bind, run_isAgg' hu, Result.andThen_ok]
    cases ha : isAggT P t with
    | true =>
      simp only [ha, cond_true, Option.some.injEq, if_true] at hr hl ⊢
      subst hr
      refine ⟨.agg CS.toArray, by simp [g, hCS], ?_⟩
      simp only [Sem.run_bind, run_sizeOf' hu, Result.andThen_ok]
      rw [← hl, run_loadCells_list w A CS hcell]
      rfl
    | false =>
      simp only [ha, cond_false, Bool.false_eq_true, if_false] at hr hl ⊢
      split at hr
      · rename_i u
        simp only [Option.some.injEq] at hr; subst hr
        simp only [gL, Option.map_eq_some_iff, Option.bind_eq_some_iff, Option.some.injEq] at hCS
        obtain ⟨X, hX, _, rfl, rfl⟩ := hCS
        have := hcell 0 X rfl
        rw [show A.add 0 = A from rfl] at this
        exact ⟨X, hX, run_load' this⟩
      · simp at hr
  · simp at hr

theorem run_getMap {r : Nat} {ents : Array MapEntry} {clock : Nat} (hh : w.heap[r]? = some (.map ents clock)) : (getObj r).run P w = .ok (.map ents clock) w := by
  simp [getObj, Sem.run, hh]

theorem R_load {o : Oper} {t : TypeId} {x : Operand} (ho : o.op = .load t x) {q : RO} (hc : cOp0 P (.load t x) = some (.r q)) (hF : FR φ fr a) (hR : Rel ng (glF gl) φ h w) {v : AV} (hr : q.run gl fr h = some v) :
    ∃ X, g φ v = some X ∧ (execOp a.eval o).run P w = .ok (.value X) w := by
  simp only [cOp0] at hc
  split at hc
  · rename_i d hd
    cases ht : okT P t with
    | false => simp [ht] at hc
    | true =>
      obtain ⟨u, hu⟩ := okT_ok ht
      have e := rd_ok hF hd
      have key : ∀ (n : Nat) (b : Bool), b = isAggT P t → n = (if isAggT P t then P.cellsOf t else 1) → (RO.load n b d).run gl fr h = some v → ∃ X, g φ v = some X ∧ (execOp a.eval o).run P w = .ok (.value X) w := by
        intro n b hb hn hr
        subst hb; subst hn
        simp only [RO.run] at hr
        split at hr
        · rename_i p hp
          rw [hp] at e
          obtain ⟨A, hA, e⟩ := g_ptr e
          obtain ⟨X, hX, hrun⟩ := load_ok hR hA hu hr
          exact ⟨X, hX, by simp [execOp, ho, Instr.loadAt, Instr.sureAddr, e, hrun]⟩
        · simp at hr
      simp only [ht, cond_true] at hc
      cases ha : isAggT P t with
      | true =>
        simp only [ha, cond_true, Option.some.injEq, IOp.r.injEq] at hc; subst hc
        exact key _ _ ha.symm (by simp [ha]) hr
      | false =>
        simp only [ha, cond_false, Option.some.injEq, IOp.r.injEq] at hc; subst hc
        exact key _ _ ha.symm (by simp [ha]) hr
  · simp at hc

theorem R_look {o : Oper} {t : TypeId} {x k : Operand} {ok : Bool} (ho : o.op = .lookup t x k ok) {q : RO} (hc : cOp0 P (.lookup t x k ok) = some (.r q)) (hF : FR φ fr a) (hR : Rel ng (glF gl) φ h w) {v : AV} (hr : q.run gl fr h = some v) :
    ∃ X, g φ v = some X ∧ (execOp a.eval o).run P w = .ok (.value X) w := by
  simp only [cOp0] at hc
  split at hc
  · rename_i x' k' kt el h1 h2 hu
    split at hc
    · rename_i eq z heq hz
      simp only [Option.some.injEq, IOp.r.injEq] at hc; subst hc
      obtain ⟨Z, hZ, hzr⟩ := run_zero hz φ
      have ex := rd_ok hF h1
      have ek := rd_ok hF h2
      have fin : ∀ (u : AV) (U : Value) (b : Bool), g φ u = some U → v = (bif ok then .tup [u, .bool b] else u) → g φ v = some (if ok then .tuple #[U, .bool b] else U) := by
        intro u U b hu hv
        subst hv
        cases ok <;> simp [g, gL, hu]
      simp only [RO.run] at hr
      split at hr
      · rename_i hm
        rw [hm] at ex
        have ex := g_mapN ex
        cases hf : keyFits eq (k'.rd fr) with
        | false => simp [hf] at hr
        | true =>
          simp only [hf, cond_true, Option.some.injEq] at hr
          refine ⟨_, fin z Z false hZ hr.symm, ?_⟩
          simp only [execOp, ho, Instr.lookup, Sem.run_bind, run_underlying hu, Result.andThen_ok, ex, Sem.run_pure, chk_ok heq ek hf]
          have := find_ok (P := P) (w := w) heq ek (es := []) (ents := []) (p := none) rfl rfl
          rw [this]
          simp [foundAt, hzr]
      · rename_i id hm
        rw [hm] at ex
        obtain ⟨L, hL, ex⟩ := g_mapS ex
        split at hr
        · rename_i es hg
          cases hf : keyFits eq (k'.rd fr) with
          | false => simp [hf] at hr
          | true =>
            simp only [hf, cond_true] at hr
            obtain ⟨L', hL', _, ents, clock, hh, hp, _, _⟩ := hR.mpAt hg
            rw [hL] at hL'; simp only [Option.some.injEq] at hL'; subst hL'
            split at hr
            · rename_i u hfind
              simp only [Option.some.injEq] at hr
              rcases mFind_pos 0 hfind with ⟨h1, _⟩ | ⟨j, k2, v2, h1, h2, h3⟩
              · cases h1
              · simp only [Option.some.injEq] at h1; subst h1
                obtain ⟨K, V, hps, hK, hV⟩ := gP_get hp j _ _ h2
                refine ⟨_, fin u V true hV hr.symm, ?_⟩
                have hfd := find_ok (P := P) (w := w) heq ek hp h3
                simp only [Nat.zero_add] at hfd
                rw [List.getElem?_map] at hps
                cases he : ents.toList[j]? with
                | none => rw [he] at hps; cases hps
                | some e =>
                  rw [he] at hps
                  simp only [Option.map_some, Option.some.injEq, Prod.mk.injEq] at hps
                  have hfound : foundAt ents.toList 0 (some j) = some (j, V) := by simp only [foundAt, Nat.sub_zero, he, Option.map_some, hps.2]
                  rw [hfound] at hfd
                  simp only [execOp, ho, Instr.lookup, Sem.run_bind, run_underlying hu, Result.andThen_ok, ex, run_getMap hh, Sem.run_pure, chk_ok heq ek hf, hfd]
            · rename_i hfind
              simp only [Option.some.injEq] at hr
              rcases mFind_pos 0 hfind with ⟨_, h3⟩ | ⟨j, k2, v2, h1, h2, h3⟩
              · refine ⟨_, fin z Z false hZ hr.symm, ?_⟩
                have hfd := find_ok (P := P) (w := w) heq ek hp h3
                simp only [execOp, ho, Instr.lookup, Sem.run_bind, run_underlying hu, Result.andThen_ok, ex, run_getMap hh, Sem.run_pure, chk_ok heq ek hf, hfd, foundAt, hzr]
              · cases h1
            · simp at hr
        · simp at hr
      · simp at hr
    · simp at hc
  · simp at hc

theorem gL_u8 {φ : Mp} : ∀ (l : List UInt8), gL φ (l.map fun x => AV.int .u8 (.ofNat x.toNat)) = some ((l.map fun x => Int.ofNat x.toNat).map (Value.int .u8))
  | [] => rfl
  | x :: l => by
    have ih := gL_u8 (φ := φ) l
    simp only [List.map_cons, gL, g, ih, Option.bind_some, Option.map_some]
theorem u8_back (l : List UInt8) : ((l.map fun x => Int.ofNat x.toNat).map fun n => UInt8.ofNat n.toNat) = l := by
  rw [List.map_map]
  conv => rhs; rw [← List.map_id l]
  exact List.map_congr_left fun x _ => by simp
theorem pack_bytes {φ : Mp} {c : Cl} {b : BS} {CS : List Value} (h : c.pack = some b) (hc : gL φ c.list = some CS) : CS = (b.list.map fun x => Int.ofNat x.toNat).map (Value.int .u8) := by
  rw [← Cl.pack_ok h, Cl.list_byt, gL_u8] at hc
  simpa using hc.symm

theorem push_fold : ∀ (ns : List Int) (b : ByteArray), ns.foldl (fun r n => r.push (UInt8.ofNat n.toNat)) b = ⟨(b.data.toList ++ ns.map fun n => UInt8.ofNat n.toNat).toArray⟩
  | [], b => by simp
  | n :: ns, b => by
    rw [List.foldl_cons, push_fold ns]
    have : (b.push (UInt8.ofNat n.toNat)).data = b.data.push (UInt8.ofNat n.toNat) := rfl
    rw [this]
    simp

theorem R_b2s {o : Oper} {s t : TypeId} {x : Operand} (ho : o.op = .convert s t x) {q : RO} (hc : cOp0 P (.convert s t x) = some (.r q)) (hF : FR φ fr a) (hR : Rel ng (glF gl) φ h w) {v : AV} (hr : q.run gl fr h = some v) :
    ∃ X, g φ v = some X ∧ (execOp a.eval o).run P w = .ok (.value X) w := by
  simp only [cOp0] at hc
  split at hc
  · simp at hc
  · simp at hc
  · simp at hc
  · split at hc <;> simp at hc
  · rename_i x' el h1 hu1 hu2
    split at hc
    · rename_i hu3
      simp only [Option.some.injEq, IOp.r.injEq] at hc; subst hc
      have e := rd_ok hF h1
      simp only [RO.run] at hr
      have red : ∀ X, a.eval x = X → (∃ A n c, X = .slice A n c) → (execOp a.eval o).run P w = ((Conv.bytesToString X).run P w).andThen fun v w => .ok (.value v) w := by
        rintro X hX ⟨A, n, c, rfl⟩
        simp only [execOp, ho, convert, Sem.run_bind, run_underlying hu1, run_underlying hu2, run_underlying hu3, Result.andThen_ok, hX]
        rfl
      split at hr
      · rename_i n c hm
        simp only [Option.some.injEq] at hr; subst hr
        rw [hm] at e
        obtain ⟨A, m, e, hA⟩ := g_slcO e
        cases A with
        | some A => simp at hA
        | none =>
          refine ⟨.string ⟨[].toArray⟩, rfl, ?_⟩
          rw [red _ e ⟨_, _, _, rfl⟩]
          rfl
      · rename_i p n c hm
        rw [hm] at e
        obtain ⟨A, m, hA, e, _⟩ := g_slc e
        split at hr
        · rename_i cs hcs
          simp only [Option.map_eq_some_iff] at hr
          obtain ⟨b, hb, rfl⟩ := hr
          obtain ⟨CS, hCS, hl, hcell⟩ := cellsC_ok hR hcs hA
          have hCe := pack_bytes hb hCS
          subst hCe
          refine ⟨_, rfl, ?_⟩
          rw [red _ e ⟨_, _, _, rfl⟩, run_bytesToString w A n m _ (by rw [← hl]; exact run_loadCells_list w A _ hcell)]
          simp only [Result.andThen_ok]
          congr 3
          rw [push_fold, u8_back]
          simp
        · simp at hr
      · simp at hr
    · simp at hc
  · split at hc
    · rw [Bool.cond_eq_ite] at hc; split at hc <;> simp at hc
    · simp at hc
  · simp at hc

theorem R_len {o : Oper} {c : Call} (ho : o.op = .call c) {q : RO} (hc : cOp0 P (.call c) = some (.r q)) (hF : FR φ fr a) (hR : Rel ng (glF gl) φ h w) {v : AV} (hr : q.run gl fr h = some v) :
    ∃ X, g φ v = some X ∧ (execOp a.eval o).run P w = .ok (.value X) w := by
  simp only [cOp0] at hc
  split at hc
  · rename_i args hargs
    obtain ⟨callee, as, tys⟩ := c
    dsimp only at hc hargs
    split at hc
    · rename_i f
      cases hf : isFn P f <;> simp [hf] at hc
    · simp [Option.map_eq_some_iff] at hc
    · rename_i b
      unfold cBuiltin at hc
      obtain ⟨cst, run0⟩ := run_builtin (P := P) ho a
      split at hc
      · split at hc
        · split at hc
          · simp at hc
          · simp only [Bool.cond_eq_ite] at hc
            split at hc <;> simp at hc
        · simp at hc
      · split at hc
        · simp only [Bool.cond_eq_ite] at hc
          split at hc <;> simp at hc
        · simp at hc
      · rename_i x'
        have hx : ∃ x, as = #[x] ∧ cOd x = some x' := by
          obtain ⟨as⟩ := as
          cases as with
          | nil => simp [cOds] at hargs
          | cons x xs =>
            unfold cOds at hargs
            split at hargs
            · rename_i p q hp hq
              simp only [Option.some.injEq, List.cons.injEq] at hargs
              obtain ⟨rfl, rfl⟩ := hargs
              cases xs with
              | nil => exact ⟨x, rfl, hp⟩
              | cons y ys => unfold cOds at hq; split at hq <;> simp at hq
            · simp at hargs
        obtain ⟨x, rfl, hx⟩ := hx
        have e := rd_ok hF hx
        split at hc
        · simp at hc
        · simp at hc
        · simp at hc
        · rename_i kt el hu
          simp only [Option.bind_eq_some_iff] at hu
          obtain ⟨t, ht, hu⟩ := hu
          simp only [Option.some.injEq, IOp.r.injEq] at hc; subst hc
          simp only [RO.run] at hr
          split at hr
          · rename_i hm
            simp only [Option.some.injEq] at hr; subst hr
            rw [hm] at e
            have e := g_mapN e
            exact ⟨_, rfl, by rw [run0]; simp [builtin, Builtin.len_, ht, run_underlying hu, e, goInt]⟩
          · rename_i id hm
            rw [hm] at e
            obtain ⟨L, hL, e⟩ := g_mapS e
            split at hr
            · rename_i es hg
              simp only [Option.some.injEq] at hr; subst hr
              obtain ⟨L', hL', _, ents, clock, hh, hp, _, _⟩ := hR.at_ id _ hg
              rw [hL] at hL'; simp only [Option.some.injEq] at hL'; subst hL'
              have hlen : ents.size = es.length := by have := gP_length hp; simpa using this
              exact ⟨_, rfl, by rw [run0]; simp [builtin, Builtin.len_, ht, run_underlying hu, e, goInt, run_getMap hh, hlen]⟩
            · simp at hr
          · simp at hr
        · simp at hc
      · split at hc <;> simp at hc
      · simp at hc
      · simp at hc
      · split at hc
        · split at hc <;> simp at hc
        · simp at hc
      · split at hc
        · split at hc
          · simp only [Bool.cond_eq_ite] at hc
            split at hc <;> simp at hc
          · simp at hc
        · simp at hc
      · simp at hc
    · simp at hc
  · simp at hc

/-- What reads memory gives what the evaluator says. -/
theorem R_ok {o : Oper} {q : RO} (hc : cOp0 P o.op = some (.r q)) (hF : FR φ fr a) (hR : Rel ng (glF gl) φ h w) {v : AV} (hr : q.run gl fr h = some v) :
    ∃ X, g φ v = some X ∧ (execOp a.eval o).run P w = .ok (.value X) w := by
  cases ho : o.op with
  | load t x => rw [ho] at hc; exact R_load ho hc hF hR hr
  | lookup t x k c => rw [ho] at hc; exact R_look ho hc hF hR hr
  | convert s t x => rw [ho] at hc; exact R_b2s ho hc hF hR hr
  | call c => rw [ho] at hc; exact R_len ho hc hF hR hr
  | _ =>
    rw [ho] at hc
    exfalso
    revert hc
    unfold cOp0
    simp only [Bool.cond_eq_ite]
    repeat' split
    all_goals first
      | (simp; done)
      | (exfalso; simp_all; done)
end
end Ax
namespace Ax
open Go
variable [Sy]

section
variable {P : Program} {φ : Mp} {fr : T AV} {a : Act} {w : World}

noncomputable def AGives (P : Program) (φ : Mp) (a : Act) (o : Oper) (w : World) (id : Nat) (ob : Option AO) (v : AV) : Prop :=
  ∃ (L : Lc) (X : Value) (w' : World), (execOp a.eval o).run P w = .ok (.value X) w' ∧ g (upd φ id L) v = some X ∧ w'.os = w.os ∧ w'.tape = w.tape ∧ w'.output = w.output ∧
    (match ob with
    | some obj => L.blk = w.heap.size ∧ At (upd φ id L) L obj w' ∧ w'.heap.size = w.heap.size + 1 ∧ ∀ b, b < w.heap.size → w'.heap[b]? = w.heap[b]?
    | none => w' = w)

theorem push_new (w : World) (ob : Obj) : ({ w with heap := w.heap.push ob } : World).heap[w.heap.size]? = some ob := by simp
theorem push_old (w : World) (ob : Obj) (b : Nat) (hb : b < w.heap.size) : ({ w with heap := w.heap.push ob } : World).heap[b]? = w.heap[b]? := by
  simp only [Array.getElem?_push]; rw [if_neg (by omega)]

theorem zeros_list (c : Nat) (z : List AV) : (zeros c z).list = List.flatten (List.replicate c z) := by
  unfold zeros
  split
  · show Cl.avs c 0 = _
    induction c with
    | zero => rfl
    | succ c ih => rw [List.replicate_succ, List.flatten_cons, ← ih]; rfl
  · rfl

/-- A row of known cells, new. -/
theorem row_at {id : Nat} {el : TypeId} {cs : Cl} {XS : List Value} (hid : φ id = none) (hc : gL φ cs.list = some XS) (e : Nat) (w' : World)
    (hw : w'.heap[w.heap.size]? = some (.cells XS.toArray el (0, 0))) : At (upd φ id ⟨w.heap.size, 0, XS.length, e, undef⟩) ⟨w.heap.size, 0, XS.length, e, undef⟩ (.row el cs none) w' := by
  refine ⟨XS.toArray, 0, 0, XS, hw, gL_sub (upd_sub _ hid) hc, by simp, Nat.le_refl _, fun _ => rfl, fun n h => by simp at h, fun i _ => by simp, .inl rfl⟩

theorem row_atM {id : Nat} {el : TypeId} {cs : Cl} {XS : List Value} (hid : φ id = none) (hc : gL φ cs.list = some XS) (e : Nat) (w' : World) {tl : Option Nat} (htl : tl = none ∨ tl = some 0)
    (hw : w'.heap[w.heap.size]? = some (.cells XS.toArray el (0, 0))) : At (upd φ id ⟨w.heap.size, 0, XS.length, e, undef⟩) ⟨w.heap.size, 0, XS.length, e, undef⟩ (.row el cs tl) w' := by
  refine ⟨XS.toArray, 0, 0, XS, hw, gL_sub (upd_sub _ hid) hc, by simp, Nat.le_refl _, fun _ => rfl, fun n h => ?_, fun i _ => by simp, .inl rfl⟩
  rcases htl with rfl | rfl
  · cases h
  · simp only [Option.some.injEq] at h
    exact .inr ⟨h.symm, rfl, by simp, rfl⟩

theorem A_box {o : Oper} {el : TypeId} {x : Operand} (ho : o.op = .box el x) {q : AOp} (hc : cOp0 P (.box el x) = some (.a q)) (hF : FR φ fr a) {id : Nat} (hid : φ id = none) {ob : Option AO} {v : AV}
    (hr : q.run fr id = some (ob, v)) : AGives P φ a o w id ob v := by
  simp only [cOp0, Option.map_eq_some_iff, IOp.a.injEq] at hc
  obtain ⟨d, hd, rfl⟩ := hc
  simp only [AOp.run] at hr
  cases hany : (d.rd fr).isAny with
  | true => rw [hany] at hr; simp at hr
  | false =>
  rw [hany] at hr
  simp only [cond_false, Option.some.injEq, Prod.mk.injEq] at hr
  obtain ⟨rfl, rfl⟩ := hr
  have e := g_cells hany (rd_ok hF hd)
  refine ⟨⟨w.heap.size, 0, (a.eval x).cells.toList.length, 1, undef⟩, .pointer (some ⟨w.heap.size, 0, none⟩), { w with heap := w.heap.push (.cells (a.eval x).cells el) }, ?_, ?_, rfl, rfl, rfl, rfl, ?_, by simp, fun b hb => push_old w _ b hb⟩
  · simp [execOp, ho, Instr.box, newVar, newRow]
  · simp [g, gA, upd_self]
  · exact row_atM (cs := .gen _) hid e 1 _ (mark_ok _) (by simp)

theorem A_alloc {o : Oper} {el : TypeId} (ho : o.op = .alloc el) {q : AOp} (hc : cOp0 P (.alloc el) = some (.a q)) {id : Nat} (hid : φ id = none) {ob : Option AO} {v : AV}
    (hr : q.run fr id = some (ob, v)) : AGives P φ a o w id ob v := by
  simp only [cOp0, Option.map_eq_some_iff, IOp.a.injEq] at hc
  obtain ⟨z, hz, rfl⟩ := hc
  simp only [AOp.run] at hr
  change (bif z.isAny then none else _) = _ at hr
  rw [zeroOf_na hz] at hr
  simp only [cond_false, Option.some.injEq, Prod.mk.injEq] at hr
  obtain ⟨rfl, rfl⟩ := hr
  obtain ⟨Z, hZ, hzr⟩ := run_zero hz φ
  have e := g_cells (zeroOf_na hz) hZ
  refine ⟨⟨w.heap.size, 0, Z.cells.toList.length, 1, undef⟩, .pointer (some ⟨w.heap.size, 0, none⟩), { w with heap := w.heap.push (.cells Z.cells el) }, ?_, ?_, rfl, rfl, rfl, rfl, ?_, by simp, fun b hb => push_old w _ b hb⟩
  · simp [execOp, ho, Instr.alloc, newVar, newRow, hzr]
  · simp [g, gA, upd_self]
  · exact row_atM (cs := .gen _) hid e 1 _ (mark_ok _) (by simp)

theorem flat_get {α : Type} (z : List α) (hz : 0 < z.length) : ∀ (n i : Nat), i < n * z.length → (List.flatten (List.replicate n z))[i]? = z[i % z.length]?
  | 0, i, h => by simp at h
  | n + 1, i, h => by
    rw [List.replicate_succ, List.flatten_cons]
    by_cases hi : i < z.length
    · rw [List.getElem?_append_left hi, Nat.mod_eq_of_lt hi]
    · have h2 : (n + 1) * z.length = n * z.length + z.length := Nat.succ_mul _ _
      have h3 := Nat.mod_eq_sub_mod (show z.length ≤ i by omega)
      rw [List.getElem?_append_right (by omega), flat_get z hz n (i - z.length) (by omega), h3]

theorem flat_length {α : Type} (z : List α) (n : Nat) : (List.flatten (List.replicate n z)).length = n * z.length := by simp

theorem zeros_eq (z : Array Value) (hz : 0 < z.size) (n : Nat) : ((Array.range (n * z.size)).map (fun x => z[x % z.size]!)).toList = List.flatten (List.replicate n z.toList) := by
  apply List.ext_getElem?
  intro i
  by_cases hi : i < n * z.size
  · rw [flat_get z.toList (by simpa using hz) n i (by simpa using hi)]
    have hm : i % z.size < z.size := Nat.mod_lt _ hz
    simp [hi, hm]
  · rw [List.getElem?_eq_none (by simp; omega), List.getElem?_eq_none (by simp; omega)]

theorem gL_flat {z : List AV} {Z : List Value} (h : gL φ z = some Z) : ∀ n, gL φ (List.flatten (List.replicate n z)) = some (List.flatten (List.replicate n Z))
  | 0 => by simp [gL]
  | n + 1 => by simp only [List.replicate_succ, List.flatten_cons]; exact gL_append h (gL_flat h n)

theorem A_bsl {o : Oper} {t : TypeId} {len : Nat} {parts : Array (Nat × Operand)} (ho : o.op = .buildSlice t len parts) {q : AOp} (hc : cOp0 P (.buildSlice t len parts) = some (.a q)) (hF : FR φ fr a) {id : Nat} (hid : φ id = none) {ob : Option AO} {v : AV}
    (hr : q.run fr id = some (ob, v)) : AGives P φ a o w id ob v := by
  simp only [cOp0] at hc
  split at hc
  · rename_i el hu
    split at hc
    · rename_i z hz
      simp only [Bool.cond_eq_ite] at hc
      split at hc
      · rename_i hb
        simp only [Bool.and_eq_true, Nat.beq_eq, Nat.ble_eq, blt_iff] at hb
        obtain ⟨⟨hzl, hpos⟩, hle⟩ := hb
        simp only [Option.map_eq_some_iff, IOp.a.injEq] at hc
        obtain ⟨l, hl, rfl⟩ := hc
        simp only [AOp.run] at hr
        split at hr
        · rename_i cs hcs
          simp only [Option.some.injEq, Prod.mk.injEq] at hr
          obtain ⟨rfl, rfl⟩ := hr
          obtain ⟨Z, hZ, hzr⟩ := run_zero hz φ
          have ez := g_cells (zeroOf_na hz) hZ
          have hzs : Z.cells.size = P.cellsOf el := by have := gL_length ez; simp at this; omega
          obtain ⟨i, _, hi, _, _⟩ := zeroOf_ok hz
          have hsz : ∀ w, (Go.sizeOf el).run P w = .ok (P.cellsOf el) w := fun w => by simp [Go.sizeOf, typeInfo, hi, Program.cellsOf]
          have hbase : gL φ (List.flatten (List.replicate len z.cells)) = some ((Array.range (len * P.cellsOf el)).map (fun x => Z.cells[x % Z.cells.size]!)).toList := by
            rw [← hzs, zeros_eq _ (by omega)]; exact gL_flat ez len
          obtain ⟨R, hR, hfill⟩ := aFill_ok hF hl hcs hbase
          refine ⟨⟨w.heap.size, 0, R.toList.length, 1, undef⟩, .slice (some ⟨w.heap.size, 0, none⟩) len len, { w with heap := w.heap.push (.cells R el) }, ?_, ?_, rfl, rfl, rfl, rfl, ?_, by simp, fun b hb => push_old w _ b hb⟩
          · have h24 : ¬ len * P.cellsOf el > 2 ^ 24 := by omega
            have e2 : (parts.map fun x => (x.1, a.eval x.2)).toList = parts.toList.map fun p => (p.1, a.eval p.2) := by simp
            simp only [execOp, ho, Instr.buildSlice, Sem.run_bind, run_underlying hu, Result.andThen_ok, hsz, h24, if_false, e2]
            by_cases h0 : len * P.cellsOf el = 0
            · have hl0 : len = 0 := by rcases Nat.mul_eq_zero.1 h0 with h | h; exact h; omega
              subst hl0
              simp only [Nat.zero_mul] at hfill h0 ⊢
              have r0 : Array.range 0 = #[] := rfl
              simp only [r0, Array.map_empty] at hfill
              simp [hfill, newRow, r0]
            · simp only [h0, if_false, Sem.run_bind, hzr, Result.andThen_ok, Sem.run_pure, hfill]
              rfl
          · simp [g, gA, upd_self]
          · exact row_at (cs := .gen _) hid hR 1 _ (by simp)
        · simp at hr
      · simp at hc
    · simp at hc
  · simp at hc

theorem A_mkmap {o : Oper} {t : TypeId} {r : Option Operand} (ho : o.op = .makeMap t r) {q : AOp} (hc : cOp0 P (.makeMap t r) = some (.a q)) {id : Nat} {ob : Option AO} {v : AV}
    (hr : q.run fr id = some (ob, v)) : AGives P φ a o w id ob v := by
  have hq : q = .mkmap ∧ (r = none ∨ ∃ k n kt el, r = some (.const (.int k n)) ∧ P.underlying t = some (.map kt el)) := by
    cases r with
    | none => simp only [cOp0, Option.some.injEq, IOp.a.injEq] at hc; exact ⟨hc.symm, .inl rfl⟩
    | some r =>
      cases r with
      | const c =>
        cases c with
        | int k n =>
          simp only [cOp0] at hc
          split at hc
          · rename_i kt el hu
            simp only [Option.some.injEq, IOp.a.injEq] at hc
            exact ⟨hc.symm, .inr ⟨k, n, kt, el, rfl, hu⟩⟩
          · simp at hc
        | _ => simp [cOp0] at hc
      | _ => simp [cOp0] at hc
  obtain ⟨rfl, hq⟩ := hq
  simp only [AOp.run, Option.some.injEq, Prod.mk.injEq] at hr
  obtain ⟨rfl, rfl⟩ := hr
  refine ⟨⟨w.heap.size, 0, 0, 1, undef⟩, .map (some w.heap.size), { w with heap := w.heap.push (.map #[] 0) }, ?_, ?_, rfl, rfl, rfl, rfl, ⟨#[], 0, by simp, by simp [gP], by simp, by simp⟩, by simp, fun b hb => push_old w _ b hb⟩
  · rcases hq with rfl | ⟨k, n, kt, el, rfl, hu⟩
    · simp [execOp, ho, Instr.makeMap]
    · simp [execOp, ho, Instr.makeMap, run_underlying hu, Act.eval, asInt, asIntOf]
  · simp [g, upd_self]

theorem A_rng {o : Oper} {t : TypeId} {x : Operand} (ho : o.op = .range t x) {q : AOp} (hc : cOp0 P (.range t x) = some (.a q)) (hF : FR φ fr a) {id : Nat} {ob : Option AO} {v : AV}
    (hr : q.run fr id = some (ob, v)) : AGives P φ a o w id ob v := by
  simp only [cOp0] at hc
  split at hc
  · rename_i d hd hu
    simp only [Option.some.injEq, IOp.a.injEq] at hc; subst hc
    simp only [AOp.run] at hr
    have e := rd_ok hF hd
    split at hr
    · rename_i s hs
      simp only [Option.some.injEq, Prod.mk.injEq] at hr
      obtain ⟨rfl, rfl⟩ := hr
      rw [hs] at e
      have e := g_str e
      refine ⟨⟨w.heap.size, 0, 0, 1, undef⟩, .pointer (some ⟨w.heap.size, 0, none⟩), { w with heap := w.heap.push (.stringIter ⟨s.list.toArray⟩ 0) }, ?_, ?_, rfl, rfl, rfl, rfl, by simp [At], by simp, fun b hb => push_old w _ b hb⟩
      · simp [execOp, ho, Instr.range, run_underlying hu, e]
      · simp [g, gA, upd_self]
    · simp at hr
  · simp at hc

theorem wrap_small {n : Nat} (h : n < 9223372036854775808) : IntKind.i64.wrap (Int.ofNat n) = n := by
  rw [← wr_eq]
  have : Nat.blt n (roof .i64) = true := (blt_iff _ _).2 h
  simp [wr, this]

theorem A_mksl {o : Oper} {t : TypeId} {x y : Operand} (ho : o.op = .makeSlice t x y) {q : AOp} (hc : cOp0 P (.makeSlice t x y) = some (.a q)) (hF : FR φ fr a) {id : Nat} (hid : φ id = none) {ob : Option AO} {v : AV}
    (hr : q.run fr id = some (ob, v)) : AGives P φ a o w id ob v := by
  simp only [cOp0] at hc
  split at hc
  · rename_i x' y' el h1 h2 hu
    split at hc
    · rename_i z hz
      simp only [Bool.cond_eq_ite] at hc
      split at hc
      · rename_i hb
        simp only [Bool.and_eq_true, Nat.beq_eq, blt_iff] at hb
        obtain ⟨hzl, hpos⟩ := hb
        simp only [Option.some.injEq, IOp.a.injEq] at hc; subst hc
        simp only [AOp.run] at hr
        have e1 := rd_ok hF h1
        have e2 := rd_ok hF h2
        split at hr
        · rename_i l c hl' hc'
          rw [hl'] at e1; rw [hc'] at e2
          have e1 := g_int e1
          have e2 := g_int e2
          simp only [Bool.cond_eq_ite] at hr
          split at hr
          · rename_i hb
            simp only [Bool.and_eq_true, Nat.ble_eq, blt_iff] at hb
            obtain ⟨⟨hlc, hbytes⟩, hc63⟩ := hb
            simp only [Option.some.injEq, Prod.mk.injEq] at hr
            obtain ⟨rfl, rfl⟩ := hr
            obtain ⟨Z, hZ, hzr⟩ := run_zero hz φ
            have ez := g_cells (zeroOf_na hz) hZ
            have hzs : Z.cells.size = P.cellsOf el := by have := gL_length ez; simp at this; omega
            obtain ⟨i, _, hi, _, _⟩ := zeroOf_ok hz
            have hsz : ∀ w, (Go.sizeOf el).run P w = .ok (P.cellsOf el) w := fun w => by simp [Go.sizeOf, typeInfo, hi, Program.cellsOf]
            have hby : P.bytesOf el = i.bytes := by simp [Program.bytesOf, hi]
            have hflat := gL_flat ez c
            have hrow : ((Array.range (c * P.cellsOf el)).map (fun x => Z.cells[x % Z.cells.size]!)) = (List.flatten (List.replicate c Z.cells.toList)).toArray := by
              apply Array.ext'; rw [← hzs, zeros_eq _ (by omega)]
            refine ⟨⟨w.heap.size, 0, (List.flatten (List.replicate c Z.cells.toList)).length, 1, undef⟩, .slice (some ⟨w.heap.size, 0, none⟩) l c, { w with heap := w.heap.push (.cells (List.flatten (List.replicate c Z.cells.toList)).toArray el) }, ?_, ?_, rfl, rfl, rfl, rfl, ?_, by simp, fun b hb => push_old w _ b hb⟩
            · have w1 : IntKind.i64.wrap (Int.ofNat l) = l := wrap_small (by omega)
              have w2 : IntKind.i64.wrap (Int.ofNat c) = c := wrap_small hc63
              have hnot : ∀ n : Nat, n ≤ c → (decide (((n : Nat) : Int) < 0) || decide ((i.bytes : Int) * ((n : Nat) : Int) > 2 ^ 48)) = false := by
                intro n hn
                have : i.bytes * n ≤ i.bytes * c := Nat.mul_le_mul_left _ hn
                rw [hby] at hbytes
                have h2 : ((i.bytes * n : Nat) : Int) ≤ 281474976710656 := by omega
                have h3 : ((i.bytes : Int) * (n : Int)) = ((i.bytes * n : Nat) : Int) := by simp
                rw [h3]
                simp only [Bool.or_eq_false_iff, decide_eq_false_iff_not]
                refine ⟨by omega, by omega⟩
              have hlc' : decide ((l : Int) < 0) = false := by simp
              have hlc'' : decide ((l : Int) > (c : Int)) = false := by simp; omega
              simp only [execOp, ho, Instr.makeSlice, Sem.run_bind, run_underlying hu, Result.andThen_ok, e1, e2, asInt, asIntOf, Sem.run_pure, typeInfo, run_program, hi, w1, w2, hnot c (Nat.le_refl _), hlc', hlc'', Bool.or_self, Bool.false_eq_true, if_false, run_askRoom, Int.toNat_natCast, hsz]
              by_cases h0 : c * P.cellsOf el = 0
              · have hc0 : c = 0 := by rcases Nat.mul_eq_zero.1 h0 with h | h; exact h; omega
                subst hc0
                have r0 : Array.range 0 = #[] := rfl
                simp [newRow, r0]
              · simp only [h0, if_false, Sem.run_bind, hzr, Result.andThen_ok, Sem.run_pure, hrow]
                rfl
            · simp [g, gA, upd_self]
            · exact row_at (cs := zeros c _) hid (by rw [zeros_list]; exact hflat) 1 _ (by simp)
          · simp at hr
        · simp at hr
      · simp at hc
    · simp at hc
  · simp at hc
end
end Ax
namespace Ax
open Go
variable [Sy]

section
variable {P : Program} {φ : Mp} {fr : T AV} {a : Act} {w : World}

theorem A_s2b {o : Oper} {s t : TypeId} {x : Operand} (ho : o.op = .convert s t x) {q : AOp} (hc : cOp0 P (.convert s t x) = some (.a q)) (hF : FR φ fr a) {id : Nat} {ob : Option AO} {v : AV}
    (hr : q.run fr id = some (ob, v)) : AGives P φ a o w id ob v := by
  simp only [cOp0] at hc
  split at hc
  · simp at hc
  · simp at hc
  · simp at hc
  · rename_i x' el h1 hu1 hu2
    split at hc
    · rename_i hu3
      simp only [Option.some.injEq, IOp.a.injEq] at hc; subst hc
      have e := rd_ok hF h1
      simp only [AOp.run] at hr
      split at hr
      · rename_i b hb
        simp only [Bool.cond_eq_ite] at hr
        split at hr
        · rename_i hle
          rw [Nat.ble_eq] at hle
          have hbn : b.len = b.list.length := (BS.list_len b).symm
          rw [hbn] at hle
          simp only [Option.some.injEq, Prod.mk.injEq] at hr
          obtain ⟨rfl, rfl⟩ := hr
          rw [hb] at e
          have e := g_str e
          rw [hbn]
          -- the capacity
          have hsz : (⟨b.list.toArray⟩ : ByteArray).size = b.list.length := bsize b.list
          let q : Question := .appendCap b.list.length 0 el
          obtain ⟨cap, hcap⟩ : ∃ cap, cap = q.cut (w.tape w.drawn q) := ⟨_, rfl⟩
          have hge : b.list.length ≤ cap := by rw [hcap]; simp only [q, Question.cut]; omega
          let XS : List Value := b.list.map fun c => Value.int .u8 c.toNat
          let C : Array Value := (XS ++ List.replicate (cap - b.list.length) (Value.int .u8 0)).toArray
          have hC : C.size = cap := by simp [C, XS]; omega
          refine ⟨⟨w.heap.size, 0, cap, 1, undef⟩, .slice (some ⟨w.heap.size, 0, none⟩) b.list.length cap,
            { w with drawn := w.drawn + 1, heap := w.heap.push (.cells C el (cap, cap + 1)) }, ?_, ?_, rfl, rfl, rfl, rfl, ?_, by simp, fun k hk => ?_⟩
          · have hch : (choose (.appendCap b.list.length 0 el)).run P w = .ok cap { w with drawn := w.drawn + 1 } := by
              rw [hcap]; simp [choose, Sem.run, Question.forced, q]
            have hrow : (b.list.toArray.map fun c => Value.int .u8 c.toNat) ++ Array.replicate (cap - b.list.length) (Value.int .u8 0) = C := by
              apply Array.ext'; simp [C, XS]
            simp only [execOp, ho, convert, Sem.run_bind, run_underlying hu1, run_underlying hu2, run_underlying hu3, Result.andThen_ok, e, Conv.stringToBytes, hsz, hch, hrow, newRow, run_newObj, Sem.run_pure, markStringish, run_shape]
            simp only [World.shape?, Array.getElem?_push_size, hC, run_freeze, Result.andThen_ok]
            congr 1
            simp only [World.freeze, Nat.one_ne_zero, if_false]
            congr 1
            apply Array.ext (by simp)
            intro k hk1 hk2
            simp only [Array.getElem_modify, Array.getElem_push]
            simp at hk1
            by_cases hk : k < w.heap.size
            · simp [hk]; omega
            · have : k = w.heap.size := by omega
              subst this
              simp
          · simp [g, gA, gCap, upd_self, hge]
          · refine ⟨C, cap, cap + 1, XS, by simp, ?_, by show 0 + cap ≤ C.size; omega, by simp [XS]; omega, fun h => by simp at h, fun n h => ?_, fun i hi => ?_, .inr (by omega)⟩
            · have : ∀ (l : List UInt8) (ψ : Mp), gL ψ (l.map fun c => AV.int .u8 c.toNat) = some (l.map fun c => Value.int .u8 c.toNat) := by
                intro l ψ
                induction l with
                | nil => rfl
                | cons c l ih => simp [gL, g, ih]
              rw [Cl.list_byt]; exact this b.list _
            · simp only [Option.some.injEq] at h; subst h; exact .inl ⟨rfl, by omega⟩
            · simp only [Nat.zero_add, C]
              rw [List.getElem?_toArray, List.getElem?_append_left (by simpa using hi)]
          · simp only [Array.getElem?_push]; rw [if_neg (by omega)]
        · simp at hr
      · simp at hr
    · simp at hc
  · split at hc <;> simp at hc
  · split at hc
    · rw [Bool.cond_eq_ite] at hc; split at hc <;> simp at hc
    · simp at hc
  · simp at hc

theorem sliceBounds_max {lo hi : Option AV} {LO : Option Value} {y : AV} {HI : Value} {mx : AV} {MX : Value} {m len cap l h : Nat} (hm : toNat? mx = some m) (hmx : g φ mx = some MX) (hmc : m ≤ cap) (hhi0 : hi = some y)
    (hb : aBounds lo hi len m = some (l, h)) (hlo : RO' φ lo LO) (hhi : g φ y = some HI) (b : Bool) :
    (Instr.sliceBounds b len cap LO (some HI) (some MX)).run P w = .ok (l, h, m) w ∧ l ≤ h ∧ h ≤ m := by
  subst hhi0
  unfold aBounds at hb
  split at hb
  · rename_i h' l' eh el
    cases hc : (Nat.ble h' m && Nat.ble l' h') with
    | false => simp [hc] at hb
    | true =>
      simp only [hc, cond_true, Option.some.injEq, Prod.mk.injEq] at hb
      obtain ⟨rfl, rfl⟩ := hb
      simp only [Bool.and_eq_true, Nat.ble_eq] at hc
      refine ⟨?_, hc.2, hc.1⟩
      cases lo with
      | none =>
        cases LO with
        | some _ => exact hlo.elim
        | none => simp only [Option.some.injEq] at el; subst el; simp [Instr.sliceBounds, bound_ok hm hmx hmc, bound_ok eh hhi hc.1]
      | some v =>
        cases LO with
        | none => exact hlo.elim
        | some x => simp [Instr.sliceBounds, bound_ok hm hmx hmc, bound_ok eh hhi hc.1, bound_ok el hlo hc.2]
  · simp at hb

theorem cOpt_some {o : Option Operand} {d : Od} (h : cOpt o = some (some d)) : ∃ x, o = some x ∧ cOd x = some d := by
  cases o with
  | none => simp [cOpt] at h
  | some x => simp only [cOpt, Option.map_eq_some_iff, Option.some.injEq] at h; obtain ⟨e, he, rfl⟩ := h; exact ⟨x, rfl, he⟩
theorem cOpt_none {o : Option Operand} (h : cOpt o = some none) : o = none := by
  cases o with
  | none => rfl
  | some x => simp [cOpt, Option.map_eq_some_iff] at h

theorem A_slSl {o : Oper} {t : TypeId} {x : Operand} {lo hi mx : Option Operand} (ho : o.op = .slice t x lo hi mx) {q : AOp} (hc : cOp0 P (.slice t x lo hi mx) = some (.a q)) (hF : FR φ fr a) {id : Nat} (hid : φ id = none) {ob : Option AO} {v : AV}
    (hr : q.run fr id = some (ob, v)) : AGives P φ a o w id ob v := by
  simp only [cOp0] at hc
  split at hc
  · simp at hc
  · simp only [Bool.cond_eq_ite] at hc; split at hc <;> simp at hc
  · rename_i x' lo' hi' mx' el h1 h2 h3 h4 hu
    simp only [Bool.cond_eq_ite] at hc
    split at hc
    · rename_i hI
      simp only [Option.some.injEq, IOp.a.injEq] at hc; subst hc
      have e := rd_ok hF h1
      have hlo := opt_ok hF h2
      have hhi := opt_ok hF h3
      -- what the model does
      have red : ∀ {A : Option Addr} {n c l h m : Nat}, a.eval x = .slice A n c → (Instr.sliceBounds true n c (lo.map a.eval) (hi.map a.eval) (mx.map a.eval)).run P w = .ok (l, h, m) w →
          (execOp a.eval o).run P w = .ok (.value (.slice (if m = l then A else A.map (·.add (l * P.cellsOf el))) (h - l) (m - l))) w := by
        intro A n c l h m hx hb
        simp only [execOp, ho, Instr.sliceAt, Instr.slice, Sem.run_bind, run_underlying hu, Result.andThen_ok, hx, hb, okI_ok hI, Sem.run_pure]
      have dummy : ∀ {X : Value}, (execOp a.eval o).run P w = .ok (.value X) w → g φ v = some X → ob = none → AGives P φ a o w id ob v := by
        intro X hrun hg hob
        subst hob
        exact ⟨⟨0, 0, 0, 0, undef⟩, X, w, hrun, g_sub (upd_sub _ hid) hg, rfl, rfl, rfl, rfl⟩
      simp only [AOp.run] at hr
      split at hr
      · rename_i hs
        rw [hs] at e
        simp only [g, Option.some.injEq] at e
        cases mx' with
        | some m => simp at hr
        | none =>
          have := cOpt_none h4; subst this
          simp only at hr
          split at hr
          · rename_i l h hb
            simp only [Option.some.injEq, Prod.mk.injEq] at hr
            obtain ⟨rfl, rfl⟩ := hr
            obtain ⟨hrun, hlh, hh⟩ := aBounds_ok (P := P) (w := w) hb hlo hhi true
            have : l = 0 := by omega
            have : h = 0 := by omega
            subst_vars
            exact dummy (red e.symm hrun) (by simp [g]) rfl
          · simp at hr
      · rename_i p n c hs
        rw [hs] at e
        obtain ⟨A, hA, e⟩ := g_slcS e
        have fin : ∀ {l h m : Nat}, (Instr.sliceBounds true n c (lo.map a.eval) (hi.map a.eval) (mx.map a.eval)).run P w = .ok (l, h, m) w →
            ob = none → v = .slc (some (bif Nat.beq m l then p else addA p (l * P.cellsOf el))) (h - l) (.k (m - l)) → AGives P φ a o w id ob v := by
          intro l h m hb hob hv
          refine dummy (red e hb) ?_ hob
          subst hv
          by_cases hm : m = l
          · subst hm; simp [g, hA]
          · have : Nat.beq m l = false := by rw [Bool.eq_false_iff]; intro hh; exact hm (Nat.eq_of_beq_eq_true hh)
            simp [g, this, hm, gA_add _ hA]
        cases mx' with
        | none =>
          have := cOpt_none h4; subst this
          simp only at hr
          split at hr
          · rename_i l h hb
            simp only [Option.some.injEq, Prod.mk.injEq] at hr
            exact fin (aBounds_ok (P := P) (w := w) hb hlo hhi true).1 hr.1.symm hr.2.symm
          · simp at hr
        | some m =>
          obtain ⟨m0, rfl, hm0⟩ := cOpt_some h4
          cases hi' with
          | none => simp at hr
          | some hi'' =>
            obtain ⟨hi0, rfl, hhi0⟩ := cOpt_some h3
            simp only at hr
            split at hr
            · rename_i mm hmm
              simp only [Bool.cond_eq_ite] at hr
              split at hr
              · rename_i hle
                rw [Nat.ble_eq] at hle
                split at hr
                · rename_i l h hb
                  simp only [Option.some.injEq, Prod.mk.injEq] at hr
                  have hmx := rd_ok hF hm0
                  exact fin (sliceBounds_max (P := P) (w := w) hmm hmx hle rfl hb hlo (rd_ok hF hhi0) true).1 hr.1.symm (by simpa only [Bool.cond_eq_ite] using hr.2.symm)
                · simp at hr
              · simp at hr
            · simp at hr
      · rename_i p n z hs
        rw [hs] at e
        obtain ⟨A, c, hA, ex, hcap⟩ := g_slc e
        simp only at hcap
        simp only [Bool.cond_eq_ite] at hr
        split at hr
        · rename_i hb
          simp only [Bool.and_eq_true, Nat.beq_eq, blt_iff] at hb
          obtain ⟨rfl, hpos⟩ := hb
          cases mx' with
          | some m => simp at hr
          | none =>
            have := cOpt_none h4; subst this
            simp only at hr
            -- the place
            obtain ⟨d, off⟩ := p
            cases d with
            | glob m => simp [gCap] at hcap
            | own k =>
              simp only [gCap, Option.bind_eq_some_iff] at hcap
              obtain ⟨L, hL, hcap⟩ := hcap
              split at hcap
              · rename_i hesz
                obtain ⟨hesz, hlen, hoff⟩ := hesz
                simp only [Option.some.injEq] at hcap
                simp only [gA, hL, Option.map_some, Option.some.injEq] at hA
                split at hr
                · rename_i l h hbd
                  -- what is long reaches no further than the capacity
                  have hbd' : aBounds (rdO fr Od.rd lo') (rdO fr Od.rd hi') n c = some (l, h) := by
                    unfold aBounds at hbd ⊢
                    split at hbd
                    · rename_i h1' l1' e1' e2'
                      simp only [Bool.cond_eq_ite] at hbd ⊢
                      split at hbd
                      · rename_i hb
                        simp only [Bool.and_eq_true, Nat.ble_eq] at hb
                        have : (Nat.ble h1' c && Nat.ble l1' h1') = true := by
                          simp only [Bool.and_eq_true, Nat.ble_eq]; omega
                        simp [this] at hbd ⊢
                        exact hbd
                      · simp at hbd
                    · simp at hbd
                  obtain ⟨hrun, hlh, hhc⟩ := aBounds_ok (P := P) (w := w) hbd' hlo hhi true
                  have hln : h ≤ n := by
                    have := (aBounds_ok (P := P) (w := w) hbd hlo hhi true).2.2
                    exact this
                  have hmodel := red ex hrun
                  have hdm : ∀ k, k ≤ c → (L.tot - (off + k * P.cellsOf el)) / P.cellsOf el = c - k ∧ off + k * P.cellsOf el ≤ L.tot := by
                    intro k hk
                    have h1 : c * P.cellsOf el ≤ L.tot - off := by rw [← hcap]; exact Nat.div_mul_le_self _ _
                    have h2 : k * P.cellsOf el ≤ c * P.cellsOf el := Nat.mul_le_mul_right _ hk
                    refine ⟨?_, by omega⟩
                    rw [Nat.sub_add_eq, Nat.mul_comm k, Nat.sub_mul_div, hcap]
                  split at hr
                  · rename_i hl0
                    rw [Nat.beq_eq] at hl0; subst hl0
                    simp only [Option.some.injEq, Prod.mk.injEq] at hr
                    obtain ⟨rfl, rfl⟩ := hr
                    refine dummy (X := .slice (some A) h c) ?_ ?_ rfl
                    · rw [hmodel]
                      by_cases hc0 : c = 0 <;> simp [hc0, Addr.add]
                    · simp only [g, gA, gCap, hL, Option.map_some, Option.bind_some]
                      rw [if_pos ⟨hesz, by omega, hoff⟩]
                      simp [hA, hcap]
                  · split at hr
                    · rename_i hl0 hlt
                      rw [blt_iff] at hlt
                      simp only [Option.some.injEq, Prod.mk.injEq] at hr
                      obtain ⟨rfl, rfl⟩ := hr
                      have hne : ¬ c = l := by omega
                      refine dummy (X := .slice (some (A.add (l * P.cellsOf el))) (h - l) (c - l)) ?_ ?_ rfl
                      · rw [hmodel, if_neg hne]; rfl
                      · obtain ⟨d1, d2⟩ := hdm l (by omega)
                        simp only [g, addA, gA, gCap, hL, Option.map_some, Option.bind_some]
                        rw [if_pos ⟨hesz, by omega, d2⟩, d1]
                        subst hA
                        simp [add_eq, Nat.add_assoc]
                    · rename_i hl0 hlt
                      have hlt' : ¬ l < n := fun hh => hlt ((blt_iff _ _).2 hh)
                      have hl : l = n := by omega
                      have hh : h = n := by omega
                      subst hl; subst hh
                      simp only [Option.some.injEq, Prod.mk.injEq] at hr
                      obtain ⟨rfl, rfl⟩ := hr
                      refine ⟨⟨L.blk, (if c = h then A else A.add (h * P.cellsOf el)).off, (c - h) * P.cellsOf el, P.cellsOf el, undef⟩, .slice (some (if c = h then A else A.add (h * P.cellsOf el))) 0 (c - h), w, ?_, ?_, rfl, rfl, rfl, rfl⟩
                      · rw [hmodel]
                        by_cases hcl : c = h <;> simp [hcl]
                      · subst hA
                        by_cases hcl : c = h <;> simp [g, gA, gCap, upd_self, hcl, add_eq, Nat.mul_div_cancel _ hpos]
                · simp at hr
              · simp at hcap
        · simp at hr
      · simp at hr
    · simp at hc
  · split at hc
    · simp only [Bool.cond_eq_ite] at hc; split at hc <;> simp at hc
    · simp at hc
  · simp at hc

/-- What makes a block gives what the evaluator says. -/
theorem A_ok {o : Oper} {q : AOp} (hc : cOp0 P o.op = some (.a q)) (hF : FR φ fr a) {id : Nat} (hid : φ id = none) {ob : Option AO} {v : AV} (hr : q.run fr id = some (ob, v)) : AGives P φ a o w id ob v := by
  cases ho : o.op with
  | box t x => rw [ho] at hc; exact A_box ho hc hF hid hr
  | alloc t => rw [ho] at hc; exact A_alloc ho hc hid hr
  | buildSlice t n l => rw [ho] at hc; exact A_bsl ho hc hF hid hr
  | makeMap t r => rw [ho] at hc; exact A_mkmap ho hc hr
  | makeSlice t l c => rw [ho] at hc; exact A_mksl ho hc hF hid hr
  | range t x => rw [ho] at hc; exact A_rng ho hc hF hr
  | convert s t x => rw [ho] at hc; exact A_s2b ho hc hF hr
  | slice t x lo hi mx => rw [ho] at hc; exact A_slSl ho hc hF hid hr
  | _ =>
    rw [ho] at hc
    exfalso
    revert hc
    unfold cOp0 cBuiltin
    simp only [Bool.cond_eq_ite]
    repeat' split
    all_goals first
      | (simp; done)
      | (exfalso; simp_all; done)
end
end Ax
