/- The evaluator is right on operations, regions, code and calls; on no condition. -/
import Derived.Test.YtdimdhloklnkmaaGreatDoorAxB
import Derived.Laws.Append
set_option linter.unusedVariables false
set_option linter.unusedSimpArgs false
set_option linter.unusedSectionVars false
namespace Ax
open Go
variable [Sy]

section
variable {P : Program} {φ : Mp} {fr : T AV} {a : Act} {w : World} {ng : Nat} {gl : T (List AV)} {h h' : Hp}

/-- What an operation that turns memory gives. -/
noncomputable def EGives (P : Program) (ng : Nat) (gl : T (List AV)) (φ : Mp) (h : Hp) (a : Act) (o : Oper) (w : World) (v : AV) (h' : Hp) : Prop :=
  ∃ (φ' : Mp) (X : Value) (w' : World), ((execOp a.eval o).run P w = .ok (.value X) w' ∨ (X = undef ∧ (execOp a.eval o).run P w = .ok .skip w')) ∧ g φ' v = some X ∧ Rel ng (glF gl) φ' h' w' ∧ Stp φ h w φ' h' w'

theorem one_ok {v : AV} {x : Value} (h1 : oneC v = true) (hx : g φ v = some x) : (∀ l, x ≠ .agg l) ∧ (∀ l, x ≠ .tuple l) := by
  cases v with
  | agg l => simp [oneC] at h1
  | any i => simp [oneC] at h1
  | tup l => simp [oneC] at h1
  | ptr p => obtain ⟨A, hA, _⟩ := g_ptrO hx; subst hA; simp
  | slc p n c => obtain ⟨A, m, hA, _⟩ := g_slcO hx; subst hA; simp
  | map p => obtain ⟨A, hA, _⟩ := g_mapO hx; subst hA; simp
  | fn f l m => obtain ⟨A, B, _, _, hA⟩ := g_fn hx; subst hA; simp
  | ifc t v => obtain ⟨A, _, hA⟩ := g_ifc hx; subst hA; simp
  | sint k n hs => obtain ⟨hA, _⟩ := g_sint hx; subst hA; simp
  | sbit n bs => obtain ⟨hA, _⟩ := g_sbit hx; subst hA; simp
  | sflt i hs => obtain ⟨hA, _⟩ := g_sflt hx; subst hA; simp
  | _ => simp only [g, Option.some.injEq] at hx; subst hx; simp

/-- A store into one cell. -/
theorem store_ok {B O : Nat} {c : Array Value} {el : TypeId} {lo hi : Nat} {v : Value} (hh : w.heap[B]? = some (.cells c el (lo, hi))) (hO : O < c.size) (hfz : ¬ (lo ≤ O ∧ O < hi)) (h1 : ∀ l, v ≠ .agg l) (h2 : ∀ l, v ≠ .tuple l) :
    ∃ w', (store ⟨B, O, none⟩ v).run P w = .ok () w' ∧ w'.heap[B]? = some (.cells (c.set O v hO) el (lo, hi)) ∧ w'.heap.size = w.heap.size ∧ (∀ b, b ≠ B → w'.heap[b]? = w.heap[b]?) ∧ w'.os = w.os ∧ w'.tape = w.tape ∧ w'.output = w.output := by
  have hcell : w.cell? ⟨B, O, none⟩ = some c[O] := by rw [cell_row hh]; simp [hO]
  have hf : w.frozen? ⟨B, O, none⟩ = false := by
    simp only [World.frozen?, hh]
    cases hd : (decide (lo ≤ O) && decide (O < hi)) with
    | false => rfl
    | true => simp at hd; exact (hfz hd).elim
  refine ⟨w.setCell ⟨B, O, none⟩ v, ?_, ?_, by simp [World.setCell], fun b hb => ?_, rfl, rfl, rfl⟩
  · unfold store
    cases v <;> first | exact (h1 _ rfl).elim | exact (h2 _ rfl).elim | simp [Sem.run, hcell, hf]
  · simp only [World.setCell, Array.getElem?_modify, if_true, hh, Option.map_some, Option.isSome_none, Bool.false_eq_true, if_false]
    congr 2
    simp [Array.setIfInBounds, hO]
  · simp only [World.setCell, Array.getElem?_modify]
    rw [if_neg (Ne.symm hb)]

theorem storeCells_ok {B O : Nat} {el : TypeId} {lo hi : Nat} : ∀ (XS : List Value) (i : Nat) (c : Array Value) (w : World), w.heap[B]? = some (.cells c el (lo, hi)) → O + i + XS.length ≤ c.size →
    (∀ k, k < c.size → ¬ (lo ≤ k ∧ k < hi)) → (∀ v ∈ XS, (∀ l, v ≠ .agg l) ∧ ∀ l, v ≠ .tuple l) →
    ∃ w' c', (storeCells ⟨B, O, none⟩ XS i).run P w = .ok () w' ∧ w'.heap[B]? = some (.cells c' el (lo, hi)) ∧ c'.toList = layG c.toList (O + i) XS ∧ w'.heap.size = w.heap.size ∧ (∀ b, b ≠ B → w'.heap[b]? = w.heap[b]?) ∧ w'.os = w.os ∧ w'.tape = w.tape ∧ w'.output = w.output
  | [], i, c, w, hh, hl, hfz, hone => ⟨w, c, rfl, hh, by rw [layG_nil], rfl, fun _ _ => rfl, rfl, rfl, rfl⟩
  | v :: XS, i, c, w, hh, hl, hfz, hone => by
    simp only [List.length_cons] at hl
    have hO : O + i < c.size := by omega
    obtain ⟨w1, hr1, hh1, hs1, ho1, a1, a2, a3⟩ := store_ok (P := P) hh hO (hfz _ hO) (hone v (by simp)).1 (hone v (by simp)).2
    obtain ⟨w2, c2, hr2, hh2, hl2, hs2, ho2, b1, b2, b3⟩ := storeCells_ok (O := O) XS (i + 1) (c.set (O + i) v hO) w1 hh1 (by simp; omega) (by intro k hk; exact hfz k (by simpa using hk)) (fun v hv => hone v (by simp [hv]))
    refine ⟨w2, c2, ?_, hh2, ?_, by omega, fun b hb => (ho2 b hb).trans (ho1 b hb), b1.trans a1, b2.trans a2, b3.trans a3⟩
    · simp only [storeCells, Sem.run_bind, add_eq, hr1, Result.andThen_ok]
      exact hr2
    · rw [hl2, Array.toList_set, ← layG_cons _ _ _ _ (by simp; omega)]
      rfl

theorem allOne_ok : ∀ {cs : List AV} {XS : List Value}, allOne cs = true → gL φ cs = some XS → ∀ v ∈ XS, (∀ l, v ≠ .agg l) ∧ ∀ l, v ≠ .tuple l
  | [], XS, _, hX => by simp only [gL, Option.some.injEq] at hX; subst hX; simp
  | u :: cs, XS, hone, hX => by
    simp only [allOne, Bool.cond_eq_ite] at hone
    split at hone
    · rename_i h1
      simp only [gL, Option.map_eq_some_iff, Option.bind_eq_some_iff] at hX
      obtain ⟨y, hy, ys, hys, rfl⟩ := hX
      intro v hv
      rcases List.mem_cons.1 hv with rfl | hv
      · exact one_ok h1 hy
      · exact allOne_ok hone hys v hv
    · simp at hone

theorem ones_eq (c : Cl) : c.ones = allOne c.list := by
  cases c with
  | gen l => rfl
  | byt b =>
    show true = allOne (Cl.byt b).list
    rw [Cl.list_byt]
    generalize b.list = l
    induction l with
    | nil => rfl
    | cons x l ih => rw [List.map_cons]; exact ih

/-- Some cells of a row are laid over. -/
theorem put_ok (hR : Rel ng (glF gl) φ h w) {x : Ad × Nat} {A : Addr} {cs : Cl} {XS : List Value} (hp : putCells h x cs = some h') (hA : gA φ x = some A) (hX : gL φ cs.list = some XS) :
    ∃ w', (storeCells A XS 0).run P w = .ok () w' ∧ Rel ng (glF gl) φ h' w' ∧ Stp φ h w φ h' w' := by
  obtain ⟨d, off⟩ := x
  cases d with
  | glob n => simp [putCells] at hp
  | own id =>
    simp only [putCells] at hp
    split at hp
    · rename_i el cs' t hg
      simp only [Bool.cond_eq_ite] at hp
      split at hp
      · rename_i hb
        rw [Bool.and_eq_true, Nat.ble_eq, Cl.len_eq, Cl.len_eq, ones_eq] at hb
        obtain ⟨hle, hone⟩ := hb
        simp only [Option.some.injEq] at hp; subst hp
        obtain ⟨L, hL, hng, c, lo, hi, xs, hh, hx, hbt, hxl, htail, hesz, hget, hfz⟩ := hR.at_ id _ hg
        simp only [gA, hL, Option.map_some, Option.some.injEq] at hA; subst hA
        have hxs := gL_length hx
        have hXS := gL_length hX
        have hall := allOne_ok hone hX
        obtain ⟨w', c', hrun, hh', hl', hs', ho', a1, a2, a3⟩ := storeCells_ok (P := P) XS 0 c w (O := L.base + off) hh (by omega) (fun o ho => by omega) hall
        have hlen' : c'.size = c.size := by
          rw [← Array.length_toList, hl', layG_length _ _ _ (by simp; omega), Array.length_toList]
        refine ⟨w', hrun, set_step hR hg hL ?_ a1 a2 a3 hs' ho' (fun c0 e0 f0 hc0 => by
          rw [hh] at hc0
          simp only [Option.some.injEq, Obj.cells.injEq] at hc0
          obtain ⟨rfl, rfl, _⟩ := hc0
          refine ⟨c', _, hh', hlen', fun o ho => ?_⟩
          by_cases hoc : o < c.size
          · rw [← Array.getElem?_toList, hl', layG_get _ _ _ (by simp; omega)]
            by_cases h1 : o < L.base
            · rw [if_pos (by omega), Array.getElem?_toList]
            · rw [if_neg (by omega), if_neg (by omega), Array.getElem?_toList]
          · rw [Array.getElem?_eq_none (by omega), Array.getElem?_eq_none (by omega)])⟩
        refine ⟨c', lo, hi, layG xs off XS, hh', (by rw [Cl.lay_eq]; exact gL_lay off hx hX), by omega, ?_, fun ht => ?_, hesz.to hlen' (layG_length _ _ _ (by omega)), fun i hi' => ?_, by omega⟩
        · rw [layG_length _ _ _ (by omega)]; exact hxl
        · rw [layG_length _ _ _ (by omega)]; exact htail ht
        · rw [layG_length _ _ _ (by omega)] at hi'
          rw [← Array.getElem?_toList, hl', layG_get _ _ _ (by simp; omega), layG_get _ _ _ (by omega)]
          by_cases h1 : i < off
          · rw [if_pos (by omega), if_pos h1, Array.getElem?_toList, hget i hi']
          · rw [if_neg (by omega), if_neg h1]
            by_cases h2 : i < off + XS.length
            · rw [if_pos (by omega), if_pos h2]; congr 1; omega
            · rw [if_neg (by omega), if_neg h2, Array.getElem?_toList, hget i hi']
      · simp at hp
    · simp at hp

theorem E_store {isF : FuncId → Bool} {ext : FuncId → Option (List AV → Hp → Option (AV × Hp))} {o : Oper} {t : TypeId} {x y : Operand} (ho : o.op = .store t x y) {q : EO} (hc : cOp0 P (.store t x y) = some (.e q)) (hF : FR φ fr a)
    (hR : Rel ng (glF gl) φ h w) {v : AV} (hr : q.run gl isF ext fr h = .val v h') : EGives P ng gl φ h a o w v h' := by
  simp only [cOp0] at hc
  split at hc
  · rename_i x' y' h1 h2
    simp only [Bool.cond_eq_ite] at hc
    split at hc
    · rename_i hI
      simp only [Option.some.injEq, IOp.e.injEq] at hc; subst hc
      have e1 := rd_ok hF h1
      have e2' := rd_ok hF h2
      simp only [EO.run] at hr
      split at hr
      · rename_i p hp
        rw [hp] at e1
        obtain ⟨A, hA, e1⟩ := g_ptr e1
        cases hany : (Od.rd fr y').isAny with
        | true => rw [hany] at hr; simp at hr
        | false =>
        rw [hany] at hr
        have e2 := g_cells hany e2'
        simp only [cond_false] at hr
        simp only [Bool.cond_eq_ite] at hr
        split at hr
        · rename_i hl
          rw [Nat.beq_eq] at hl
          split at hr
          · rename_i h'' hput
            simp only [St.val.injEq] at hr
            obtain ⟨rfl, rfl⟩ := hr
            obtain ⟨w', hrun, hR', hS⟩ := put_ok (P := P) hR hput hA e2
            refine ⟨φ, undef, w', .inr ⟨rfl, ?_⟩, rfl, hR', hS⟩
            have hsz : (a.eval y).cells.size = P.cellsOf t := by have := gL_length e2; simp at this; omega
            simp [execOp, ho, Instr.storeAt, Instr.sureAddr, e1, storeVar, okI_ok hI, hsz, hrun]
          · simp at hr
        · simp at hr
      · simp at hr
    · simp at hc
  · simp at hc
end
end Ax
namespace Ax
open Go
variable [Sy]

section
variable {P : Program} {φ : Mp} {fr : T AV} {a : Act} {w : World} {ng : Nat} {gl : T (List AV)} {h h' : Hp}

theorem src_ok (hR : Rel ng (glF gl) φ h w) {n sz : Nat} {x : AV} {X : Value} {cs : Cl} (hs : srcCells gl h n sz x = some cs) (hx : g φ x = some X) (hn : ∀ l, aLen x = some l → n ≤ l) :
    ∃ CS, gL φ cs.list = some CS ∧ CS.length = n * sz ∧ (Builtin.firstCells sz n X).run P w = .ok CS.toArray w := by
  unfold srcCells at hs
  split at hs
  · rename_i l c
    simp only [Bool.cond_eq_ite] at hs
    split at hs
    · rename_i h0
      rw [Nat.beq_eq] at h0; subst h0
      simp only [Option.some.injEq] at hs; subst hs
      obtain ⟨A, m, rfl, hA⟩ := g_slcO hx
      cases A with
      | some A => simp at hA
      | none => exact ⟨[], rfl, by simp, by simp [Builtin.firstCells]⟩
    · simp at hs
  · rename_i p l c
    obtain ⟨A, m, hA, rfl, _⟩ := g_slc hx
    rw [Bool.cond_eq_ite] at hs
    split at hs
    · rename_i h0
      rw [Nat.beq_eq] at h0; subst h0
      simp only [Option.some.injEq] at hs; subst hs
      refine ⟨[], rfl, by simp, ?_⟩
      simp only [Builtin.firstCells, Nat.zero_mul]
      exact run_loadCells_list w A [] (fun j v hj => by simp at hj)
    obtain ⟨CS, hCS, hl, hcell⟩ := cellsC_ok hR hs hA
    refine ⟨CS, hCS, hl, ?_⟩
    simp only [Builtin.firstCells]
    rw [← hl]
    exact run_loadCells_list w A CS hcell
  · rename_i s
    simp only [Bool.cond_eq_ite] at hs
    split at hs
    · rename_i h1
      rw [Nat.beq_eq] at h1; subst h1
      simp only [Option.some.injEq] at hs; subst hs
      have := g_str hx; subst this
      have hnl : n ≤ s.list.length := by rw [BS.list_len]; exact hn _ rfl
      refine ⟨(s.list.take n).map fun b => .int .u8 b.toNat, ?_, by simp; omega, ?_⟩
      · have : ∀ (l : List UInt8), gL φ (l.map fun c => AV.int .u8 (.ofNat c.toNat)) = some (l.map fun c => Value.int .u8 c.toNat) := by
          intro l
          induction l with
          | nil => rfl
          | cons c l ih => simp only [List.map_cons, gL, g, ih, Option.bind_some, Option.map_some]; rfl
        rw [Cl.list_byt, BS.take_list]
        exact this _
      · simp only [Builtin.firstCells, Sem.run_pure]
        congr 1
        apply Array.ext'
        rw [str_extract]
        simp
    · simp at hs
  · simp at hs

theorem aLen_ok {x : AV} {X : Value} {n : Nat} (hl : aLen x = some n) (hx : g φ x = some X) (w : World) : (Builtin.lenOf X).run P w = .ok n w := by
  unfold aLen at hl
  split at hl
  · rename_i p m c
    simp only [Option.some.injEq] at hl; subst hl
    cases p with
    | none => cases c with
      | u e => simp [g] at hx
      | k c => simp only [g, Option.some.injEq] at hx; subst hx; rfl
    | some p => obtain ⟨A, m, _, rfl, _⟩ := g_slc hx; rfl
  · rename_i s
    simp only [Option.some.injEq] at hl; subst hl
    have := g_str hx; subst this
    simp [Builtin.lenOf, bsize, BS.list_len]
  · simp at hl

theorem zeroCells_size (z : Array Value) (n : Nat) : (Builtin.zeroCells z n).size = n * z.size := by simp [Builtin.zeroCells]

/-- What an append comes to in the model, its source read. -/
theorem run_app {tS tX ty el : TypeId} {tys : Array TypeId} {u : TypeDesc} {base : Option Addr} {sLen sCap n : Nat} {X Z : Value} {NEW : List Value} (h0 : tys[0]? = some tS) (h1 : tys[1]? = some tX) (hS : P.underlying tS = some (.slice el)) (hU : P.underlying tX = some u)
    (hu : ∀ k, u ≠ .int k) (hI : okI P el = true) (hZ : ∀ w, (zeroValue el).run P w = .ok Z w) (hlen : ∀ w, (Builtin.lenOf X).run P w = .ok n w) (hnew : ∀ w', w'.heap = w.heap → (Builtin.firstCells (P.cellsOf el) n X).run P w' = .ok NEW.toArray w') :
    (sLen + n ≤ sCap → (Builtin.append_ tys ty #[.slice base sLen sCap, X]).run P w = ((match base with | some a => storeCells (a.add (sLen * P.cellsOf el)) NEW | none => pure ()).run P w).andThen fun _ w => .ok (.slice base (sLen + n) sCap) w) ∧
    (¬ sLen + n ≤ sCap → (sLen + n) * P.bytesOf el ≤ 140737488355328 → sLen + n ≤ 1099511627776 → ∀ OLD : List Value, (∀ w', w'.heap = w.heap → (Builtin.firstCells (P.cellsOf el) sLen (.slice base sLen sCap)).run P w' = .ok OLD.toArray w') →
      ∃ newCap, sLen + n ≤ newCap ∧ (Builtin.append_ tys ty #[.slice base sLen sCap, X]).run P w =
        .ok (.slice (some ⟨w.heap.size, 0, none⟩) (sLen + n) newCap) { w with drawn := w.drawn + 1, heap := w.heap.push (.cells (OLD.toArray ++ NEW.toArray ++ Builtin.zeroCells Z.cells (newCap - (sLen + n))) el) }) := by
  have hi : ∃ i, P.info? el = some i := by
    unfold okI at hI; split at hI
    · rename_i i hi; exact ⟨i, hi⟩
    · simp at hI
  obtain ⟨i, hi⟩ := hi
  have hby : P.bytesOf el = i.bytes := by simp [Program.bytesOf, hi]
  constructor
  · intro hle
    simp only [Builtin.append_, h0, h1, List.getElem?_toArray, List.getElem?_cons_zero, List.getElem?_cons_succ, Sem.run_bind, run_underlying hS, run_underlying hU, Result.andThen_ok, okI_ok hI, Sem.run_pure, Bool.false_eq_true, if_false, hlen, hle, if_true, Bool.not_false]
    rw [hnew w rfl]
    cases base with
    | none => simp
    | some A => simp
  · intro hgt hb hmax OLD hold
    have hlt : sCap < sLen + n := by omega
    have hfit : ¬ Builtin.nextslicecap (sLen + n) sCap * P.bytesOf el > 2 ^ 48 := by
      have := growslice_fits hlt hb; omega
    have hbig : ¬ (((sLen + n : Nat) : Int) > IntKind.i64.max) := by
      have : IntKind.i64.max = 9223372036854775807 := by decide
      rw [this]; omega
    let q : Question := .appendCap (sLen + n) sCap el
    refine ⟨q.cut (w.tape w.drawn q), by simp only [q, Question.cut]; omega, ?_⟩
    have hch : (choose q).run P w = .ok (q.cut (w.tape w.drawn q)) { w with drawn := w.drawn + 1 } := by
      simp [choose, Sem.run, Question.forced, q]
    rw [hby] at hfit
    simp only [Builtin.append_, h0, h1, List.getElem?_toArray, List.getElem?_cons_zero, List.getElem?_cons_succ, Sem.run_bind, run_underlying hS, run_underlying hU, Result.andThen_ok, okI_ok hI, Sem.run_pure, Bool.false_eq_true, if_false, hlen, hgt, typeInfo, run_program, hi, hbig, false_and, hfit, Bool.not_false, if_true]
    rw [show (choose (Question.appendCap (sLen + n) sCap el)).run P w = _ from hch]
    simp only [Result.andThen_ok, run_askRoom]
    rw [hold { w with drawn := w.drawn + 1 } rfl]
    simp only [Result.andThen_ok]
    rw [hnew { w with drawn := w.drawn + 1 } rfl]
    simp only [Result.andThen_ok, hZ, newRow, Sem.run_bind, run_newObj, Sem.run_pure]

theorem rel_heap {w' : World} (hR : Rel ng (glF gl) φ h w) (e : w'.heap = w.heap) : Rel ng (glF gl) φ h w' := by
  refine ⟨fun id o ho => ?_, hR.inj, hR.fresh, by rw [e]; exact hR.ngle, fun n cs hg => by rw [e]; exact hR.gl_ n cs hg⟩
  obtain ⟨L, hL, hng, hAt⟩ := hR.at_ id o ho
  exact ⟨L, hL, hng, hAt.frame (by rw [e])⟩

/-- The row that an append makes anew. -/
theorem grown_at {id : Nat} {el : TypeId} {sz newCap need : Nat} {cs : Cl} {XS : List Value} {Z : Array Value} {B : Nat} {w' : World} (hid : φ id = none) (hc : gL φ cs.list = some XS) (hl : XS.length = need * sz) (hpos : 0 < sz) (hz : Z.size = sz) (hge : need ≤ newCap)
    (hw : w'.heap[B]? = some (.cells (XS.toArray ++ Builtin.zeroCells Z (newCap - need)) el (0, 0))) : At (upd φ id ⟨B, 0, newCap * sz, sz, undef⟩) ⟨B, 0, newCap * sz, sz, undef⟩ (.row el cs (some sz)) w' := by
  have hmul : need * sz ≤ newCap * sz := Nat.mul_le_mul_right _ hge
  have hsub : (newCap - need) * sz = newCap * sz - need * sz := Nat.sub_mul _ _ _
  refine ⟨_, 0, 0, XS, hw, gL_sub (upd_sub _ hid) hc, ?_, by show XS.length ≤ newCap * sz; omega, fun h => by simp at h, fun n h => by simp only [Option.some.injEq] at h; subst h; exact .inl ⟨rfl, hpos⟩, fun i hi => ?_, .inl rfl⟩
  · show 0 + newCap * sz ≤ _
    rw [Array.size_append, zeroCells_size, hz, List.size_toArray, hl]; omega
  · simp only [Nat.zero_add]
    rw [Array.getElem?_append_left (by simpa using hi)]
    simp

theorem app_ok (hR : Rel ng (glF gl) φ h w) {tS tX ty el : TypeId} {tys : Array TypeId} {u : TypeDesc} (h0 : tys[0]? = some tS) (h1 : tys[1]? = some tX) (hS : P.underlying tS = some (.slice el)) (hU : P.underlying tX = some u)
    (hu : ∀ k, u ≠ .int k) (hpos : 0 < P.cellsOf el) {z : AV} (hz : zeroOf P el = some z) (hzl : z.cells.length = P.cellsOf el) {s x v : AV} {S X : Value} (hs : g φ s = some S) (hx : g φ x = some X)
    (hr : aApp gl h el (P.cellsOf el) (P.bytesOf el) s x = .val v h') :
    ∃ (φ' : Mp) (V : Value) (w' : World), (Builtin.append_ tys ty #[S, X]).run P w = .ok V w' ∧ g φ' v = some V ∧ Rel ng (glF gl) φ' h' w' ∧ Stp φ h w φ' h' w' := by
  obtain ⟨Z, hZ, hzr⟩ := run_zero hz φ
  obtain ⟨i, _, hi, _, _⟩ := zeroOf_ok hz
  have hI : okI P el = true := by simp [okI, hi]
  have hzs : Z.cells.size = P.cellsOf el := by have := gL_length (g_cells (zeroOf_na hz) hZ); simp at this; omega
  have hfr : φ h.nxt = none := hR.fresh _ (Nat.le_refl _)
  unfold aApp at hr
  split at hr
  · rename_i base len cap n hn
    split at hr
    · simp at hr
    · rename_i new hnew
      have hlen := aLen_ok (P := P) hn hx
      have hnl : ∀ l, aLen x = some l → n ≤ l := fun l hl => by rw [hn] at hl; simp only [Option.some.injEq] at hl; omega
      obtain ⟨NEW, hNEW, hNl, _⟩ := src_ok (P := P) hR hnew hx hnl
      have hfirst : ∀ w', w'.heap = w.heap → (Builtin.firstCells (P.cellsOf el) n X).run P w' = .ok NEW.toArray w' := by
        intro w' e
        obtain ⟨NEW', hNEW', _, hrun⟩ := src_ok (P := P) (rel_heap hR e) hnew hx hnl
        rw [hNEW] at hNEW'; simp only [Option.some.injEq] at hNEW'; subst hNEW'
        exact hrun
      simp only [Bool.cond_eq_ite] at hr
      split at hr
      · rename_i hb
        simp only [Bool.and_eq_true, Nat.ble_eq] at hb
        obtain ⟨hbytes, hmax⟩ := hb
        -- a new row
        have grow : ∀ {A : Option Addr} {c : Nat} {old : Cl} {hh : Hp}, S = .slice A len c → ¬ len + n ≤ c → (∀ w', w'.heap = w.heap → ∃ OLD, gL φ old.list = some OLD ∧ OLD.length = len * P.cellsOf el ∧ (Builtin.firstCells (P.cellsOf el) len (.slice A len c)).run P w' = .ok OLD.toArray w') →
            Rel ng (glF gl) φ hh w → Stp φ h w φ hh w → hh.nxt = h.nxt →
            ∃ (φ' : Mp) (V : Value) (w' : World), (Builtin.append_ tys ty #[S, X]).run P w = .ok V w' ∧ g φ' (.slc (some (.own h.nxt, 0)) (len + n) (.u (P.cellsOf el))) = some V ∧
              Rel ng (glF gl) φ' (hh.new (.row el (old.app new) (some (P.cellsOf el)))) w' ∧ Stp φ h w φ' (hh.new (.row el (old.app new) (some (P.cellsOf el)))) w' := by
          intro A c old hh hS' hgt hold hR' hSt hnx
          subst hS'
          obtain ⟨OLD, hOLD, hOl, _⟩ := hold w rfl
          have hfo : ∀ w', w'.heap = w.heap → (Builtin.firstCells (P.cellsOf el) len (.slice A len c)).run P w' = .ok OLD.toArray w' := by
            intro w' e
            obtain ⟨OLD', hOLD', _, hrun⟩ := hold w' e
            rw [hOLD] at hOLD'; simp only [Option.some.injEq] at hOLD'; subst hOLD'
            exact hrun
          obtain ⟨newCap, hge, hrun⟩ := (run_app (P := P) (ty := ty) h0 h1 hS hU hu hI hzr hlen hfirst).2 hgt hbytes hmax OLD hfo
          have hXS : gL φ (old.app new).list = some (OLD ++ NEW) := by rw [Cl.app_eq]; exact gL_append hOLD hNEW
          have hrow : OLD.toArray ++ NEW.toArray ++ Builtin.zeroCells Z.cells (newCap - (len + n)) = (OLD ++ NEW).toArray ++ Builtin.zeroCells Z.cells (newCap - (len + n)) := by
            congr 1; apply Array.ext'; simp
          rw [hrow] at hrun
          have hXl : (OLD ++ NEW).length = (len + n) * P.cellsOf el := by rw [List.length_append, hOl, hNl, Nat.add_mul]
          have hat := grown_at (φ := φ) (id := h.nxt) (el := el) (need := len + n) (newCap := newCap) (B := w.heap.size) (Z := Z.cells) (w' := { w with drawn := w.drawn + 1, heap := w.heap.push (.cells ((OLD ++ NEW).toArray ++ Builtin.zeroCells Z.cells (newCap - (len + n))) el) })
            hfr hXS hXl hpos hzs hge (by simp)
          obtain ⟨hR2, hS2⟩ := alloc_step (hio := by rw [hnx]; exact Nat.le_refl _) (h' := hh.new (.row el (old.app new) (some (P.cellsOf el)))) (id := h.nxt) hR' ⟨w.heap.size, 0, newCap * P.cellsOf el, P.cellsOf el, undef⟩ hfr (fun j => by rw [Hp.get_new, hnx]) (by rw [Hp.nxt_new, hnx]; omega) (by rw [Hp.nxt_new]; omega) rfl hat rfl rfl rfl (by simp) (fun b hb => by simp only [Array.getElem?_push]; rw [if_neg (by omega)])
          refine ⟨_, _, _, hrun, ?_, hR2, hSt.trans hS2⟩
          have : newCap * P.cellsOf el / P.cellsOf el = newCap := Nat.mul_div_cancel _ hpos
          simp [g, gA, gCap, upd_self, this, hge]
        split at hr
        · rename_i c
          split at hr
          · -- there is room
            rename_i hle
            rw [Nat.ble_eq] at hle
            split at hr
            · simp only [St.val.injEq] at hr
              obtain ⟨rfl, rfl⟩ := hr
              simp only [g, Option.some.injEq] at hs; subst hs
              have := (run_app (P := P) (w := w) (ty := ty) (base := none) (sLen := len) (sCap := c) h0 h1 hS hU hu hI hzr hlen hfirst).1 hle
              exact ⟨φ, _, w, this, by simp [g], hR, Stp.refl _ _ _⟩
            · rename_i p
              obtain ⟨A, hA, rfl⟩ := g_slcS hs
              split at hr
              · rename_i h'' hput
                simp only [St.val.injEq] at hr
                obtain ⟨rfl, rfl⟩ := hr
                obtain ⟨w', hrun, hR', hSt⟩ := put_ok (P := P) hR hput (gA_add (len * P.cellsOf el) hA) hNEW
                have := (run_app (P := P) (w := w) (ty := ty) (base := some A) (sLen := len) (sCap := c) h0 h1 hS hU hu hI hzr hlen hfirst).1 hle
                simp only [hrun, Result.andThen_ok] at this
                exact ⟨φ, _, w', this, by simp [g, hA], hR', hSt⟩
              · simp at hr
          · rename_i hgt
            rw [Nat.ble_eq] at hgt
            split at hr
            · rename_i old hold
              simp only [St.val.injEq] at hr
              obtain ⟨rfl, rfl⟩ := hr
              cases base with
              | none =>
                simp only [g, Option.some.injEq] at hs
                refine grow hs.symm hgt (fun w' e => ?_) hR (Stp.refl _ _ _) rfl
                simp only at hold
                split at hold
                · rename_i h0
                  rw [Nat.beq_eq] at h0
                  simp only [Option.some.injEq] at hold; subst hold
                  exact ⟨[], rfl, by simp [h0], by simp [Builtin.firstCells]⟩
                · simp at hold
              | some p =>
                obtain ⟨A, hA, hs'⟩ := g_slcS hs
                refine grow hs' hgt (fun w' e => ?_) hR (Stp.refl _ _ _) rfl
                obtain ⟨CS, hCS, hl, hcell⟩ := cellsC_ok (rel_heap hR e) hold hA
                refine ⟨CS, hCS, hl, ?_⟩
                simp only [Builtin.firstCells]
                rw [← hl]
                exact run_loadCells_list w' A CS hcell
            · simp at hr
        · rename_i e0
          split at hr
          · -- nothing is appended
            rename_i hn0
            rw [Nat.beq_eq] at hn0; subst hn0
            simp only [St.val.injEq] at hr
            obtain ⟨rfl, rfl⟩ := hr
            cases base with
            | none => simp [g] at hs
            | some p =>
              obtain ⟨A, c, hA, rfl, hcap⟩ := g_slc hs
              have hlc : len + 0 ≤ c := by
                obtain ⟨d, off⟩ := p
                cases d with
                | glob m => simp [gCap] at hcap
                | own k =>
                  simp only [gCap, Option.bind_eq_some_iff] at hcap
                  obtain ⟨L, hL, hcap⟩ := hcap
                  split at hcap
                  · simp only [Option.some.injEq] at hcap; omega
                  · simp at hcap
              have := (run_app (P := P) (w := w) (ty := ty) (base := some A) (sLen := len) (sCap := c) h0 h1 hS hU hu hI hzr hlen hfirst).1 hlc
              have hN0 : NEW = [] := by simpa using hNl
              subst hN0
              simp only [storeCells, Sem.run_pure, Result.andThen_ok, Nat.add_zero] at this
              exact ⟨φ, _, w, this, hs, hR, Stp.refl _ _ _⟩
          · rename_i hn0
            split at hr
            · rename_i id off
              split at hr
              · rename_i el' cs t hg
                split at hr
                · rename_i hb2
                  rw [Bool.and_eq_true, Bool.and_eq_true, Bool.and_eq_true, Nat.beq_eq, Nat.beq_eq, Nat.ble_eq, Cl.len_eq, ones_eq] at hb2
                  obtain ⟨⟨⟨rfl, rfl⟩, hcl⟩, hone⟩ := hb2
                  simp only [St.val.injEq] at hr
                  obtain ⟨rfl, rfl⟩ := hr
                  obtain ⟨A, c, hA, rfl, hcap⟩ := g_slc hs
                  obtain ⟨L, hL, hng, cc, lo, hi', xs, hh, hxs, hbt, hxl, _, hesz, hget, hfz⟩ := hR.at_ id _ hg
                  obtain ⟨hesz, _⟩ := (hesz _ rfl).resolve_right (fun h => by have := h.1; omega)
                  simp only [gA, hL, Option.map_some, Option.some.injEq] at hA; subst hA
                  simp only [gCap, hL, Option.bind_some] at hcap
                  split at hcap
                  · rename_i hcond
                    obtain ⟨he0, hlenc, hoff⟩ := hcond
                    simp only [Option.some.injEq] at hcap
                    have he : e0 = P.cellsOf el' := he0.symm.trans hesz
                    subst he
                    generalize hcs' : cs.take (off + len * P.cellsOf el') = cs'
                    have hcs'l : cs'.list = cs.list.take (off + len * P.cellsOf el') := by rw [← hcs', Cl.take_eq]
                    have hxs0 := gL_length hxs
                    obtain ⟨xs', hxs', hxl', hget'⟩ : ∃ xs', gL φ cs'.list = some xs' ∧ xs'.length ≤ L.tot ∧ ∀ i, i < xs'.length → cc[L.base + i]? = xs'[i]? :=
                      ⟨xs.take (off + len * P.cellsOf el'), by rw [hcs'l]; exact gL_take _ hxs, by rw [List.length_take]; omega, fun i hi => by
                        rw [List.length_take] at hi
                        rw [hget i (by omega), List.getElem?_take, if_pos (by omega)]⟩
                    have hcl' : cs'.list.length = off + len * P.cellsOf el' := by rw [hcs'l, List.length_take]; omega
                    have hxsl := gL_length hxs'
                    by_cases hroom : len + n ≤ c
                    · -- in place
                      have hmul : (len + n) * P.cellsOf el' ≤ L.tot - off := by
                        have h1 : c * P.cellsOf el' ≤ L.tot - off := by rw [← hcap]; exact Nat.div_mul_le_self _ _
                        have h2 : (len + n) * P.cellsOf el' ≤ c * P.cellsOf el' := Nat.mul_le_mul_right _ hroom
                        omega
                      rw [Nat.add_mul] at hmul
                      have hall := allOne_ok hone hNEW
                      obtain ⟨w', c', hrun, hh', hl', hs', ho', a1, a2, a3⟩ := storeCells_ok (P := P) NEW 0 cc w (O := L.base + off + len * P.cellsOf el') hh (by omega) (fun o ho => by omega) hall
                      have := (run_app (P := P) (w := w) (ty := ty) (base := some ⟨L.blk, L.base + off, none⟩) (sLen := len) (sCap := c) h0 h1 hS hU hu hI hzr hlen hfirst).1 hroom
                      simp only [add_eq, hrun, Result.andThen_ok] at this
                      have hat : At (upd φ h.nxt ⟨L.blk, L.base + off, L.tot - off, P.cellsOf el', undef⟩) ⟨L.blk, L.base + off, L.tot - off, P.cellsOf el', undef⟩ (.row el' ((cs'.drop off).app new) (some (P.cellsOf el'))) w' := by
                        have hlen' : c'.size = cc.size := by
                          rw [← Array.length_toList, hl', layG_length _ _ _ (by simp; omega), Array.length_toList]
                        refine ⟨c', lo, hi', xs'.drop off ++ NEW, hh', gL_sub (upd_sub _ hfr) (by rw [Cl.app_eq, Cl.drop_eq]; exact gL_append (gL_drop off hxs') hNEW), by show L.base + off + (L.tot - off) ≤ c'.size; omega, ?_, fun h => by simp at h, fun m hm => by simp only [Option.some.injEq] at hm; subst hm; exact .inl ⟨rfl, hpos⟩, fun i hi2 => ?_, by omega⟩
                        · show (xs'.drop off ++ NEW).length ≤ L.tot - off
                          rw [List.length_append, List.length_drop]; omega
                        · rw [List.length_append, List.length_drop] at hi2
                          show c'[L.base + off + i]? = _
                          rw [← Array.getElem?_toList, hl', layG_get _ _ _ (by simp; omega)]
                          by_cases h1 : i < len * P.cellsOf el'
                          · rw [if_pos (by omega), List.getElem?_append_left (by rw [List.length_drop]; omega), List.getElem?_drop, Array.getElem?_toList, show L.base + off + i = L.base + (off + i) by omega]
                            exact hget' _ (by omega)
                          · rw [if_neg (by omega), if_pos (by omega), List.getElem?_append_right (by rw [List.length_drop]; omega), List.length_drop]
                            congr 1; omega
                      obtain ⟨hR2, hS2⟩ := take_step (L' := ⟨L.blk, L.base + off, L.tot - off, P.cellsOf el', undef⟩) hR hg hL rfl hat a1 a2 a3 hs' ho' (fun c0 e0 f0 hc0 => by
                        rw [hh] at hc0
                        simp only [Option.some.injEq, Obj.cells.injEq] at hc0
                        obtain ⟨rfl, rfl, _⟩ := hc0
                        have hlen' : c'.size = cc.size := by
                          rw [← Array.length_toList, hl', layG_length _ _ _ (by simp; omega), Array.length_toList]
                        refine ⟨c', _, hh', hlen', fun o ho => ?_⟩
                        by_cases hoc : o < cc.size
                        · rw [← Array.getElem?_toList, hl', layG_get _ _ _ (by simp; omega)]
                          by_cases h1 : o < L.base
                          · rw [if_pos (by omega), Array.getElem?_toList]
                          · rw [if_neg (by omega), if_neg (by omega), Array.getElem?_toList]
                        · rw [Array.getElem?_eq_none (by omega), Array.getElem?_eq_none (by omega)]) ⟨Nat.le_add_right _ _, by show L.base + off + (L.tot - off) ≤ L.base + L.tot; omega⟩
                      refine ⟨_, _, w', this, ?_, hR2, hS2⟩
                      simp [g, gA, gCap, upd_self, hcap, hroom]
                    · have hless : ∀ j o, (h.del id).get j = some o → h.get j = some o := by
                        intro j o hj
                        rw [Hp.get_del] at hj
                        by_cases hji : j = id
                        · rw [if_pos hji] at hj; cases hj
                        · rw [if_neg hji] at hj; exact hj
                      refine grow rfl hroom (fun w' e => ?_) (hR.less hless (Nat.le_refl _)) (Stp.less hless) rfl
                      have hold : cellsC gl h (.own id, off) (len * P.cellsOf el') = some ((cs.drop off).take (len * P.cellsOf el')) := by
                        simp only [cellsC, hg]
                        have : Nat.ble (off + len * P.cellsOf el') cs.len = true := by rw [Nat.ble_eq, Cl.len_eq]; omega
                        simp only [this, cond_true]
                      obtain ⟨CS, hCS, hl, hcell⟩ := cellsC_ok (rel_heap hR e) hold (A := ⟨L.blk, L.base + off, none⟩) (by simp [gA, hL])
                      refine ⟨CS, by rw [Cl.take_eq, Cl.drop_eq] at hCS; rw [Cl.drop_eq, hcs'l, List.drop_take, show off + len * P.cellsOf el' - off = len * P.cellsOf el' by omega]; exact hCS, hl, ?_⟩
                      simp only [Builtin.firstCells]
                      rw [← hl]
                      exact run_loadCells_list w' _ CS hcell
                  · simp at hcap
                · simp at hr
              · simp at hr
            · simp at hr
      · simp at hr
  · simp at hr
end
end Ax
namespace Ax
open Go
variable [Sy]

section
variable {P : Program} {φ : Mp} {fr : T AV} {a : Act} {w : World} {ng : Nat} {gl : T (List AV)} {h h' : Hp} {isF : FuncId → Bool} {ext : FuncId → Option (List AV → Hp → Option (AV × Hp))}

theorem cOds_cons {x : Operand} {l : List Operand} {d : Od} {ds : List Od} (h : cOds (x :: l) = some (d :: ds)) : cOd x = some d ∧ cOds l = some ds := by
  unfold cOds at h
  split at h
  · rename_i p q hp hq
    simp only [Option.some.injEq, List.cons.injEq] at h
    rw [hp, hq, h.1, h.2]
    exact ⟨rfl, rfl⟩
  · simp at h
theorem cOds_nil {l : List Operand} (h : cOds l = some []) : l = [] := by
  cases l with
  | nil => rfl
  | cons x l => unfold cOds at h; split at h <;> simp at h
theorem cOds_ne {d : Od} {ds : List Od} (h : cOds [] = some (d :: ds)) : False := by simp [cOds] at h

theorem g_one {as : Array Operand} {x' : Od} (hargs : cOds as.toList = some [x']) : ∃ x, as = #[x] ∧ cOd x = some x' := by
  obtain ⟨as⟩ := as
  match as, hargs with
  | [], h => exact (cOds_ne h).elim
  | x :: y :: l, h => exact (by have := cOds_nil (cOds_cons h).2; cases this)
  | [x], h => exact ⟨x, rfl, (cOds_cons h).1⟩
theorem g_two {as : Array Operand} {x' y' : Od} (hargs : cOds as.toList = some [x', y']) : ∃ x y, as = #[x, y] ∧ cOd x = some x' ∧ cOd y = some y' := by
  obtain ⟨as⟩ := as
  match as, hargs with
  | [], h => exact (cOds_ne h).elim
  | [x], h => exact (cOds_ne (cOds_cons h).2).elim
  | x :: y :: z :: l, h => exact (by have := cOds_nil (cOds_cons (cOds_cons h).2).2; cases this)
  | [x, y], h => exact ⟨x, y, rfl, (cOds_cons h).1, (cOds_cons (cOds_cons h).2).1⟩

theorem mapErase {α β : Type} (f : α → β) : ∀ (l : List α) (j : Nat), (l.map f).eraseIdx j = (l.eraseIdx j).map f
  | [], _ => rfl
  | _ :: l, 0 => rfl
  | x :: l, j + 1 => by simp [mapErase f l j]
theorem gP_erase : ∀ {es : List (AV × AV)} {ps : List (Value × Value)} (j : Nat), gP φ es = some ps → gP φ (es.eraseIdx j) = some (ps.eraseIdx j)
  | [], ps, j, e => by simp only [gP, Option.some.injEq] at e; subst e; rfl
  | (k, v) :: l, ps, j, e => by
    have e0 := e
    simp only [gP, Option.map_eq_some_iff, Option.bind_eq_some_iff] at e
    obtain ⟨K, hK, V, hV, r, hr, rfl⟩ := e
    cases j with
    | zero => exact hr
    | succ j => simp only [List.eraseIdx_cons_succ, gP, hK, hV, gP_erase j hr, Option.bind_some, Option.map_some]
theorem gP_set : ∀ {es : List (AV × AV)} {ps : List (Value × Value)} (j : Nat) {k v : AV} {K V : Value}, gP φ es = some ps → g φ k = some K → g φ v = some V → gP φ (es.set j (k, v)) = some (ps.set j (K, V))
  | [], ps, j, k, v, K, V, e, _, _ => by simp only [gP, Option.some.injEq] at e; subst e; rfl
  | (k, v) :: l, ps, j, k0, v0, K0, V0, e, h1, h2 => by
    simp only [gP, Option.map_eq_some_iff, Option.bind_eq_some_iff] at e
    obtain ⟨K, hK, V, hV, r, hr, rfl⟩ := e
    cases j with
    | zero => simp only [List.set_cons_zero, gP, h1, h2, hr, Option.bind_some, Option.map_some]
    | succ j => simp only [List.set_cons_succ, gP, hK, hV, gP_set j hr h1 h2, Option.bind_some, Option.map_some]
theorem gP_snoc : ∀ {es : List (AV × AV)} {ps : List (Value × Value)} {k v : AV} {K V : Value}, gP φ es = some ps → g φ k = some K → g φ v = some V → gP φ (es ++ [(k, v)]) = some (ps ++ [(K, V)])
  | [], ps, k, v, K, V, e, h1, h2 => by simp only [gP, Option.some.injEq] at e; subst e; simp [gP, h1, h2]
  | (k, v) :: l, ps, k0, v0, K0, V0, e, h1, h2 => by
    simp only [gP, Option.map_eq_some_iff, Option.bind_eq_some_iff] at e
    obtain ⟨K, hK, V, hV, r, hr, rfl⟩ := e
    simp only [List.cons_append, gP, hK, hV, gP_snoc hr h1 h2, Option.bind_some, Option.map_some]

/-- An object that is no row of cells, turned in place. -/
theorem obj_ok {id : Nat} {o0 o1 : AO} {L : Lc} {ob0 ob : Obj} (hR : Rel ng (glF gl) φ h w) (hid : h.get id = some o0) (hL : φ id = some L) (hh : w.heap[L.blk]? = some ob0) (hno : ∀ c e f, ob0 ≠ .cells c e f)
    (hat : ∀ w' : World, w'.heap[L.blk]? = some ob → At φ L o1 w') :
    ∃ w', (setObj L.blk ob).run P w = .ok () w' ∧ Rel ng (glF gl) φ (h.set id o1) w' ∧ Stp φ h w φ (h.set id o1) w' := by
  refine ⟨{ w with heap := w.heap.setIfInBounds L.blk ob }, ?_, ?_⟩
  · cases ob0 with
    | cells c e f => exact (hno _ _ _ rfl).elim
    | _ => simp [setObj, Sem.run, hh]
  · have hlt : L.blk < w.heap.size := by
      rcases Nat.lt_or_ge L.blk w.heap.size with h0 | h0
      · exact h0
      · rw [Array.getElem?_eq_none h0] at hh; cases hh
    refine set_step hR hid hL (hat _ ?_) rfl rfl rfl (by simp) (fun b hb => ?_) (fun c el fz hc => by rw [hh] at hc; simp only [Option.some.injEq] at hc; exact (hno _ _ _ hc).elim)
    · simp [Array.getElem?_setIfInBounds, hlt]
    · simp only [Array.getElem?_setIfInBounds]
      rw [if_neg (Ne.symm hb)]

theorem E_app {o : Oper} {as : Array Operand} {tys : Array TypeId} {b : Builtin} (ho : o.op = .call { callee := .builtin b, args := as, argTypes := tys }) {args : List Od} (hargs : cOds as.toList = some args)
    {q : EO} (hc : cBuiltin P b tys args = some (.e q)) (hF : FR φ fr a) (hR : Rel ng (glF gl) φ h w) {v : AV} (hr : q.run gl isF ext fr h = .val v h') : EGives P ng gl φ h a o w v h' := by
  obtain ⟨cst, run0⟩ := run_builtin (P := P) ho a
  unfold cBuiltin at hc
  split at hc
  · -- append
    rename_i s' x'
    obtain ⟨s, x, rfl, hs, hx⟩ := g_two hargs
    split at hc
    · rename_i el u hu1 hu2
      simp only [Option.bind_eq_some_iff] at hu1 hu2
      obtain ⟨tS, h0, hS⟩ := hu1
      obtain ⟨tX, h1, hU⟩ := hu2
      have hnot : ∀ k, u ≠ .int k := by
        rintro k rfl
        have : (none : Option IOp) = some (.e q) := hc
        cases this
      have hc' : (bif Nat.blt 0 (P.cellsOf el) && (match zeroOf P el with | some z => Nat.beq z.cells.length (P.cellsOf el) | none => false) then some (IOp.e (.app el (P.cellsOf el) (P.bytesOf el) s' x')) else none) = some (.e q) := by
        cases u <;> first | exact (hnot _ rfl).elim | exact hc
      clear hc
      cases hz0 : zeroOf P el with
      | none => simp [hz0] at hc'
      | some z =>
        simp only [hz0, Bool.cond_eq_ite] at hc'
        split at hc'
        · rename_i hb
          simp only [Bool.and_eq_true, blt_iff, Nat.beq_eq] at hb
          obtain ⟨hpos, hz⟩ := hb
          simp only [Option.some.injEq, IOp.e.injEq] at hc'; subst hc'
          simp only [EO.run] at hr
          obtain ⟨φ', V, w', hrun, hg, hR', hSt⟩ := app_ok (P := P) (ty := o.type) hR h0 h1 hS hU hnot hpos hz0 hz (rd_ok hF hs) (rd_ok hF hx) hr
          refine ⟨φ', V, w', .inl ?_, hg, hR', hSt⟩
          rw [run0]
          have e : (#[s, x] : Array Operand).map a.eval = #[a.eval s, a.eval x] := by simp
          simp only [builtin, e, Sem.run_bind, hrun, Result.andThen_ok, Sem.run_pure]
        · simp at hc'
    · simp at hc
  · -- copy
    rename_i d' s'
    obtain ⟨d, s, rfl, hd, hs⟩ := g_two hargs
    split at hc
    · rename_i el hu1
      simp only [Option.bind_eq_some_iff] at hu1
      obtain ⟨tD, h0, hD⟩ := hu1
      simp only [Bool.cond_eq_ite] at hc
      split at hc
      · rename_i hI
        simp only [Option.some.injEq, IOp.e.injEq] at hc; subst hc
        simp only [EO.run] at hr
        have ed := rd_ok hF hd
        have es := rd_ok hF hs
        split at hr
        · rename_i base dl c sl hd' hsl
          rw [hd'] at ed
          split at hr
          · simp at hr
          · rename_i cs hcs
            have hlen := aLen_ok (P := P) hsl es
            obtain ⟨CS, hCS, hl, hfirst⟩ := src_ok (P := P) hR hcs es (fun l hl => by rw [hsl] at hl; simp only [Option.some.injEq] at hl; subst hl; exact Nat.min_le_left _ _)
            have e : (#[d, s] : Array Operand).map a.eval = #[a.eval d, a.eval s] := by simp
            cases base with
            | none =>
              simp only [St.val.injEq] at hr
              obtain ⟨rfl, rfl⟩ := hr
              obtain ⟨A, m, ed, hA⟩ := g_slcO ed
              have hdl : ∃ m, a.eval d = .slice none dl m := by
                rw [hd'] at *
                cases c with
                | u e0 => simp [g] at *
                | k c0 => simp only [g, Option.some.injEq] at *; exact ⟨_, (by assumption : _ = a.eval d).symm⟩
              obtain ⟨m', ed'⟩ := hdl
              refine ⟨φ, goInt (Nat.min sl dl), w, .inl ?_, rfl, hR, Stp.refl _ _ _⟩
              rw [run0]
              simp [builtin, e, Builtin.copy_, h0, run_underlying hD, ed', hlen, okI_ok hI, hfirst]
            | some p =>
              obtain ⟨A, m, hA, ed, _⟩ := g_slc ed
              simp only at hr
              split at hr
              · rename_i h'' hput
                simp only [St.val.injEq] at hr
                obtain ⟨rfl, rfl⟩ := hr
                obtain ⟨w', hrun, hR', hSt⟩ := put_ok (P := P) hR hput hA hCS
                refine ⟨φ, goInt (Nat.min sl dl), w', .inl ?_, rfl, hR', hSt⟩
                rw [run0]
                simp [builtin, e, Builtin.copy_, h0, run_underlying hD, ed, hlen, okI_ok hI, hfirst, hrun]
              · simp at hr
        · simp at hr
      · simp at hc
    · simp at hc
  · split at hc <;> simp at hc
  · split at hc <;> simp at hc
  · simp at hc
  · simp at hc
  · -- delete
    rename_i m' k'
    obtain ⟨m, k, rfl, hm, hk⟩ := g_two hargs
    split at hc
    · rename_i kt el hu1
      simp only [Option.bind_eq_some_iff] at hu1
      obtain ⟨tM, h0, hM⟩ := hu1
      split at hc
      · rename_i eq heq
        simp only [Option.some.injEq, IOp.e.injEq] at hc; subst hc
        simp only [EO.run] at hr
        have em := rd_ok hF hm
        have ek := rd_ok hF hk
        have e : (#[m, k] : Array Operand).map a.eval = #[a.eval m, a.eval k] := by simp
        split at hr
        · rename_i hm'
          rw [hm'] at em
          have em := g_mapN em
          simp only [Bool.cond_eq_ite] at hr
          split at hr
          · rename_i hf
            simp only [St.val.injEq] at hr
            obtain ⟨rfl, rfl⟩ := hr
            refine ⟨φ, .tuple #[], w, .inl ?_, rfl, hR, Stp.refl _ _ _⟩
            rw [run0]
            simp [builtin, e, Builtin.delete_, h0, run_underlying hM, em, chk_ok heq ek hf]
          · simp at hr
        · rename_i id hm'
          rw [hm'] at em
          obtain ⟨L, hL, em⟩ := g_mapS em
          split at hr
          · rename_i es hg
            cases hf : keyFits eq (k'.rd fr) with
            | false => simp [hf] at hr
            | true =>
              simp only [hf, cond_true] at hr
              obtain ⟨L', hL', _, ents, clock, hh, hp, hborn, hpw⟩ := hR.at_ id _ hg
              rw [hL] at hL'; simp only [Option.some.injEq] at hL'; subst hL'
              split at hr
              · rename_i r hdel
                simp only [St.val.injEq] at hr
                obtain ⟨rfl, rfl⟩ := hr
                have hgo : ∀ (ents' : Array MapEntry), (∃ i, (Instr.findKey kt (a.eval k) ents.toList).run P w = .ok i w ∧ (match i with | some (i, _) => ents.eraseIdxIfInBounds i | none => ents) = ents') →
                    gP φ r = some (ents'.toList.map fun e => (e.key, e.val)) → (∀ e ∈ ents'.toList, e.born < clock) → (ents'.toList.map (·.born)).Pairwise (· < ·) → EGives P ng gl φ h a o w (.tup []) (h.set id (.mp r)) := by
                  rintro ents' ⟨i, hi, he⟩ hp' hb' hpw'
                  obtain ⟨w', hrun, hR', hSt⟩ := obj_ok (P := P) (o1 := .mp r) (ob := .map ents' clock) hR hg hL hh (by simp) (fun w' hw' => ⟨ents', clock, hw', hp', hb', hpw'⟩)
                  refine ⟨φ, .tuple #[], w', .inl ?_, rfl, hR', hSt⟩
                  rw [run0]
                  simp only [builtin, e, Builtin.delete_, h0, Sem.run_bind, run_underlying hM, Result.andThen_ok, em, run_getMap hh, chk_ok heq ek hf, hi, List.getElem?_toArray, List.getElem?_cons_zero, List.getElem?_cons_succ]
                  subst he
                  cases i with
                  | none => simp only at hrun; simp only [Sem.run_bind, hrun, Result.andThen_ok, Sem.run_pure]
                  | some i => obtain ⟨i, u⟩ := i; simp only at hrun; simp only [Sem.run_bind, hrun, Result.andThen_ok, Sem.run_pure]
                rcases mDel_pos 0 hdel with ⟨rfl, h3⟩ | ⟨j, hj, rfl, h3⟩
                · exact hgo ents ⟨_, find_ok (P := P) (w := w) heq ek hp h3, rfl⟩ hp hborn hpw
                · have hj' : j < ents.size := by have := gP_length hp; simp at this; omega
                  have hps : (ents.eraseIdxIfInBounds j).toList = ents.toList.eraseIdx j := by
                    simp [Array.eraseIdxIfInBounds, hj']
                  refine hgo (ents.eraseIdxIfInBounds j) ⟨_, find_ok (P := P) (w := w) heq ek hp h3, ?_⟩ ?_ ?_ ?_
                  · simp [foundAt, hj']
                  · rw [hps, ← mapErase]; exact gP_erase j hp
                  · rw [hps]; exact fun e he => hborn e (List.mem_of_mem_eraseIdx he)
                  · rw [hps, ← mapErase]; exact hpw.sublist (List.eraseIdx_sublist _ _)
              · simp at hr
          · simp at hr
        · simp at hr
      · simp at hc
    · simp at hc
  · -- clear
    rename_i x'
    obtain ⟨x, rfl, hx⟩ := g_one hargs
    split at hc
    · rename_i el hu1
      simp only [Option.bind_eq_some_iff] at hu1
      obtain ⟨tD, h0, hD⟩ := hu1
      split at hc
      · rename_i z hz
        simp only [Bool.cond_eq_ite] at hc
        split at hc
        · rename_i hb
          simp only [Bool.and_eq_true, Nat.beq_eq, blt_iff] at hb
          obtain ⟨hzl, hpos⟩ := hb
          simp only [Option.some.injEq, IOp.e.injEq] at hc; subst hc
          simp only [EO.run] at hr
          have ex := rd_ok hF hx
          have e : (#[x] : Array Operand).map a.eval = #[a.eval x] := by simp
          obtain ⟨Z, hZ, hzr⟩ := run_zero hz φ
          have ez := g_cells (zeroOf_na hz) hZ
          have hzs : Z.cells.size = P.cellsOf el := by have := gL_length ez; simp at this; omega
          split at hr
          · rename_i base n c hx'
            rw [hx'] at ex
            obtain ⟨A, mm, ex', hAb⟩ := g_slcO ex
            rw [Bool.cond_eq_ite] at hr
            have skip : n = 0 ∨ A = none → (execOp a.eval o).run P w = .ok (.value (.tuple #[])) w := by
              intro hs
              rw [run0]
              rcases hs with rfl | rfl
              · cases A <;> simp [builtin, e, Builtin.clear_, h0, run_underlying hD, ex']
              · simp [builtin, e, Builtin.clear_, h0, run_underlying hD, ex']
            split at hr
            · rename_i hn0
              have hn0 := Nat.eq_of_beq_eq_true hn0
              simp only [St.val.injEq] at hr
              obtain ⟨rfl, rfl⟩ := hr
              exact ⟨φ, .tuple #[], w, .inl (skip (.inl hn0)), rfl, hR, Stp.refl _ _ _⟩
            · rename_i hn0
              have hn0 : n ≠ 0 := fun hh => hn0 (by rw [hh]; rfl)
              split at hr
              · simp only [St.val.injEq] at hr
                obtain ⟨rfl, rfl⟩ := hr
                have : A = none := by cases A <;> simp_all
                exact ⟨φ, .tuple #[], w, .inl (skip (.inr this)), rfl, hR, Stp.refl _ _ _⟩
              · rename_i p
                obtain ⟨A2, m2, hA2, ed2, _⟩ := g_slc ex
                split at hr
                · rename_i h'' hput
                  simp only [St.val.injEq] at hr
                  obtain ⟨rfl, rfl⟩ := hr
                  have hflat := gL_flat ez n
                  obtain ⟨w', hrun, hR', hSt⟩ := put_ok (P := P) hR hput hA2 (by rw [zeros_list]; exact hflat)
                  refine ⟨φ, .tuple #[], w', .inl ?_, rfl, hR', hSt⟩
                  rw [run0]
                  have hzc : (Builtin.zeroCells Z.cells n).toList = List.flatten (List.replicate n Z.cells.toList) := zeros_eq _ (by omega) n
                  have hn1 : ∃ k, n = k + 1 := ⟨n - 1, by omega⟩
                  obtain ⟨k, rfl⟩ := hn1
                  simp [builtin, e, Builtin.clear_, h0, run_underlying hD, ed2, hzr, hzc, hrun]
                · simp at hr
          · simp at hr
        · simp at hc
      · simp at hc
    · simp at hc
  · simp at hc
end
end Ax
namespace Ax
open Go
variable [Sy]

section
variable {P : Program} {φ : Mp} {fr : T AV} {a : Act} {w : World} {ng : Nat} {gl : T (List AV)} {h h' : Hp} {isF : FuncId → Bool} {ext : FuncId → Option (List AV → Hp → Option (AV × Hp))}

/-- A key equal to another is the same key, floats aside. -/
theorem eqLf_same {l : Lf} (hl : l ≠ .flt) {x y : AV} (h : eqLf l x y = some true) : (∀ φ, g φ x = g φ y) ∧ ∀ (n : Nat) (X : Value), g φ x = some X → Instr.sameBits n X X = true := by
  unfold eqLf at h
  split at h
  · simp only [Option.some.injEq, beq_iff_eq] at h; subst h
    refine ⟨fun _ => rfl, fun n X hX => ?_⟩
    have := g_bool hX; subst this; cases n <;> simp [Instr.sameBits]
  · rename_i k i k' j
    rw [Bool.cond_eq_ite] at h
    split at h
    · rename_i hk
      rw [kEq_eq] at hk
      simp only [decide_eq_true_eq] at hk; subst hk
      simp only [Option.some.injEq, iEq_eq, decide_eq_true_eq, Option.some.injEq] at h; subst h
      refine ⟨fun _ => rfl, fun n X hX => ?_⟩
      have := g_int hX; subst this; cases n <;> simp [Instr.sameBits]
    · simp at h
  · simp only [Option.some.injEq, BS.eq_beq, beq_iff_eq] at h
    refine ⟨fun _ => by simp only [g, h], fun n X hX => ?_⟩
    have := g_str hX; subst this
    have he : ∀ b : ByteArray, (b == b) = true := fun b => by
      obtain ⟨d⟩ := b
      show (d == d) = true
      simp
    cases n <;> exact he _
  · exact (hl rfl).elim
  · simp at h

theorem eqLs_same : ∀ {ls : List Lf} {xs ys : List AV}, (∀ l ∈ ls, l ≠ .flt) → eqLs ls xs ys = some true → (∀ φ, gL φ xs = gL φ ys) ∧ ∀ (n : Nat) (XS : List Value), gL φ xs = some XS → (XS.zip XS).all (fun (x, y) => Instr.sameBits n x y) = true
  | [], [], [], _, h => ⟨fun _ => rfl, fun n XS hX => by simp only [gL, Option.some.injEq] at hX; subst hX; rfl⟩
  | l :: ls, x :: xs, y :: ys, hl, h => by
    simp only [eqLs] at h
    split at h
    · rename_i h1
      obtain ⟨e1, h2⟩ := eqLf_same (φ := φ) (hl l (List.mem_cons_self ..)) h1
      obtain ⟨e2, h3⟩ := eqLs_same (fun m hm => hl m (List.mem_cons_of_mem _ hm)) h
      refine ⟨fun ψ => by simp only [gL, e1 ψ, e2 ψ], fun n XS hX => ?_⟩
      simp only [gL, Option.map_eq_some_iff, Option.bind_eq_some_iff] at hX
      obtain ⟨X, hX, r, hr, rfl⟩ := hX
      simp only [List.zip_cons_cons, List.all_cons, h2 n X hX, h3 n r hr, Bool.and_self]
    · rename_i r hr
      exact (hr h).elim
  | [], x :: xs, _, _, h => by simp [eqLs] at h
  | [], [], y :: ys, _, h => by simp [eqLs] at h
  | l :: ls, [], _, _, h => by simp [eqLs] at h
  | l :: ls, x :: xs, [], _, h => by simp [eqLs] at h

theorem eqV_same {t : TypeId} {e : EqK} (hK : KeyT P t e) (hn : noFlt e = true) {x y : AV} (h : eqV false e x y = some true) {X Y : Value} (hX : g φ x = some X) (hY : g φ y = some Y) :
    Instr.sameBits 10000 X Y = true := by
  obtain ⟨d, hd⟩ : ∃ d, d = 9999 := ⟨_, rfl⟩
  show Instr.sameBits (9999 + 1) X Y = true
  rw [← hd]
  have leaf : ∀ l, l ≠ .flt → eqLf l x y = some true → Instr.sameBits (d + 1) X Y = true := by
    intro l hl he
    obtain ⟨e1, h2⟩ := eqLf_same (φ := φ) hl he
    rw [← e1, hX] at hY; simp only [Option.some.injEq] at hY; subst hY
    exact h2 _ _ hX
  cases hK with
  | bool _ => exact leaf _ (by simp) h
  | int _ _ => exact leaf _ (by simp) h
  | str _ => exact leaf _ (by simp) h
  | agg ls _ _ =>
    unfold eqV at h
    split at h <;> first | contradiction | skip
    rename_i ls' xs ys he
    cases he
    rw [Bool.cond_eq_ite] at h
    split at h
    · have hl : ∀ l ∈ ls, l ≠ .flt := by
        intro l hl e
        subst e
        have := List.all_eq_true.1 hn _ hl
        simp at this
      obtain ⟨e1, h2⟩ := eqLs_same (φ := φ) hl h
      rw [show g φ (.agg ys) = g φ (.agg xs) by simp only [g, e1 φ], hX] at hY; simp only [Option.some.injEq] at hY; subst hY
      simp only [g, Option.map_eq_some_iff] at hX
      obtain ⟨XS, hXS, rfl⟩ := hX
      have := h2 d XS hXS
      simpa [Instr.sameBits] using this
    · simp at h

theorem eqV_key {t : TypeId} {e : EqK} (hK : KeyT P t e) (hn : noFlt e = true) {x y : AV} (h : eqV false e x y = some true) (ψ : Mp) : g ψ x = g ψ y := by
  cases hK with
  | bool _ => exact (eqLf_same (φ := fun _ => none) (by simp) h).1 ψ
  | int _ _ => exact (eqLf_same (φ := fun _ => none) (by simp) h).1 ψ
  | str _ => exact (eqLf_same (φ := fun _ => none) (by simp) h).1 ψ
  | agg ls _ _ =>
    unfold eqV at h
    split at h <;> first | contradiction | skip
    rename_i ls' xs ys he
    cases he
    rw [Bool.cond_eq_ite] at h
    split at h
    · have hl : ∀ l ∈ ls, l ≠ .flt := by
        intro l hl e
        subst e
        have := List.all_eq_true.1 hn _ hl
        simp at this
      simp only [g, (eqLs_same (φ := fun _ => none) hl h).1 ψ]
    · simp at h

theorem mPos_at0 {eq : EqK} {k : AV} : ∀ {es : List (AV × AV)} {i j : Nat}, mPos eq k es i = some (some (i + j)) → ∃ k2 v2, es[j]? = some (k2, v2) ∧ eqV false eq k k2 = some true
  | [], i, j, h => by simp [mPos] at h
  | (k', v) :: l, i, j, h => by
    simp only [mPos] at h
    split at h
    · rename_i he
      simp only [Option.some.injEq] at h
      obtain rfl : j = 0 := by omega
      exact ⟨k', v, rfl, he⟩
    · have hge : ∀ (l : List (AV × AV)) (i p : Nat), mPos eq k l i = some (some p) → i ≤ p := by
        intro l
        induction l with
        | nil => intro i p h; simp [mPos] at h
        | cons x l ih =>
          intro i p h
          obtain ⟨k', v⟩ := x
          simp only [mPos] at h
          split at h
          · simp only [Option.some.injEq] at h; omega
          · have := ih _ _ h; omega
          · simp at h
      have h1 := hge _ _ _ h
      obtain ⟨j, rfl⟩ : ∃ j', j = j' + 1 := ⟨j - 1, by omega⟩
      have h2 : mPos eq k l (i + 1) = some (some (i + 1 + j)) := by rw [h]; congr 2; omega
      obtain ⟨k2, v2, h3, h4⟩ := mPos_at0 h2
      exact ⟨k2, v2, by simpa using h3, h4⟩
    · simp at h
theorem mPos_at {eq : EqK} {k : AV} {es : List (AV × AV)} {j : Nat} (h : mPos eq k es 0 = some (some (0 + j))) : ∃ k2 v2, es[j]? = some (k2, v2) ∧ eqV false eq k k2 = some true := mPos_at0 h

theorem E_upd {o : Oper} {t : TypeId} {m k x : Operand} (ho : o.op = .mapUpdate t m k x ∨ o.op = .insert t m k x) {q : EO} (hc : cOp0 P (.mapUpdate t m k x) = some (.e q)) (hF : FR φ fr a)
    (hR : Rel ng (glF gl) φ h w) {v : AV} (hr : q.run gl isF ext fr h = .val v h') : EGives P ng gl φ h a o w v h' := by
  have run0 : ∀ w, (execOp a.eval o).run P w = ((Instr.mapUpdate t (a.eval m) (a.eval k) (a.eval x)).run P w).andThen fun _ w' => .ok .skip w' := by
    intro w
    rcases ho with ho | ho <;> (simp only [execOp, ho, Sem.run_bind]; rfl)
  simp only [cOp0] at hc
  split at hc
  · rename_i m' k' x' key el h1 h2 h3 hu
    split at hc
    · rename_i eq heq
      rw [Bool.cond_eq_ite] at hc
      split at hc
      · rename_i hn
        simp only [Option.some.injEq, IOp.e.injEq] at hc; subst hc
        simp only [EO.run] at hr
        have em := rd_ok hF h1
        have ek := rd_ok hF h2
        have ev := rd_ok hF h3
        split at hr
        · rename_i id hm'
          rw [hm'] at em
          obtain ⟨L, hL, em⟩ := g_mapS em
          split at hr
          · rename_i es hg
            cases hf : keyFits eq (k'.rd fr) with
            | false => simp [hf] at hr
            | true =>
              simp only [hf, cond_true] at hr
              obtain ⟨L', hL', _, ents, clock, hh, hp, hborn, hpw⟩ := hR.at_ id _ hg
              rw [hL] at hL'; simp only [Option.some.injEq] at hL'; subst hL'
              split at hr
              · rename_i r hput
                simp only [St.val.injEq] at hr
                obtain ⟨rfl, rfl⟩ := hr
                obtain ⟨hK, _⟩ := keyT_of heq
                rcases mPut_pos 0 hput with ⟨rfl, h3⟩ | ⟨j, hj, rfl, h3⟩
                · have hfd := find_ok (P := P) (w := w) heq ek hp h3
                  obtain ⟨w', hrun, hR', hSt⟩ := obj_ok (P := P) (o1 := .mp (es ++ [(k'.rd fr, x'.rd fr)])) (ob := .map (ents.push { key := a.eval k, val := a.eval x, born := clock }) (clock + 1)) hR hg hL hh (by simp)
                    (fun w' hw' => ⟨_, _, hw', by simpa using gP_snoc hp ek ev, by
                      intro e he
                      simp only [Array.toList_push, List.mem_append, List.mem_singleton] at he
                      rcases he with he | he
                      · have := hborn e he; omega
                      · subst he; exact Nat.lt_succ_self _, by
                      simp only [Array.toList_push, List.map_append, List.pairwise_append]
                      refine ⟨hpw, by simp, ?_⟩
                      intro b hb c hc'
                      simp only [List.mem_map] at hb hc'
                      obtain ⟨e, he, rfl⟩ := hb
                      obtain ⟨e', he', rfl⟩ := hc'
                      simp only [List.mem_singleton] at he'; subst he'
                      exact hborn e he⟩)
                  refine ⟨φ, undef, w', .inr ⟨rfl, ?_⟩, ?_, hR', hSt⟩
                  · rw [run0]
                    simp only [Instr.mapUpdate, Sem.run_bind, run_underlying hu, Result.andThen_ok, em, run_getMap hh, chk_ok heq ek hf, hfd, foundAt, hrun]
                  · rfl
                · have hlen := gP_length hp
                  simp only [List.length_map, Array.length_toList] at hlen
                  have hj' : j < ents.size := by omega
                  have hfd := find_ok (P := P) (w := w) heq ek hp h3
                  obtain ⟨k2, v2, he2, hkeq⟩ := mPos_at h3
                  obtain ⟨K2, V2, hK2, hgk2, hgv2⟩ := gP_get hp j k2 v2 (by simpa using he2)
                  have hold : (ents[j]'hj').key = K2 := by
                    simp [hj'] at hK2
                    exact hK2.1
                  have hst := eqV_same hK hn hkeq ek hgk2
                  have hst' := eqV_key hK hn hkeq φ
                  rw [← hst', ek] at hgk2
                  simp only [Option.some.injEq] at hgk2; subst hgk2
                  obtain ⟨w', hrun, hR', hSt⟩ := obj_ok (P := P) (o1 := .mp (es.set j (k'.rd fr, x'.rd fr))) (ob := .map (ents.modify j fun e => { e with key := a.eval k, val := a.eval x }) clock) hR hg hL hh (by simp)
                    (fun w' hw' => ⟨_, _, hw', by
                      have := gP_set j hp ek ev
                      rw [this]
                      refine congrArg some (List.ext_getElem? fun i => ?_)
                      by_cases hi : j = i
                      · subst hi; simp [hj', Array.getElem_modify]
                      · simp [List.getElem?_set, hi, Array.getElem?_modify, hj'], by
                      intro e he
                      obtain ⟨i, hi, rfl⟩ := List.mem_iff_getElem.1 he
                      simp only [Array.getElem_toList, Array.getElem_modify]
                      have hi' : i < ents.size := by simpa using hi
                      have := hborn (ents[i]'hi') (by simp)
                      split <;> simpa using this, by
                      have : (ents.modify j fun e => { e with key := a.eval k, val := a.eval x }).toList.map (·.born) = ents.toList.map (·.born) := by
                        refine List.ext_getElem? fun i => ?_
                        simp only [List.getElem?_map, Array.getElem?_toList, Array.getElem?_modify]
                        by_cases hi : j = i
                        · subst hi; simp [hj']
                        · simp [hi]
                      rw [this]; exact hpw⟩)
                  refine ⟨φ, undef, w', .inr ⟨rfl, ?_⟩, rfl, hR', hSt⟩
                  rw [run0]
                  have hfa : foundAt ents.toList 0 (some (0 + j)) = some (j, (ents[j]'hj').val) := by simp [foundAt, hj']
                  have hks : (Instr.keyThatStays (((ents[j]?).map (·.key)).getD (a.eval k)) (a.eval k)).run P w = .ok (a.eval k) w := by
                    simp [Instr.keyThatStays, hj', hold, hst]
                  simp only [Instr.mapUpdate, Sem.run_bind, run_underlying hu, Result.andThen_ok, em, run_getMap hh, chk_ok heq ek hf, hfd, hfa, hks, hrun]
              · simp at hr
          · simp at hr
        · simp at hr
      · simp at hc
    · simp at hc
  · simp at hc
end
end Ax
namespace Ax
open Go
variable [Sy]

/-- What stands for functions of the runtime is right. -/
noncomputable def ExtOk (P : Program) (ng : Nat) (gl : T (List AV)) (ext : FuncId → Option (List AV → Hp → Option (AV × Hp))) : Prop :=
  ∀ (f : FuncId) (e : List AV → Hp → Option (AV × Hp)) (args : List AV) (h : Hp) (v : AV) (h' : Hp), ext f = some e → e args h = some (v, h') →
    ∀ (φ : Mp) (w : World) (A : List Value), gL φ args = some A → Rel ng (glF gl) φ h w →
      ∃ (φ' : Mp) (X : Value) (w' : World), (callFunc f A.toArray).run P w = .ok (.value X) w' ∧ g φ' v = some X ∧ Rel ng (glF gl) φ' h' w' ∧ Stp φ h w φ' h' w'

noncomputable def EOut (P : Program) (ng : Nat) (gl : T (List AV)) (φ : Mp) (h : Hp) (a : Act) (o : Oper) (w : World) : St → Prop
  | .val v h' => EGives P ng gl φ h a o w v h'
  | .ent f as h' => h' = h ∧ isFn P f = true ∧ ∃ A, gL φ as = some A ∧ (execOp a.eval o).run P w = .ok (.enter f A.toArray) w
  | .pan v h' => h' = h ∧ ∃ X, g φ v = some X ∧ (execOp a.eval o).run P w = .halt (.panic X) w
  | .bad _ => True

section
variable {P : Program} {φ : Mp} {fr : T AV} {a : Act} {w : World} {ng : Nat} {gl : T (List AV)} {h h' : Hp} {isF : FuncId → Bool} {ext : FuncId → Option (List AV → Hp → Option (AV × Hp))}

theorem E_panic {o : Oper} {x : Operand} (ho : o.op = .panic x) {q : EO} (hc : cOp0 P (.panic x) = some (.e q)) (hF : FR φ fr a) {s : St} (hr : q.run gl isF ext fr h = s) : EOut P ng gl φ h a o w s := by
  simp only [cOp0, Option.map_eq_some_iff] at hc
  obtain ⟨d, hd, hc⟩ := hc
  simp only [IOp.e.injEq] at hc; subst hc
  have e1 := rd_ok hF hd
  simp only [EO.run] at hr
  split at hr
  · rename_i t v hx
    subst hr
    rw [hx] at e1
    obtain ⟨V, hV, ex⟩ := g_ifc e1
    refine ⟨rfl, .iface t V, by rw [← ex]; exact e1, ?_⟩
    simp [execOp, ho, Instr.panic, ex, goPanic, Sem.run_bind, Sem.run, Result.andThen]
  · subst hr; trivial

theorem E_nextS {o : Oper} {x : Operand} (ho : o.op = .next x true) {q : EO} (hc : cOp0 P (.next x true) = some (.e q)) (hF : FR φ fr a) (hR : Rel ng (glF gl) φ h w) {s : St} (hr : q.run gl isF ext fr h = s) : EOut P ng gl φ h a o w s := by
  simp only [cOp0, Option.map_eq_some_iff] at hc
  obtain ⟨d, hd, hc⟩ := hc
  simp only [IOp.e.injEq] at hc; subst hc
  have e1 := rd_ok hF hd
  simp only [EO.run] at hr
  split at hr
  · rename_i id hx
    rw [hx] at e1
    obtain ⟨A, hA, ex⟩ := g_ptr e1
    split at hr
    · rename_i str pos hg
      obtain ⟨L, hL, _, hat⟩ := hR.at_ id _ hg
      obtain ⟨hb0, hh⟩ : L.base = 0 ∧ w.heap[L.blk]? = some (.stringIter ⟨str.toArray⟩ pos) := hat
      have hbase : A = ⟨L.blk, 0, none⟩ := by simpa [gA, hL, hb0] using hA.symm
      subst hbase
      have hget : (getObj L.blk).run P w = .ok (.stringIter ⟨str.toArray⟩ pos) w := by simp [getObj, Sem.run, hh]
      split at hr
      · rename_i hnone
        subst hr
        have hge : ¬ pos < str.length := by
          intro hlt
          rw [List.getElem?_eq_getElem hlt] at hnone; cases hnone
        refine ⟨φ, .tuple #[.bool false], w, .inl ?_, rfl, hR, Stp.refl _ _ _⟩
        have hsz : ¬ pos < (⟨str.toArray⟩ : ByteArray).size := by simpa [ByteArray.size] using hge
        simp only [execOp, ho, Instr.next, ex, Sem.run_bind, hget, Result.andThen_ok, if_neg hsz, Sem.run_pure]
      · rename_i b hsome
        rw [Bool.cond_eq_ite] at hr
        split at hr
        · rename_i hb
          simp only [blt_iff] at hb
          subst hr
          have hlt : pos < str.length := by
            rcases Nat.lt_or_ge pos str.length with h0 | h0
            · exact h0
            · rw [List.getElem?_eq_none h0] at hsome; cases hsome
          have hsz : pos < (⟨str.toArray⟩ : ByteArray).size := by simpa [ByteArray.size] using hlt
          have hdec : Utf8.decode ⟨str.toArray⟩ pos = (b.toNat, 1) := by
            have hget! : ((⟨str.toArray⟩ : ByteArray).get! (pos + 0)) = b := by
              rw [List.getElem?_eq_getElem hlt] at hsome
              simp only [Option.some.injEq] at hsome
              simp [ByteArray.get!, hlt, hsome]
            unfold Utf8.decode
            simp only [hget!]
            rw [if_pos hb]
          obtain ⟨w', hrun, hR', hSt⟩ := obj_ok (P := P) (o1 := .sit str (pos + 1)) (ob := .stringIter ⟨str.toArray⟩ (pos + 1)) hR hg hL hh (by simp) (fun w' hw' => ⟨hb0, hw'⟩)
          refine ⟨φ, .tuple #[.bool true, goInt pos, .int .i32 b.toNat], w', .inl ?_, rfl, hR', hSt⟩
          simp only [execOp, ho, Instr.next, ex, Sem.run_bind, hget, Result.andThen_ok, if_pos hsz, hdec, hrun, Sem.run_pure]
        · subst hr; trivial
    · subst hr; trivial
  · subst hr; trivial

theorem run_fn {f : FuncId} {A : Array Value} (hf : isFn P f = true) : (callFunc f A).run P w = .ok (.enter f A) w := by
  unfold isFn at hf
  split at hf
  · rename_i fn hfn
    simp only [Bool.and_eq_true, bne_iff_ne, ne_eq] at hf
    obtain ⟨h1, h2⟩ := hf
    obtain ⟨c, hb⟩ := Option.isSome_iff_exists.1 h1
    simp [callFunc, program, Sem.run, hfn, h2, hb]
  · simp at hf

theorem E_call {o : Oper} {c : Call} (ho : o.op = .call c) {args : List Od} (hargs : cOds c.args.toList = some args) (hF : FR φ fr a) (hR : Rel ng (glF gl) φ h w) (hX : ExtOk P ng gl ext) :
    (∀ f, c.callee = .value (.func f) → isFn P f = true → EOut P ng gl φ h a o w ((EO.call f args).run gl isF ext fr h)) ∧
    (∀ f, c.callee = .value (.func f) → EOut P ng gl φ h a o w ((EO.ext f args).run gl isF ext fr h)) ∧
    (∀ x d, c.callee = .value x → cOd x = some d → (∀ f, isF f = true → isFn P f = true) → EOut P ng gl φ h a o w ((EO.callv d args).run gl isF ext fr h)) := by
  have hA := rds_ok hF hargs
  have hmap : (c.args.map a.eval) = (c.args.toList.map a.eval).toArray := by apply Array.ext'; simp
  refine ⟨?_, ?_, ?_⟩
  · intro f hf hfn
    refine ⟨rfl, hfn, _, hA, ?_⟩
    simp only [execOp, ho, resolve, hf, Sem.run_bind, Act.eval, Deferred.ofValue, Sem.run_pure, Result.andThen_ok, invoke]
    rw [hmap, run_fn (P := P) hfn]
    simp
  · intro f hf
    simp only [EO.run]
    split
    · rename_i e he
      split
      · rename_i v h' hev
        obtain ⟨φ', X, w', hrun, hg, hR', hSt⟩ := hX f e _ h v h' he hev φ w _ hA hR
        refine ⟨φ', X, w', .inl ?_, hg, hR', hSt⟩
        simp only [execOp, ho, resolve, hf, Sem.run_bind, Act.eval, Deferred.ofValue, Sem.run_pure, Result.andThen_ok, invoke]
        rw [hmap]
        simpa using hrun
      · trivial
    · trivial
  · intro x d hx hd hisF
    have ex := rd_ok hF hd
    simp only [EO.run]
    split
    · rename_i f first caps hxd
      rw [Bool.cond_eq_ite]
      split
      · rename_i hf
        rw [hxd] at ex
        obtain ⟨xs, ys, h1, h2, e2⟩ := g_fn ex
        have hall : gL φ (first ++ (args.map (Od.rd fr)) ++ caps) = some (xs ++ (c.args.toList.map a.eval) ++ ys) := gL_append (gL_append h1 hA) h2
        refine ⟨rfl, hisF f hf, _, hall, ?_⟩
        simp only [execOp, ho, resolve, hx, Sem.run_bind, e2, Deferred.ofValue, Sem.run_pure, Result.andThen_ok, invoke]
        rw [run_fn (P := P) (hisF f hf)]
        simp
      · trivial
    · trivial

noncomputable def St.vb : St → Bool
  | .val _ _ => true
  | .bad _ => true
  | _ => false

theorem aApp_vb {el : TypeId} {sz bytes : Nat} {x y : AV} : (aApp gl h el sz bytes x y).vb = true := by
  unfold aApp
  simp only [Bool.cond_eq_ite]
  repeat' split
  all_goals rfl

noncomputable def EO.plain : EO → Bool
  | .store _ _ _ | .app _ _ _ _ _ | .copy _ _ _ | .upd _ _ _ _ | .del _ _ _ | .cv _ | .clr _ _ => true
  | _ => false

theorem plain_vb {q : EO} (hq : q.plain = true) : (q.run gl isF ext fr h).vb = true := by
  cases q with
  | app => exact aApp_vb
  | store => simp only [EO.run, Bool.cond_eq_ite]; repeat' split
             all_goals rfl
  | copy => simp only [EO.run, Bool.cond_eq_ite]; repeat' split
            all_goals rfl
  | upd => simp only [EO.run, Bool.cond_eq_ite]; repeat' split
           all_goals rfl
  | del => simp only [EO.run, Bool.cond_eq_ite]; repeat' split
           all_goals rfl
  | cv => simp only [EO.run]; repeat' split
          all_goals rfl
  | clr => simp only [EO.run, Bool.cond_eq_ite]; repeat' split
           all_goals rfl
  | _ => simp [EO.plain] at hq

theorem plain_out {o : Oper} {q : EO} (hq : q.plain = true) (hv : ∀ v h', q.run gl isF ext fr h = .val v h' → EGives P ng gl φ h a o w v h') : EOut P ng gl φ h a o w (q.run gl isF ext fr h) := by
  have := plain_vb (gl := gl) (isF := isF) (ext := ext) (fr := fr) (h := h) hq
  cases hs : q.run gl isF ext fr h with
  | val v h' => exact hv v h' hs
  | bad n => trivial
  | ent f as h' => rw [hs] at this; simp [St.vb] at this
  | pan v h' => rw [hs] at this; simp [St.vb] at this

theorem builtin_plain {b : Builtin} {tys : Array TypeId} {args : List Od} {q : EO} (hc : cBuiltin P b tys args = some (.e q)) : q.plain = true := by
  unfold cBuiltin at hc
  simp only [Bool.cond_eq_ite] at hc
  repeat' split at hc
  all_goals first
    | (simp only [Option.some.injEq, IOp.e.injEq] at hc; subst hc; rfl)
    | simp at hc

theorem E_cv {o : Oper} {s t : TypeId} {x : Operand} (ho : o.op = .convert s t x) {q : EO} (hc : cOp0 P (.convert s t x) = some (.e q)) (hF : FR φ fr a) (hR : Rel ng (glF gl) φ h w) :
    q.plain = true ∧ ∀ v h', q.run gl isF ext fr h = .val v h' → EGives P ng gl φ h a o w v h' := by
  simp only [cOp0] at hc
  split at hc
  · simp at hc
  · simp at hc
  · simp at hc
  · split at hc <;> simp at hc
  · split at hc <;> simp at hc
  · rename_i x' e1 el h1 h2 h3
    split at hc
    · rename_i h4
      rw [Bool.cond_eq_ite] at hc
      split at hc
      · rename_i hst
        rw [Nat.beq_eq] at hst
        simp only [Option.some.injEq, IOp.e.injEq] at hc; subst hc
        refine ⟨rfl, fun v h' hr => ?_⟩
        have e := rd_ok hF h1
        simp only [EO.run] at hr
        split at hr
        · rename_i id off n cp hx
          split at hr
          · rename_i el' cs tail hg
            simp only [St.val.injEq] at hr
            obtain ⟨rfl, rfl⟩ := hr
            obtain ⟨L, hL, hng, c, lo, hi, xs, hh, hxs, hbt, hxl, htail, hesz, hget, hfz⟩ := hR.at_ id _ hg
            have e0 := e
            rw [hx] at e0
            obtain ⟨A, m, hA, ex, _⟩ := g_slc e0
            have hAb : A.block = L.blk := by
              simp only [gA, hL, Option.map_some, Option.some.injEq] at hA
              rw [← hA]
            have hlt : L.blk < w.heap.size := (Array.getElem?_eq_some_iff.1 hh).1
            let w' := w.freeze { block := L.blk, off := c.size, spot := none } 1
            obtain ⟨fz, hfz'⟩ : ∃ fz : Nat × Nat, fz = (if lo == hi then (c.size, c.size + 1) else (min lo c.size, max hi (c.size + 1))) := ⟨_, rfl⟩
            have hw' : w'.heap[L.blk]? = some (.cells c el' fz) := by
              simp only [w', World.freeze, Nat.one_ne_zero, if_false, Array.getElem?_modify, if_true, hh, Option.map_some, hfz']
            have hold : ∀ b, b ≠ L.blk → w'.heap[b]? = w.heap[b]? := by
              intro b hb
              simp only [w', World.freeze, Nat.one_ne_zero, if_false, Array.getElem?_modify]
              rw [if_neg (Ne.symm hb)]
            have hat : At φ L (.row el' cs tail) w' := by
              refine ⟨c, fz.1, fz.2, xs, by rw [hw'], hxs, hbt, hxl, htail, hesz, hget, .inr ?_⟩
              rw [hfz']
              by_cases hlh : lo = hi
              · simp [hlh]
              · have : (lo == hi) = false := by simpa using hlh
                rw [this]
                simp only [Bool.false_eq_true, if_false]
                rcases hfz with h5 | h5
                · exact (hlh h5).elim
                · omega
            obtain ⟨hR', hSt⟩ := set_step hR hg hL hat (w' := w') rfl rfl rfl (by simp [w', World.freeze]) hold (fun c0 e0 f0 hc0 => by rw [hh] at hc0; simp only [Option.some.injEq, Obj.cells.injEq] at hc0; obtain ⟨rfl, rfl, _⟩ := hc0; exact ⟨_, fz, hw', rfl, fun _ _ => rfl⟩)
            refine ⟨φ, a.eval x, w', .inl ?_, by rw [← hx]; exact e, hR', hSt⟩
            have hsh : w.shape? L.blk = some (el', c.size) := by simp [World.shape?, hh]
            have hdd : (s == t) = true := by simp [hst]
            simp only [execOp, ho, convert, Sem.run_bind, run_underlying h2, run_underlying h3, run_underlying h4, Result.andThen_ok, ex, hdd, markStringish, run_shape, hAb, hsh, run_freeze, Sem.run_pure]
            rfl
          · cases hr
        · cases hr
      · simp at hc
    · simp at hc
  · simp at hc

theorem E_ok {o : Oper} {q : EO} (hc : cOp0 P o.op = some (.e q)) (hF : FR φ fr a) (hR : Rel ng (glF gl) φ h w) (hX : ExtOk P ng gl ext) : EOut P ng gl φ h a o w (q.run gl (isFn P) ext fr h) := by
  cases ho : o.op with
  | store t x y =>
    rw [ho] at hc
    refine plain_out ?_ fun v h' hr => E_store ho hc hF hR hr
    simp only [cOp0, Bool.cond_eq_ite] at hc
    repeat' split at hc
    all_goals first
      | (simp only [Option.some.injEq, IOp.e.injEq] at hc; subst hc; rfl)
      | simp at hc
  | mapUpdate t m k x =>
    rw [ho] at hc
    refine plain_out ?_ fun v h' hr => E_upd (.inl ho) hc hF hR hr
    simp only [cOp0, Bool.cond_eq_ite] at hc
    repeat' split at hc
    all_goals first
      | (simp only [Option.some.injEq, IOp.e.injEq] at hc; subst hc; rfl)
      | simp at hc
  | insert t m k x =>
    rw [ho] at hc
    have hc' : cOp0 P (.mapUpdate t m k x) = some (.e q) := hc
    refine plain_out ?_ fun v h' hr => E_upd (.inr ho) hc' hF hR hr
    simp only [cOp0, Bool.cond_eq_ite] at hc
    repeat' split at hc
    all_goals first
      | (simp only [Option.some.injEq, IOp.e.injEq] at hc; subst hc; rfl)
      | simp at hc
  | next x b =>
    rw [ho] at hc
    cases b with
    | true => exact E_nextS ho hc hF hR rfl
    | false => simp [cOp0] at hc
  | panic x => rw [ho] at hc; exact E_panic ho hc hF rfl
  | convert s t x =>
    rw [ho] at hc
    obtain ⟨k1, k2⟩ := E_cv (isF := isFn P) (ext := ext) ho hc hF hR
    exact plain_out k1 k2
  | call c =>
    rw [ho] at hc
    simp only [cOp0] at hc
    split at hc
    · rename_i args hargs
      obtain ⟨k1, k2, k3⟩ := E_call (isF := isFn P) (ext := ext) ho hargs hF hR hX
      split at hc
      · rename_i f hf
        rw [Bool.cond_eq_ite] at hc
        split at hc
        · rename_i hfn
          simp only [Option.some.injEq, IOp.e.injEq] at hc; subst hc
          exact k1 f hf hfn
        · simp only [Option.some.injEq, IOp.e.injEq] at hc; subst hc
          exact k2 f hf
      · rename_i x hne hx
        simp only [Option.map_eq_some_iff] at hc
        obtain ⟨d, hd, hc⟩ := hc
        simp only [IOp.e.injEq] at hc; subst hc
        exact k3 x d hx hd (fun f hf => hf)
      · rename_i b hb
        obtain ⟨ty, as, tys⟩ : ∃ (ty : Callee) (as : Array Operand), True := ⟨c.callee, c.args, trivial⟩
        have ho' : o.op = .call { callee := .builtin b, args := c.args, argTypes := c.argTypes } := by rw [ho, ← hb]
        exact plain_out (builtin_plain hc) fun v h' hr => E_app ho' hargs hc hF hR hr
      · simp at hc
    · simp at hc
  | _ =>
    exfalso
    rw [ho] at hc
    simp only [cOp0, Bool.cond_eq_ite] at hc
    repeat' split at hc
    all_goals first | (simp at hc; done) | contradiction | (simp_all; done)
end
end Ax
namespace Ax
open Go
variable [Sy]

structure Inv (D : List Deferred) (ng : Nat) (gl : T (List AV)) (n : Nat) (φ : Mp) (fr : T AV) (h : Hp) (a : Act) (w : World) : Prop where
  fr : FR φ fr a
  sz : n ≤ a.tmps.size
  rel : Rel ng (glF gl) φ h w
  df : a.defers = D

/-- What a call came to, in the model. -/
noncomputable def CPost (ng : Nat) (gl : T (List AV)) (φ : Mp) (h : Hp) (w : World) : CR → Ending → World → Prop
  | .ret v h', .returned V, w' => ∃ φ', g φ' v = some V ∧ Rel ng (glF gl) φ' h' w' ∧ Stp φ h w φ' h' w'
  | .pan v h', .panicked ch, w' => ∃ φ' V, ch = [{ v := V, recovered := false }] ∧ g φ' v = some V ∧ Rel ng (glF gl) φ' h' w' ∧ Stp φ h w φ' h' w'
  | _, _, _ => False

noncomputable def CR.good : CR → Prop
  | .err _ => False
  | _ => True

noncomputable def CalOk (P : Program) (ng : Nat) (gl : T (List AV)) (cal : FuncId → List AV → Hp → CR) : Prop :=
  ∀ (f : FuncId) (as : List AV) (h : Hp), (cal f as h).good → ∀ (φ : Mp) (w : World) (A : List Value), gL φ as = some A → Rel ng (glF gl) φ h w → Calls P f A.toArray w (CPost ng gl φ h w (cal f as h))

/-- What code came to, in the model. -/
noncomputable def RPost (D : List Deferred) (ng : Nat) (gl : T (List AV)) (n : Nat) (φ : Mp) (h : Hp) (w : World) : RR → Exit → Act → World → Prop
  | .ok fr' h', .normal, a', w' => ∃ φ', Inv D ng gl n φ' fr' h' a' w' ∧ Stp φ h w φ' h' w'
  | .pan v fr' h', .panic ch, a', w' => ∃ φ' V, ch = [{ v := V, recovered := false }] ∧ g φ' v = some V ∧ Inv D ng gl n φ' fr' h' a' w' ∧ Stp φ h w φ' h' w'
  | _, _, _, _ => False

noncomputable def RR.good : RR → Prop
  | .err _ => False
  | _ => True

section
variable {D : List Deferred} {P : Program} {φ : Mp} {fr : T AV} {a : Act} {w : World} {ng n : Nat} {gl : T (List AV)} {h : Hp} {ops : Array Oper}

theorem key_ne {s t : Nat} (h : s ≠ t) : Ps.key s ≠ Ps.key t := fun e => h (Ps.key_inj e)

theorem FR.put {d : Nat} {v : AV} {V : Value} (hF : FR φ fr a) (hd : d < a.tmps.size) (hv : g φ v = some V) : FR φ (fr.put (some v) (Ps.key d)) (a.put (some d) V) := by
  intro t
  simp only [Od.rd, T.get_put, Act.put]
  by_cases ht : t = d
  · subst ht
    simp only [if_true]
    rw [hv]
    simp [Array.getD, hd]
  · rw [if_neg (key_ne ht)]
    have := hF t
    simp only [Od.rd] at this
    rw [this]
    congr 1
    simp only [Array.getD_eq_getD_getElem?, Array.getElem?_setIfInBounds_ne (Ne.symm ht)]

/-- How an operation's slot and guard were compiled. -/
structure CO (P : Program) (n : Nat) (ops : Array Oper) (o : Oper) (io : Iop) : Prop where
  dst : (o.dst = none ∧ io.dst = none) ∨ ∃ d, o.dst = some d ∧ d < n ∧ io.dst = some (Ps.key d)
  guard : (o.guard = none ∧ io.guard = none) ∨ ∃ j want d, o.guard = some (j, want) ∧ (ops[j]?).bind (·.dst) = some d ∧ io.guard = some (Ps.key d, want)
  op : io.op = .bad 50 ∨ cOp0 P o.op = some io.op

theorem cOper_inv (o : Oper) : (cOper P n ops o).op = .bad 51 ∧ (cOper P n ops o).guard = none ∨ CO P n ops o (cOper P n ops o) := by
  unfold cOper
  split
  · rename_i d gd hd hg
    right
    refine ⟨?_, ?_, ?_⟩
    · cases hod : o.dst with
      | none => rw [hod] at hd; simp only [Option.some.injEq] at hd; subst hd; exact .inl ⟨rfl, rfl⟩
      | some x =>
        rw [hod] at hd
        simp only [Bool.cond_eq_ite] at hd
        split at hd
        · rename_i hlt
          simp only [Option.some.injEq] at hd; subst hd
          exact .inr ⟨x, rfl, (blt_iff _ _).1 hlt, rfl⟩
        · simp at hd
    · cases hog : o.guard with
      | none => rw [hog] at hg; simp only [Option.some.injEq] at hg; subst hg; exact .inl ⟨rfl, rfl⟩
      | some jw =>
        obtain ⟨j, want⟩ := jw
        rw [hog] at hg
        simp only at hg
        split at hg
        · rename_i d' hd'
          simp only [Option.some.injEq] at hg; subst hg
          exact .inr ⟨j, want, d', rfl, hd', rfl⟩
        · simp at hg
    · simp only [cOp]
      cases hc : cOp0 P o.op with
      | none => exact .inl rfl
      | some i => exact .inr rfl
  · exact .inl ⟨rfl, rfl⟩

theorem g_isBool {v : AV} {b : Bool} (hn : v.isAny = false) (h : g φ v = some (.bool b)) : v = .bool b := by
  cases v with
  | any i => cases hn
  | bool c => simp only [g, Option.some.injEq, Value.bool.injEq] at h; rw [h]
  | ptr p => obtain ⟨A, hA, _⟩ := g_ptrO h; cases hA
  | slc p m c => obtain ⟨A, m, hA, _⟩ := g_slcO h; cases hA
  | map r => cases r <;> simp [g] at h
  | fn f a b => obtain ⟨_, _, _, _, h⟩ := g_fn h; cases h
  | ifc t u => obtain ⟨_, _, h⟩ := g_ifc h; cases h
  | agg l => obtain ⟨_, _, h⟩ := g_agg h; cases h
  | tup l => obtain ⟨_, _, h⟩ := g_tup h; cases h
  | _ => simp [g] at h

theorem guard_ok {o : Oper} {io : Iop} (hc : CO P n ops o io) (hF : FR φ fr a) (hna : guardOk fr io.guard = true ∨ guardAny fr io.guard = false) : guardOk fr io.guard = Region.wanted o (yielded ops a.tmps) := by
  rcases hc.guard with ⟨h1, h2⟩ | ⟨j, want, d, h1, h2, h3⟩
  · simp [h1, h2, guardOk, Region.wanted]
  · have hd := hF d
    rw [h3] at hna
    simp only [guardOk, guardAny] at hna
    simp only [h3, guardOk, Region.wanted, h1, yielded, h2, Option.bind_some]
    simp only [Od.rd] at hd
    split
    · rename_i b hb
      rw [hb] at hd
      simp only [g, Option.some.injEq] at hd
      have : a.tmps[d]? = some (.bool b) := by
        cases hx : a.tmps[d]? with
        | none => simp [Array.getD_eq_getD_getElem?, hx, undef] at hd
        | some y => simp [Array.getD_eq_getD_getElem?, hx] at hd; rw [hd]
      rw [this]
      cases b <;> cases want <;> rfl
    · rename_i hno
      have : ∀ b, a.tmps[d]? ≠ some (.bool b) := by
        intro b hb
        have hx : a.tmps.getD d undef = .bool b := by simp [Array.getD_eq_getD_getElem?, hb]
        rw [hx] at hd
        cases hg : fr.get (Ps.key d) with
        | none => rw [hg] at hd; have := g_isBool rfl hd; cases this
        | some u =>
          rw [hg] at hd hna
          simp only at hd
          have hn : u.isAny = false := by
            rcases hna with h | h
            · cases u with
              | any i => simp at h
              | _ => rfl
            · exact h
          have := g_isBool hn hd
          subst this; exact hno b hg
      split
      · rename_i b hb; exact (this b hb).elim
      · simp

theorem Inv.put {o : Oper} {io : Iop} (hc : CO P n ops o io) {φ' : Mp} {h' : Hp} {w' : World} {v : AV} {V : Value} (hI : Inv D ng gl n φ fr h a w) (hs : Sub φ φ') (hv : g φ' v = some V) (hR : Rel ng (glF gl) φ' h' w') :
    Inv D ng gl n φ' (putO fr io.dst v) h' (a.put o.dst V) w' := by
  rcases hc.dst with ⟨h1, h2⟩ | ⟨d, h1, h2, h3⟩
  · simp only [h1, h2, putO, Act.put]
    exact ⟨hI.fr.sub hs, hI.sz, hR, hI.df⟩
  · simp only [h1, h3, putO]
    exact ⟨(hI.fr.sub hs).put (Nat.lt_of_lt_of_le h2 hI.sz) hv, by simpa [Act.put] using hI.sz, hR, by simpa [Act.put] using hI.df⟩

theorem step_ok {E : Env} {cal : FuncId → List AV → Hp → CR} (hX : ExtOk E.P ng E.gl (fun f => E.ext.get (Ps.key f))) (hcal : CalOk E.P ng E.gl cal) {i : Nat} {o : Oper} (ho : ops[i]? = some o)
    (hI : Inv D ng E.gl n φ fr h a w) {r : RR} (hr : stepIO E cal (cOper E.P n ops o) fr h = r) (hg : r.good) {K : Act → World → Prop} {Q : Exit → Act → World → Prop}
    (hK : ∀ a' w', RPost D ng E.gl n φ h w r .normal a' w' → K a' w') (hQ : ∀ ch a' w', RPost D ng E.gl n φ h w r (.panic ch) a' w' → Q (.panic ch) a' w') : wpOp E.P ops Q i K a w := by
  rcases cOper_inv (P := E.P) (n := n) (ops := ops) o with ⟨hb, hgd⟩ | hc
  · unfold stepIO at hr
    rw [hb, hgd] at hr
    simp only [guardOk, cond_true] at hr
    subst hr; exact hg.elim
  · generalize cOper E.P n ops o = io at hr hc
    unfold wpOp
    simp only [ho]
    unfold stepIO at hr
    have hna : guardOk fr io.guard = true ∨ guardAny fr io.guard = false := by
      cases h1 : guardOk fr io.guard with
      | true => exact .inl rfl
      | false =>
        cases h2 : guardAny fr io.guard with
        | false => exact .inr rfl
        | true => rw [h1, h2] at hr; simp only [cond_true, cond_false] at hr; subst hr; exact hg.elim
    have hgu := guard_ok hc hI.fr hna
    rw [hgu] at hr
    cases hw : Region.wanted o (yielded ops a.tmps) with
    | false =>
      rw [hw] at hr
      have hna2 : guardAny fr io.guard = false := by
        rcases hna with h | h
        · rw [hgu, hw] at h; cases h
        · exact h
      rw [hna2] at hr
      simp only [cond_false] at hr
      subst hr
      simp only [Bool.false_eq_true, if_false]
      exact hK _ _ ⟨φ, hI.put hc (Sub.refl _) (V := undef) rfl hI.rel, Stp.refl _ _ _⟩
    | true =>
      rw [hw] at hr
      simp only [cond_true] at hr
      simp only [if_true]
      refine .inl ?_
      unfold Oper.wp
      rcases hc.op with hb | hop
      · rw [hb] at hr; simp only at hr; subst hr; exact hg.elim
      · cases hio : io.op with
        | bad m => rw [hio] at hr; simp only at hr; subst hr; exact hg.elim
        | p q =>
          rw [hio] at hr hop
          simp only at hr
          split at hr
          · rename_i v hv
            subst hr
            obtain ⟨X, hX', hrun⟩ := P_ok hop hI.fr hv
            rw [hrun w]
            exact hK _ _ ⟨φ, hI.put hc (Sub.refl _) hX' hI.rel, Stp.refl _ _ _⟩
          · subst hr; exact hg.elim
        | r q =>
          rw [hio] at hr hop
          simp only at hr
          split at hr
          · rename_i v hv
            subst hr
            obtain ⟨X, hX', hrun⟩ := R_ok hop hI.fr hI.rel hv
            rw [hrun]
            exact hK _ _ ⟨φ, hI.put hc (Sub.refl _) hX' hI.rel, Stp.refl _ _ _⟩
          · subst hr; exact hg.elim
        | a q =>
          rw [hio] at hr hop
          simp only at hr
          have hfr : φ h.nxt = none := hI.rel.fresh _ (Nat.le_refl _)
          split at hr
          · rename_i ob v hv
            subst hr
            obtain ⟨L, X, w', hrun, hgv, os, tape, output, hL, hat, hsz, hold⟩ := A_ok (w := w) hop hI.fr hfr hv
            obtain ⟨hR', hSt⟩ := alloc_step (h' := h.new ob) hI.rel L hfr (fun j => by rw [Hp.get_new]) (by rw [Hp.nxt_new]; omega) (by rw [Hp.nxt_new]; omega) hL hat os tape output hsz hold
            rw [hrun]
            exact hK _ _ ⟨_, hI.put hc (upd_sub L hfr) hgv hR', hSt⟩
          · rename_i v hv
            subst hr
            obtain ⟨L, X, w', hrun, hgv, os, tape, output, rfl⟩ := A_ok (w := w) hop hI.fr hfr hv
            have hno : h.get h.nxt = none := by
              cases hgn : h.get h.nxt with
              | none => rfl
              | some o => obtain ⟨M, hM, _⟩ := hI.rel.at_ _ _ hgn; rw [hfr] at hM; cases hM
            obtain ⟨hR', hSt⟩ := name_step (h' := { tr := h.tr, nxt := h.nxt + 1 }) hI.rel L hfr hno (fun j => rfl) (Nat.lt_succ_self _) (Nat.le_succ _)
            rw [hrun]
            exact hK _ _ ⟨_, hI.put hc (upd_sub L hfr) hgv hR', (Stp.refl _ _ _).also hSt (Nat.le_refl _) (Nat.le_succ _)⟩
          · subst hr; exact hg.elim
        | e q =>
          rw [hio] at hr hop
          simp only at hr
          have hout := E_ok (w := w) (ext := fun f => E.ext.get (Ps.key f)) hop hI.fr hI.rel hX
          split at hr
          · rename_i v h' hv
            subst hr
            rw [hv] at hout
            obtain ⟨φ', X, w', hrun, hgv, hR', hSt⟩ := hout
            have hput := hI.put hc hSt.sub hgv hR'
            rcases hrun with hrun | ⟨rfl, hrun⟩ <;> rw [hrun] <;> exact hK _ _ ⟨φ', hput, hSt⟩
          · rename_i f as h' hv
            rw [hv] at hout
            obtain ⟨rfl, hf, A, hA, hrun⟩ := hout
            rw [hrun]
            simp only [Oper.upon]
            cases hcr : cal f as h' with
            | err m => rw [hcr] at hr; simp only at hr; subst hr; exact hg.elim
            | ret v h'' =>
              rw [hcr] at hr; simp only at hr; subst hr
              have := hcal f as h' (by rw [hcr]; trivial) φ w A hA hI.rel
              rw [hcr] at this
              refine this.mono fun e w' he => ?_
              cases e with
              | returned V => obtain ⟨φ', hv', hR', hSt⟩ := he; exact hK _ _ ⟨φ', hI.put hc hSt.sub hv' hR', hSt⟩
              | panicked ch => exact he.elim
              | outgrown => exact he.elim
            | pan v h'' =>
              rw [hcr] at hr; simp only at hr; subst hr
              have := hcal f as h' (by rw [hcr]; trivial) φ w A hA hI.rel
              rw [hcr] at this
              refine this.mono fun e w' he => ?_
              cases e with
              | returned V => exact he.elim
              | panicked ch => obtain ⟨φ', V, rfl, hv', hR', hSt⟩ := he; exact hQ _ _ _ ⟨φ', V, rfl, hv', ⟨hI.fr.sub hSt.sub, hI.sz, hR', hI.df⟩, hSt⟩
              | outgrown => exact he.elim
          · rename_i v h' hv
            subst hr
            rw [hv] at hout
            obtain ⟨rfl, X, hgv, hrun⟩ := hout
            rw [hrun]
            exact hQ _ _ _ ⟨φ, X, rfl, hgv, hI, Stp.refl _ _ _⟩
          · subst hr; exact hg.elim

theorem runs_ok {E : Env} {cal : FuncId → List AV → Hp → CR} (hX : ExtOk E.P ng E.gl (fun f => E.ext.get (Ps.key f))) (hcal : CalOk E.P ng E.gl cal) {Q : Exit → Act → World → Prop} :
    ∀ (l : List Oper) (k : Nat) (fr : T AV) (h : Hp) (φ : Mp) (a : Act) (w : World) (r : RR), (∀ i, l[i]? = ops[k + i]?) → Inv D ng E.gl n φ fr h a w → runIOs E cal (l.map (cOper E.P n ops)) fr h = r → r.good →
      (∀ e a' w', RPost D ng E.gl n φ h w r e a' w' → Q e a' w') → wpOps E.P ops Q (List.range' k l.length) a w
  | [], k, fr, h, φ, a, w, r, _, hI, hr, hg, hQ => by
    have : r = .ok fr h := by rw [← hr]; rfl
    subst this
    simp only [List.length_nil, List.range'_zero, wpOps]
    exact hQ _ _ _ ⟨φ, hI, Stp.refl _ _ _⟩
  | o :: l, k, fr, h, φ, a, w, r, hl, hI, hr, hg, hQ => by
    have ho : ops[k]? = some o := by have := hl 0; simpa using this.symm
    have hl' : ∀ i, l[i]? = ops[k + 1 + i]? := by
      intro i
      have := hl (i + 1)
      simp only [List.getElem?_cons_succ] at this
      rw [this]; congr 1; omega
    have hr' : (match stepIO E cal (cOper E.P n ops o) fr h with
      | .ok fr h => runIOs E cal (l.map (cOper E.P n ops)) fr h
      | .pan v fr h => .pan v fr h
      | .err n => .err n) = r := hr
    simp only [List.length_cons, List.range'_succ, wpOps_cons]
    cases hs : stepIO E cal (cOper E.P n ops o) fr h with
    | err m => rw [hs] at hr'; simp only at hr'; subst hr'; exact hg.elim
    | pan v fr' h' =>
      rw [hs] at hr'; simp only at hr'; subst hr'
      exact step_ok hX hcal ho hI hs trivial (fun a' w' hp => hp.elim) (fun ch a' w' hp => hQ _ _ _ hp)
    | ok fr' h' =>
      rw [hs] at hr'; simp only at hr'
      refine step_ok hX hcal ho hI hs trivial (fun a' w' hp => ?_) (fun ch a' w' hp => hp.elim)
      obtain ⟨φ', hI', hSt⟩ := hp
      refine runs_ok hX hcal l (k + 1) fr' h' φ' a' w' r hl' hI' hr' hg (fun e a2 w2 hp => hQ _ _ _ ?_)
      cases r with
      | err m => exact hg.elim
      | ok fr2 h2 =>
        cases e <;> first | exact hp.elim | skip
        obtain ⟨φ2, hI2, hS2⟩ := hp
        exact ⟨φ2, hI2, hSt.trans hS2⟩
      | pan v fr2 h2 =>
        cases e <;> first | exact hp.elim | skip
        obtain ⟨φ2, V, e1, e2, e3, e4⟩ := hp
        exact ⟨φ2, V, e1, e2, e3, hSt.trans e4⟩
end
end Ax
namespace Ax
open Go
variable [Sy]

/-- Oracles are right. -/
noncomputable def OrcOk (E : Env) (ng : Nat) : Prop :=
  ∀ (f : FuncId) (o : Oc) (as : List AV) (h : Hp) (r : CR), E.orc.get (Ps.key f) = some o → o as h = some r → r.good → ∀ (φ : Mp) (w : World) (A : List Value), gL φ as = some A → Rel ng (glF E.gl) φ h w → Calls E.P f A.toArray w (CPost ng E.gl φ h w r)

/-- Regions that draw their order are run rightly. -/
noncomputable def DraOk (E : Env) (ng : Nat) : Prop :=
  ∀ (D : List Deferred) (cal : FuncId → List AV → Hp → CR) (n id : Nat) (ops : Array Oper) (l : List DO) (fr : T AV) (h : Hp) (φ : Mp) (a : Act) (w : World) (Q : Exit → Act → World → Prop), CalOk E.P ng E.gl cal → cDra E.P n ops = .dra l →
    (runDra E cal l fr h).good → Inv D ng E.gl n φ fr h a w → (∀ e a' w', RPost D ng E.gl n φ h w (runDra E cal l fr h) e a' w' → Q e a' w') → (Code.region id ops true).wp E.P Q a w

noncomputable def XPost (D : List Deferred) (ng : Nat) (gl : T (List AV)) (n : Nat) (φ : Mp) (h : Hp) (w : World) : XR → Exit → Act → World → Prop
  | .ok .nor fr' h', .normal, a', w' => ∃ φ', Inv D ng gl n φ' fr' h' a' w' ∧ Stp φ h w φ' h' w'
  | .ok .ret fr' h', .ret, a', w' => ∃ φ', Inv D ng gl n φ' fr' h' a' w' ∧ Stp φ h w φ' h' w'
  | .ok (.exi id) fr' h', .exit id', a', w' => id = id' ∧ ∃ φ', Inv D ng gl n φ' fr' h' a' w' ∧ Stp φ h w φ' h' w'
  | .ok (.pan v) fr' h', .panic ch, a', w' => ∃ φ' V, ch = [{ v := V, recovered := false }] ∧ g φ' v = some V ∧ Inv D ng gl n φ' fr' h' a' w' ∧ Stp φ h w φ' h' w'
  | _, _, _, _ => False

noncomputable def XR.good : XR → Prop
  | .err _ => False
  | _ => True

section
variable {D : List Deferred} {E : Env} {ng n : Nat}

theorem XPost.after {φ φ' : Mp} {h h' : Hp} {w w' : World} {r : XR} {e : Exit} {a' : Act} {w2 : World} (hS : Stp φ h w φ' h' w') (hp : XPost D ng E.gl n φ' h' w' r e a' w2) : XPost D ng E.gl n φ h w r e a' w2 := by
  cases r with
  | err m => cases e <;> exact hp.elim
  | ok x fr2 h2 =>
    cases x <;> cases e <;> first
      | exact hp.elim
      | (obtain ⟨φ2, hI, hS2⟩ := hp; exact ⟨φ2, hI, hS.trans hS2⟩)
      | (obtain ⟨hid, φ2, hI, hS2⟩ := hp; exact ⟨hid, φ2, hI, hS.trans hS2⟩)
      | (obtain ⟨φ2, V, e1, e2, e3, e4⟩ := hp; exact ⟨φ2, V, e1, e2, e3, hS.trans e4⟩)

theorem RPost.toX {φ : Mp} {h : Hp} {w : World} {r : RR} {e : Exit} {a' : Act} {w2 : World} (hp : RPost D ng E.gl n φ h w r e a' w2) : XPost D ng E.gl n φ h w r.toXR e a' w2 := by
  cases r <;> cases e <;> first
    | exact hp.elim
    | exact hp

/-- What one more step of fuel says of code. -/
noncomputable def CodeOk (E : Env) (ng : Nat) (rec : IC → T AV → Hp → XR) : Prop :=
  ∀ (D : List Deferred) (n : Nat) (c : Code) (fr : T AV) (h : Hp) (φ : Mp) (a : Act) (w : World) (Q : Exit → Act → World → Prop), (rec (cCode E.P n c) fr h).good → Inv D ng E.gl n φ fr h a w →
    (∀ e a' w', XPost D ng E.gl n φ h w (rec (cCode E.P n c) fr h) e a' w' → Q e a' w') → c.wp E.P Q a w
/-- And of a loop. -/
noncomputable def LoopOk (E : Env) (ng : Nat) (fuel : Nat) (rec : IC → T AV → Hp → XR) : Prop :=
  ∀ (D : List Deferred) (n : Nat) (c : Code) (fr : T AV) (h : Hp) (φ : Mp) (a : Act) (w : World) (Q : Exit → Act → World → Prop), (rec (.loop (cCode E.P n c)) fr h).good → Inv D ng E.gl n φ fr h a w →
    (∀ e a' w', XPost D ng E.gl n φ h w (rec (.loop (cCode E.P n c)) fr h) e a' w' → Q e a' w') → Code.rounds E.P c Q fuel a w

theorem good_nor {r : XR} {f : T AV → Hp → XR} (h : (match r with | .ok .nor fr h => f fr h | r => r).good) : r.good := by
  cases r with
  | err m => exact h
  | ok x fr h => trivial

theorem exec_step {rec : IC → T AV → Hp → XR} {cal : FuncId → List AV → Hp → CR} {fuel : Nat} (hX : ExtOk E.P ng E.gl (fun f => E.ext.get (Ps.key f))) (hD : DraOk E ng) (hcal : CalOk E.P ng E.gl cal) (hrec : CodeOk E ng rec) (hloop : LoopOk E ng fuel rec) :
    CodeOk E ng (execStep E cal rec) ∧ LoopOk E ng (fuel + 1) (execStep E cal rec) := by
  have loopOk : LoopOk E ng (fuel + 1) (execStep E cal rec) := by
    intro D n c fr h φ a w Q hg hI hQ
    simp only [execStep] at hg hQ
    rw [rounds_succ]
    refine hrec D n c fr h φ a w _ (good_nor hg) hI fun e a' w' hp => ?_
    cases hr : rec (cCode E.P n c) fr h with
    | err m => rw [hr] at hp; cases e <;> exact hp.elim
    | ok x fr' h' =>
      rw [hr] at hp hg hQ
      cases x with
      | nor =>
        cases e <;> first | exact hp.elim | skip
        obtain ⟨φ', hI', hS⟩ := hp
        exact hloop D n c fr' h' φ' a' w' Q hg hI' fun e a2 w2 hp => hQ _ _ _ (hp.after hS)
      | exi j => cases e <;> first | exact hp.elim | exact hQ _ _ _ hp
      | ret => cases e <;> first | exact hp.elim | exact hQ _ _ _ hp
      | pan v => cases e <;> first | exact hp.elim | exact hQ _ _ _ hp
  refine ⟨?_, loopOk⟩
  intro D n c fr h φ a w Q hg hI hQ
  cases c with
  | skip =>
    exact wp_skip (hQ .normal a w ⟨φ, hI, Stp.refl _ _ _⟩)
  | label l =>
    exact wp_label (hQ .normal a w ⟨φ, hI, Stp.refl _ _ _⟩)
  | region id ops draw =>
    cases draw with
    | false =>
      simp only [cCode, execStep] at hg hQ
      refine wp_region ?_
      rw [List.range_eq_range']
      have hlen : ops.size = ops.toList.length := by simp
      rw [hlen]
      refine runs_ok (n := n) hX hcal ops.toList 0 fr h φ a w _ (fun i => by simp) hI rfl ?_ fun e a' w' hp => hQ _ _ _ hp.toX
      generalize runIOs E cal (ops.toList.map (cOper E.P n ops)) fr h = r at hg
      cases r <;> first | exact hg | trivial
    | true =>
      simp only [cCode] at hg hQ
      cases hd : cDra E.P n ops with
      | dra l =>
        rw [hd] at hg hQ
        simp only [execStep] at hg hQ
        refine hD D cal n id ops l fr h φ a w Q hcal hd ?_ hI fun e a' w' hp => hQ _ _ _ hp.toX
        generalize runDra E cal l fr h = r at hg
        cases r <;> first | exact hg | trivial
      | bad m => rw [hd] at hg; exact hg.elim
      | _ =>
        exfalso
        unfold cDra at hd
        simp only [Bool.cond_eq_ite] at hd
        split at hd <;> cases hd
  | seq x y =>
    simp only [cCode, execStep] at hg hQ
    refine wp_seq (hrec D n x fr h φ a w _ (good_nor hg) hI fun e a' w' hp => ?_)
    cases hr : rec (cCode E.P n x) fr h with
    | err m => rw [hr] at hp; cases e <;> exact hp.elim
    | ok x fr' h' =>
      rw [hr] at hp hg hQ
      cases x with
      | nor =>
        cases e <;> first | exact hp.elim | skip
        obtain ⟨φ', hI', hS⟩ := hp
        exact hrec D n y fr' h' φ' a' w' Q hg hI' fun e a2 w2 hp => hQ _ _ _ (hp.after hS)
      | exi j => cases e <;> first | exact hp.elim | exact hQ _ _ _ hp
      | ret => cases e <;> first | exact hp.elim | exact hQ _ _ _ hp
      | pan v => cases e <;> first | exact hp.elim | exact hQ _ _ _ hp
  | cond c x y =>
    simp only [cCode] at hg hQ
    cases hc : cOd c with
    | none => rw [hc] at hg; exact hg.elim
    | some d =>
      rw [hc] at hg hQ
      simp only [execStep] at hg hQ
      have hv := rd_ok hI.fr hc
      split at hg
      · rename_i t ht
        rw [ht] at hv
        rw [ht] at hQ
        simp only [g, Option.some.injEq] at hv
        refine wp_cond (t := t) hv.symm ?_
        cases t with
        | true => exact hrec D n x fr h φ a w Q hg hI hQ
        | false => exact hrec D n y fr h φ a w Q hg hI hQ
      · exact hg.elim
  | block id x =>
    simp only [cCode, execStep] at hg hQ
    have hg' : (rec (cCode E.P n x) fr h).good := by
      cases hr : rec (cCode E.P n x) fr h with
      | err m => rw [hr] at hg; exact hg
      | ok x fr h => trivial
    refine wp_block (hrec D n x fr h φ a w _ hg' hI fun e a' w' hp => ?_)
    cases hr : rec (cCode E.P n x) fr h with
    | err m => rw [hr] at hp; cases e <;> exact hp.elim
    | ok x fr' h' =>
      rw [hr] at hp hg hQ
      cases x with
      | nor => cases e <;> first | exact hp.elim | exact hQ _ _ _ hp
      | ret => cases e <;> first | exact hp.elim | exact hQ _ _ _ hp
      | pan v => cases e <;> first | exact hp.elim | exact hQ _ _ _ hp
      | exi j =>
        cases e <;> first | exact hp.elim | skip
        obtain ⟨rfl, hp⟩ := hp
        simp only [Bool.cond_eq_ite] at hQ
        simp only [Exit.inBlock]
        by_cases hj : j = id
        · subst hj
          simp only [if_true]
          have : Nat.beq j j = true := by simp
          rw [if_pos this] at hQ
          exact hQ _ _ _ hp
        · rw [if_neg hj]
          have : ¬ (Nat.beq j id = true) := fun h => hj (Nat.eq_of_beq_eq_true h)
          rw [if_neg this] at hQ
          exact hQ _ _ _ ⟨rfl, hp⟩
  | loop x =>
    exact wp_loop_rounds (fuel + 1) (loopOk D n x fr h φ a w Q hg hI hQ)
  | exit id =>
    exact wp_exit (hQ (.exit id) a w ⟨rfl, φ, hI, Stp.refl _ _ _⟩)
  | ret =>
    exact wp_ret (hQ .ret a w ⟨φ, hI, Stp.refl _ _ _⟩)
  | _ => exact hg.elim

theorem ini_get : ∀ (l : List AV) (m : Nat) (t : T AV) (k : Nat), (ini m l t).get (Ps.key k) = if m ≤ k ∧ k < m + l.length then l[k - m]? else t.get (Ps.key k)
  | [], m, t, k => by
    simp only [ini, List.length_nil]
    rw [if_neg (by omega)]
  | v :: l, m, t, k => by
    simp only [ini, List.length_cons]
    rw [ini_get l (m + 1) _ k, T.get_put]
    by_cases h1 : m = k
    · subst h1
      rw [if_neg (by omega), if_pos rfl, if_pos (by omega), Nat.sub_self]
      rfl
    · by_cases h2 : m + 1 ≤ k ∧ k < m + 1 + l.length
      · rw [if_pos h2, if_pos (by omega)]
        obtain ⟨j, rfl⟩ : ∃ j, k = m + 1 + j := ⟨k - (m + 1), by omega⟩
        have e1 : m + 1 + j - (m + 1) = j := by omega
        have e2 : m + 1 + j - m = j + 1 := by omega
        rw [e1, e2, List.getElem?_cons_succ]
      · rw [if_neg h2, if_neg (fun h => h1 (Ps.key_inj h).symm), if_neg (by omega)]

theorem ini_ok {φ : Mp} {as : List AV} {A : List Value} (hA : gL φ as = some A) (m : Nat) : FR φ (ini 0 as .nil) { tmps := A.toArray ++ Array.replicate m undef, defers := [] } := by
  intro t
  have hlen : A.length = as.length := gL_length hA
  simp only [Od.rd, ini_get, T.get_nil]
  by_cases ht : t < as.length
  · rw [if_pos ⟨Nat.zero_le _, by omega⟩, Nat.sub_zero, List.getElem?_eq_getElem ht]
    simp only
    have h1 : (A.toArray ++ Array.replicate m undef).getD t undef = A[t]'(by omega) := by
      rw [Array.getD_eq_getD_getElem?, Array.getElem?_append_left (by simpa using by omega)]
      simp [hlen, ht]
    rw [h1]
    obtain ⟨y, hy, h3⟩ := gL_get hA t _ (List.getElem?_eq_getElem ht)
    rw [List.getElem?_eq_getElem (by omega)] at hy
    simp only [Option.some.injEq] at hy
    rw [h3, hy]
  · rw [if_neg (by omega)]
    have h1 : (A.toArray ++ Array.replicate m undef).getD t undef = undef := by
      rw [Array.getD_eq_getD_getElem?, Array.getElem?_append_right (by simpa using by omega)]
      simp only [Array.getElem?_replicate]
      split <;> rfl
    rw [h1]; rfl

noncomputable def resOf (P : Program) : ResultVar → RV
  | .tmp t => .tmp (Ps.key t)
  | .cell a t => bif okT P t then (bif isAggT P t then .cell (Ps.key a) (P.cellsOf t) true else .cell (Ps.key a) 1 false) else .bad

noncomputable def resSem (tmps : Array Value) : ResultVar → Sem Value
  | .tmp t => pure (tmps.getD t undef)
  | .cell b t => do loadVar t (← asAddr (tmps.getD b undef))

theorem resOne_ok {φ : Mp} {fr : T AV} {h : Hp} {a : Act} {w : World} (hF : FR φ fr a) (hR : Rel ng (glF E.gl) φ h w) {r : ResultVar} {v : AV} (hr : resOne E fr h (resOf E.P r) = some v) :
    ∃ V, g φ v = some V ∧ (resSem a.tmps r).run E.P w = .ok V w := by
  cases r with
  | tmp t =>
    simp only [resOf, resOne, Option.some.injEq] at hr; subst hr
    exact ⟨_, hF t, by simp [resSem]⟩
  | cell b t =>
    simp only [resOf, Bool.cond_eq_ite] at hr
    split at hr
    · rename_i ht
      obtain ⟨u, hu⟩ := okT_ok ht
      have e := hF b
      have key : ∀ (m : Nat) (c : Bool), c = isAggT E.P t → m = (if isAggT E.P t then E.P.cellsOf t else 1) → (RO.load m c (.t (Ps.key b))).run E.gl fr h = some v →
          ∃ V, g φ v = some V ∧ (resSem a.tmps (.cell b t)).run E.P w = .ok V w := by
        intro m c hc hm hr
        subst hc; subst hm
        simp only [RO.run] at hr
        split at hr
        · rename_i p hp
          rw [hp] at e
          obtain ⟨A, hA, e⟩ := g_ptr e
          obtain ⟨X, hX, hrun⟩ := load_ok hR hA hu hr
          exact ⟨X, hX, by simp [resSem, e, asAddr, hrun]⟩
        · simp at hr
      cases ha : isAggT E.P t with
      | true => rw [if_pos ha] at hr; exact key _ _ ha.symm (by simp [ha]) hr
      | false => rw [if_neg (by simp [ha])] at hr; exact key _ _ ha.symm (by simp [ha]) hr
    · simp [resOne] at hr

theorem resL_ok {φ : Mp} {fr : T AV} {h : Hp} {a : Act} {w : World} (hF : FR φ fr a) (hR : Rel ng (glF E.gl) φ h w) : ∀ {l : List ResultVar} {vs : List AV}, resL E fr h (l.map (resOf E.P)) = some vs →
    ∃ VS, gL φ vs = some VS ∧ (l.mapM (resSem a.tmps)).run E.P w = .ok VS w
  | [], vs, hr => by
    simp only [List.map_nil, resL, Option.some.injEq] at hr; subst hr
    exact ⟨[], rfl, by simp⟩
  | r :: l, vs, hr => by
    simp only [List.map_cons, resL] at hr
    split at hr
    · rename_i x y hx hy
      simp only [Option.some.injEq] at hr; subst hr
      obtain ⟨V, hV, h1⟩ := resOne_ok hF hR hx
      obtain ⟨VS, hVS, h2⟩ := resL_ok hF hR hy
      refine ⟨V :: VS, by simp [gL, hV, hVS], ?_⟩
      simp only [List.mapM_cons, Sem.run_bind, h1, Result.andThen_ok, h2, Sem.run_pure]
    · simp at hr

theorem finish_ok {φ : Mp} {fr : T AV} {h : Hp} {a : Act} {w : World} (hF : FR φ fr a) (hR : Rel ng (glF E.gl) φ h w) {fn : Func} {F : IF} (hres : F.res = fn.results.toList.map (resOf E.P)) (hg : (finish E F fr h).good) :
    ∃ v V, finish E F fr h = .ret v h ∧ g φ v = some V ∧ (results fn a.tmps).run E.P w = .ok V w := by
  unfold finish at hg ⊢
  cases hr : resL E fr h F.res with
  | none => rw [hr] at hg; exact hg.elim
  | some vs =>
    rw [hres] at hr
    obtain ⟨VS, hVS, hrun⟩ := resL_ok hF hR hr
    have hl := gL_length hVS
    have hres' : (results fn a.tmps).run E.P w = .ok (if h : VS.toArray.size = 1 then VS.toArray[0] else .tuple VS.toArray) w := by
      have e : results fn a.tmps = (do
          let vs ← fn.results.mapM (resSem a.tmps)
          pure (if h : vs.size = 1 then vs[0] else .tuple vs) : Sem Value) := rfl
      rw [e, Array.mapM_eq_mapM_toList]
      simp only [map_eq_pure_bind, Sem.run_bind, hrun, Result.andThen_ok, Sem.run_pure]
    match vs, VS, hVS, hl, hres' with
    | [v], [V], hVS, _, hres' =>
      simp only [gL, Option.map_eq_some_iff, Option.bind_eq_some_iff] at hVS
      obtain ⟨V', hV', _, e1, e2⟩ := hVS
      simp only [List.cons.injEq] at e2
      obtain ⟨rfl, -⟩ := e2
      exact ⟨v, _, rfl, hV', by simpa using hres'⟩
    | [], [], hVS, _, hres' => exact ⟨_, _, rfl, rfl, by simpa using hres'⟩
    | x :: y :: l, X :: Y :: L, hVS, _, hres' =>
      exact ⟨_, _, rfl, by simp only [g]; rw [hVS]; rfl, by simpa using hres'⟩

theorem nat_step {rec : IC → T AV → Hp → XR} (hrec : CodeOk E ng rec) {f : FuncId} {as : List AV} {h : Hp} (hg : (natStep E rec f as h).good) {φ : Mp} {w : World} {A : List Value} (hA : gL φ as = some A) (hR : Rel ng (glF E.gl) φ h w) :
    Calls E.P f A.toArray w (CPost ng E.gl φ h w (natStep E rec f as h)) := by
  unfold natStep at hg ⊢
  unfold cFn at hg ⊢
  cases hf : E.P.funcs[f]? with
  | none => rw [hf] at hg; exact hg.elim
  | some fn =>
    rw [hf] at hg
    simp only at hg ⊢
    cases hb : fn.body with
    | none => rw [hb] at hg; exact hg.elim
    | some c =>
      rw [hb] at hg
      simp only at hg ⊢
      have hres : ∀ F : IF, F = { body := cCode E.P fn.ntmps c, res := fn.results.toList.map fun
          | .tmp t => .tmp (Ps.key t)
          | .cell a t => bif okT E.P t then (bif isAggT E.P t then .cell (Ps.key a) (E.P.cellsOf t) true else .cell (Ps.key a) 1 false) else .bad } → F.body = cCode E.P fn.ntmps c ∧ F.res = fn.results.toList.map (resOf E.P) := by
        rintro F rfl
        refine ⟨rfl, ?_⟩
        refine List.map_congr_left fun r _ => ?_
        cases r <;> rfl
      generalize hF : (IF.mk (cCode E.P fn.ntmps c) _) = F at hg ⊢
      obtain ⟨hbody, hres⟩ := hres F hF.symm
      have hI : Inv [] ng E.gl fn.ntmps φ (ini 0 as .nil) h { tmps := A.toArray ++ Array.replicate (fn.ntmps - A.toArray.size) undef, defers := [] } w :=
        ⟨ini_ok hA _, by simp; omega, hR, rfl⟩
      refine calls_of_wp hf hb ?_
      have hgood : (rec (cCode E.P fn.ntmps c) (ini 0 as .nil) h).good := by
        cases hr : rec (cCode E.P fn.ntmps c) (ini 0 as .nil) h with
        | err m => rw [hr] at hg; exact hg
        | ok x fr h => trivial
      refine hrec [] fn.ntmps c (ini 0 as .nil) h φ _ w _ hgood hI fun e a' w' hp => ?_
      cases hr : rec (cCode E.P fn.ntmps c) (ini 0 as .nil) h with
      | err m => rw [hr] at hp; cases e <;> exact hp.elim
      | ok x fr' h' =>
        rw [hr] at hp hg
        have fin : ∀ φ', Inv [] ng E.gl fn.ntmps φ' fr' h' a' w' → Stp φ h w φ' h' w' → (finish E F fr' h').good → a'.defers = [] ∧ ∃ v, (results fn a'.tmps).run E.P w' = .ok v w' ∧ CPost ng E.gl φ h w (finish E F fr' h') (.returned v) w' := by
          intro φ' hI' hS hg'
          obtain ⟨v, V, e1, e2, e3⟩ := finish_ok hI'.fr hI'.rel hres hg'
          rw [e1]
          exact ⟨hI'.df, V, e3, φ', e2, hI'.rel, hS⟩
        cases x with
        | nor =>
          cases e <;> first | exact hp.elim | skip
          obtain ⟨φ', hI', hS⟩ := hp
          exact fin φ' hI' hS hg
        | ret =>
          cases e <;> first | exact hp.elim | skip
          obtain ⟨φ', hI', hS⟩ := hp
          exact fin φ' hI' hS hg
        | exi j => exact hg.elim
        | pan v =>
          cases e <;> first | exact hp.elim | skip
          obtain ⟨φ', V, rfl, e2, e3, e4⟩ := hp
          exact ⟨e3.df, φ', V, rfl, e2, e3.rel, e4⟩

theorem call_step {rec : IC → T AV → Hp → XR} (hO : OrcOk E ng) (hrec : CodeOk E ng rec) : CalOk E.P ng E.gl (callStep E rec) := by
  intro f as h hg φ w A hA hR
  unfold callStep at hg ⊢
  cases ho : E.orc.get (Ps.key f) with
  | some o =>
    simp only [ho] at hg ⊢
    cases hr : o as h with
    | none => simp only [hr] at hg ⊢; exact nat_step hrec hg hA hR
    | some r => simp only [hr] at hg ⊢; exact hO f o as h r ho hr hg φ w A hA hR
  | none => simp only [ho] at hg ⊢; exact nat_step hrec hg hA hR

theorem exec_ok (hX : ExtOk E.P ng E.gl (fun f => E.ext.get (Ps.key f))) (hD : DraOk E ng) (hO : OrcOk E ng) : ∀ fuel, CodeOk E ng (exec E fuel) ∧ LoopOk E ng fuel (exec E fuel)
  | 0 => ⟨fun _ _ _ _ _ _ _ _ _ hg => hg.elim, fun _ _ _ _ _ _ _ _ _ hg => hg.elim⟩
  | fuel + 1 => by
    obtain ⟨h1, h2⟩ := exec_ok hX hD hO fuel
    exact exec_step hX hD (call_step hO h1) h1 h2

/-- THE EVALUATOR IS RIGHT. -/
theorem call_ok (hX : ExtOk E.P ng E.gl (fun f => E.ext.get (Ps.key f))) (hD : DraOk E ng) (hO : OrcOk E ng) (fuel : Nat) : CalOk E.P ng E.gl (call E fuel) :=
  call_step hO (exec_ok hX hD hO fuel).1
end

/-! ## Closed calls, seen from any heap -/

section
variable {P : Program} {ng : Nat} {gl : T (List AV)} {φ : Mp} {h : Hp} {w w' : World} {f : FuncId}

theorem Rel.below (hR : Rel ng (glF gl) φ h w) (hb : RowKit.Below w.heap.size w w') : Rel ng (glF gl) φ h w' ∧ Stp φ h w φ h w' := by
  refine ⟨⟨fun id o ho => ?_, hR.inj, hR.fresh, Nat.le_trans hR.ngle hb.size, fun n cs hc => ?_⟩, ⟨⟨Sub.refl _, hb.os, hb.tape, hb.output, hb.size, fun b hb' _ => hb.block b hb', fun b hd => .inl hd, fun b c el fz hb' hc => ⟨c, fz, by rw [hb.block b hb']; exact hc, rfl, fun _ _ => rfl⟩, fun id o L h1 h2 _ => ⟨id, o, L, h1, h2, rfl, Nat.le_refl _, Nat.le_refl _⟩⟩, fun _ _ => rfl, Nat.le_refl _⟩⟩
  · obtain ⟨L, h1, h2, h3⟩ := hR.at_ id o ho
    exact ⟨L, h1, h2, h3.frame (hb.block _ h3.lt)⟩
  · obtain ⟨hlt, c, el, fz, xs, h1, h2, h3⟩ := hR.gl_ n cs hc
    exact ⟨hlt, c, el, fz, xs, by rw [hb.block n (Nat.lt_of_lt_of_le hlt hR.ngle), h1], h2, h3⟩

/-- Where nothing is handed on, a contract is enough. -/
theorem post_below {v : AV} {V : Value} {e : Ending} (hR : Rel ng (glF gl) φ h w) (he : e = .returned V) (hb : RowKit.Below w.heap.size w w') (hv : g φ v = some V) : CPost ng gl φ h w (.ret v h) e w' := by
  subst he
  obtain ⟨h1, h2⟩ := hR.below hb
  exact ⟨φ, hv, h1, h2⟩
/-- What the program's own variables hold names nothing. -/
noncomputable def Plain (gl : T (List AV)) : Prop := ∀ n cs, glF gl n = some cs → ∃ xs, gL (fun _ => none) cs = some xs

theorem sub_none (φ : Mp) : Sub (fun _ => none) φ := fun _ _ h => by cases h

theorem Rel.empty (hp : Plain gl) (hR : Rel ng (glF gl) φ h w) : Rel ng (glF gl) (fun _ => none) Hp.empty w := by
  have hno : ∀ id, Hp.empty.get id = none := fun id => by simp [Hp.get, Hp.empty, T.get_nil]
  refine ⟨fun id o ho => ?_, fun i j o u L M hi => ?_, fun _ _ => rfl, hR.ngle, fun n cs hc => ?_⟩
  · rw [hno] at ho; cases ho
  · rw [hno] at hi; cases hi
  · obtain ⟨hlt, c, el, fz, xs, h1, h2, h3⟩ := hR.gl_ n cs hc
    obtain ⟨ys, hys⟩ := hp n cs hc
    have := gL_sub (sub_none φ) hys
    rw [h2] at this; simp only [Option.some.injEq] at this; subst this
    exact ⟨hlt, c, el, fz, xs, h1, hys, h3⟩

/-- A call whose arguments and result hold no address, in the empty heap, is the same in any heap. -/
theorem closed_ok {E : Env} (hp : Plain E.gl) {cal : FuncId → List AV → Hp → CR} (hc : CalOk E.P ng E.gl cal) (hR : Rel ng (glF E.gl) φ h w) {as : List AV} {A0 : List Value} (hA0 : gL (fun _ => none) as = some A0) {v : AV} {V : Value} (hv : g (fun _ => none) v = some V)
    (hrun : ∃ h', cal f as Hp.empty = .ret v h') {A : List Value} (hA : gL φ as = some A) : Calls E.P f A.toArray w (CPost ng E.gl φ h w (.ret v h)) := by
  have : A = A0 := by
    have := gL_sub (sub_none φ) hA0
    rw [hA] at this; simpa using this
  subst this
  obtain ⟨h', hcal⟩ := hrun
  have := hc f as Hp.empty (by rw [hcal]; trivial) (fun _ => none) w A hA0 (hR.empty hp)
  rw [hcal] at this
  refine this.mono fun e w' he => ?_
  cases e with
  | panicked ch => exact he.elim
  | outgrown => exact he.elim
  | returned Y =>
    obtain ⟨φ', hv', _, hS⟩ := he
    have hVY : V = Y := by
      have := g_sub (sub_none φ') hv
      rw [hv'] at this; simpa using this.symm
    subst hVY
    refine post_below hR rfl ⟨hS.os, hS.tape, hS.output, hS.size, fun k hk => hS.block k hk ?_⟩ (g_sub (sub_none φ) hv)
    rintro ⟨id, o, L, h1, _⟩
    have : (Hp.empty).get id = none := by simp [Hp.get, Hp.empty, T.get_nil]
    rw [this] at h1; cases h1

end
end Ax
namespace Ax
open Go
variable [Sy]

theorem bitOf_eq (m i : Nat) : bitOf m i = m.testBit i := by
  unfold bitOf
  rw [Nat.testBit_eq_decide_div_mod_eq]
  cases h : Nat.beq (m / 2 ^ i % 2) 1 with
  | true => have := Nat.eq_of_beq_eq_true h; simp [this]
  | false =>
    have : ¬ (m / 2 ^ i % 2 = 1) := fun e => by rw [e] at h; cases h
    simp [this]

theorem get_sel (fr : T AV) : ∀ (l : List Ps) (p : Ps), (sel fr l).get p = if p ∈ l then fr.get p else none
  | [], p => by simp [sel, T.get_nil]
  | x :: l, p => by
    have e : sel fr (x :: l) = (sel fr l).put (fr.get x) x := rfl
    rw [e, T.get_put, get_sel fr l p]
    by_cases hx : p = x
    · subst hx; simp
    · simp [hx]

noncomputable def actSel (a : Act) (ts : List Nat) : Act := { tmps := Array.ofFn (n := a.tmps.size) fun t => if t.val ∈ ts then a.tmps.getD t undef else undef, defers := a.defers }

theorem actSel_get (a : Act) (ts : List Nat) (t : Nat) : (actSel a ts).tmps.getD t undef = if t ∈ ts then a.tmps.getD t undef else undef := by
  simp only [actSel, Array.getD_eq_getD_getElem?, Array.getElem?_ofFn]
  by_cases h : t < a.tmps.size
  · simp only [h, dite_true, Option.getD_some]
  · simp only [h, dite_false, Option.getD_none]
    rw [Array.getElem?_eq_none (Nat.le_of_not_lt h)]
    simp

theorem FR_sel {φ : Mp} {fr : T AV} {a : Act} {ts : List Nat} (h : ∀ t ∈ ts, g φ ((Od.t (Ps.key t)).rd fr) = some (a.tmps.getD t undef)) : FR φ (sel fr (ts.map Ps.key)) (actSel a ts) := by
  intro t
  rw [actSel_get]
  simp only [Od.rd, get_sel]
  have hm : Ps.key t ∈ ts.map Ps.key ↔ t ∈ ts := by
    simp only [List.mem_map]
    exact ⟨fun ⟨s, hs, e⟩ => by rw [← Ps.key_inj e]; exact hs, fun h => ⟨t, h, rfl⟩⟩
  by_cases ht : t ∈ ts
  · rw [if_pos (hm.2 ht), if_pos ht]; exact h t ht
  · rw [if_neg (fun h => ht (hm.1 h)), if_neg ht]; rfl

theorem exec_sel {a : Act} {ops : Array Oper} {o : Oper} (hs : ∀ cs b, o.op ≠ .select cs b) : execOp (actSel a (operTmps ops o)).eval o = execOp a.eval o := by
  refine execOp_congr o hs fun x hx => ?_
  cases x with
  | tmp t =>
    have ht : t ∈ operTmps ops o := List.mem_append_left _ (List.mem_filterMap.2 ⟨.tmp t, by simpa using hx, rfl⟩)
    simp only [Act.eval]
    rw [actSel_get, if_pos ht]
  | _ => rfl

theorem guard_sel {P : Program} {n : Nat} {φ : Mp} {fr : T AV} {a : Act} {ops : Array Oper} {o : Oper} {io : Iop} (hc : CO P n ops o io) (hF : FR φ (sel fr ((operTmps ops o).map Ps.key)) (actSel a (operTmps ops o)))
    (hna : guardOk (sel fr ((operTmps ops o).map Ps.key)) io.guard = true ∨ guardAny (sel fr ((operTmps ops o).map Ps.key)) io.guard = false) :
    guardOk (sel fr ((operTmps ops o).map Ps.key)) io.guard = Region.wanted o (yielded ops a.tmps) := by
  rw [guard_ok hc hF hna]
  unfold Region.wanted
  cases hg : o.guard with
  | none => rfl
  | some jw =>
    obtain ⟨j, want⟩ := jw
    have : yielded ops (actSel a (operTmps ops o)).tmps j = yielded ops a.tmps j := by
      unfold yielded
      cases hd : (ops[j]?).bind (·.dst) with
      | none => rfl
      | some t =>
        simp only [Option.bind_some]
        have ht : t ∈ operTmps ops o := List.mem_append_right _ (by simp [hg, hd])
        simp only [actSel, Array.getElem?_ofFn]
        by_cases h : t < a.tmps.size
        · simp [h, ht]
        · rw [Array.getElem?_eq_none (Nat.le_of_not_lt h)]; simp [h]
    simp only [this]

/-- How a place of a region was compiled. -/
structure DOk (P : Program) (n : Nat) (ops : Array Oper) (bef : List Nat) (d : DO) (o : Oper) : Prop where
  op : ops[d.i]? = some o
  io : d.io = cOper P n ops o
  pre : d.pre = bef.getD d.i 0
  sl : d.sl = (operTmps ops o).map Ps.key

theorem mkGo_ok {P : Program} {n : Nat} {ops : Array Oper} {bef : List Nat} : ∀ (is : List Nat) (ed : Nat) (d : DO), d ∈ mkGo P n ops bef is ed → ∃ o, DOk P n ops bef d o
  | [], ed, d, h => by simp [mkGo] at h
  | i :: is, ed, d, h => by
    unfold mkGo at h
    split at h
    · rename_i o ho
      simp only [List.mem_cons] at h
      rcases h with h | h
      · subst h; exact ⟨o, ho, rfl, rfl, rfl⟩
      · exact mkGo_ok is _ d h
    · exact mkGo_ok is _ d h

/-! ## The order -/

theorem bits_fold : ∀ (l : List DO) (s j : Nat), (l.foldl (fun s d => s ||| 2 ^ d.i) s).testBit j = (s.testBit j || l.any fun d => d.i == j)
  | [], s, j => by simp
  | d :: l, s, j => by
    simp only [List.foldl_cons, bits_fold l, Nat.testBit_or, List.any_cons, Nat.testBit_two_pow]
    cases s.testBit j <;> cases (l.any fun d => d.i == j) <;> simp <;> rfl

theorem effs_fold : ∀ (l : List DO) (s j : Nat), (l.foldl (fun s d => bif isEffOp d.io.op then s ||| 2 ^ d.i else s) s).testBit j = (s.testBit j || l.any fun d => isEffOp d.io.op && (d.i == j))
  | [], s, j => by simp
  | d :: l, s, j => by
    simp only [List.foldl_cons, effs_fold l, List.any_cons]
    cases isEffOp d.io.op
    · simp
    · simp only [cond_true, Nat.testBit_or, Nat.testBit_two_pow]
      cases s.testBit j <;> cases (l.any fun d => isEffOp d.io.op && (d.i == j)) <;> simp <;> rfl

theorem drChk_skip {n : Nat} : ∀ (l1 l2 : List DO) (done ed : Nat), drChk n (l1 ++ l2) done ed = true → drChk n l2 (l1.foldl (fun s (d : DO) => s ||| 2 ^ d.i) done) (l1.foldl (fun s (d : DO) => bif isEffOp d.io.op then s ||| 2 ^ d.i else s) ed) = true
  | [], l2, done, ed, h => h
  | d :: l1, l2, done, ed, h => by
    simp only [List.cons_append, drChk, Bool.and_eq_true] at h
    exact drChk_skip l1 l2 _ _ h.2

structure Placed (n : Nat) (l1 : List DO) (d : DO) : Prop where
  lt : d.i < n
  new : ∀ d' ∈ l1, d'.i ≠ d.i
  waits : ∀ j, bitOf d.pre j = true → ∃ d' ∈ l1, d'.i = j
  eff : isEffOp d.io.op = true → ∀ d' ∈ l1, bitOf d.pre d'.i = true
  alone : d.alone = true → ∀ d' ∈ l1, isEffOp d'.io.op = true → bitOf d.pre d'.i = true

theorem drChk_at {n : Nat} {l1 l2 : List DO} {d : DO} (h : drChk n (l1 ++ d :: l2) 0 0 = true) : Placed n l1 d := by
  have h := drChk_skip l1 (d :: l2) 0 0 h
  have bd : ∀ j, (l1.foldl (fun s (d : DO) => s ||| 2 ^ d.i) 0).testBit j = (l1.any fun d => d.i == j) := fun j => by rw [bits_fold]; simp
  have be : ∀ j, (l1.foldl (fun s (d : DO) => bif isEffOp d.io.op then s ||| 2 ^ d.i else s) 0).testBit j = (l1.any fun d => isEffOp d.io.op && (d.i == j)) := fun j => by rw [effs_fold]; simp
  generalize l1.foldl (fun s (d : DO) => bif isEffOp d.io.op then s ||| 2 ^ d.i else s) 0 = ED at h be
  generalize l1.foldl (fun s (d : DO) => s ||| 2 ^ d.i) 0 = DN at h bd
  simp only [drChk, Bool.and_eq_true, Nat.beq_eq, blt_iff, Bool.not_eq_true', Bool.cond_eq_ite] at h
  obtain ⟨⟨⟨⟨⟨h1, h2⟩, h3⟩, h4⟩, h5⟩, _⟩ := h
  refine ⟨h1, fun d' hd' e => ?_, fun j hj => ?_, fun he d' hd' => ?_, fun ha d' hd' he => ?_⟩
  · rw [bitOf_eq, bd] at h2
    have : (l1.any fun x => x.i == d.i) = true := List.any_eq_true.2 ⟨d', hd', by simp [e]⟩
    rw [this] at h2; cases h2
  · rw [bitOf_eq] at hj
    have : (d.pre &&& DN).testBit j = d.pre.testBit j := by rw [h3]
    rw [Nat.testBit_and, hj, bd, Bool.true_and] at this
    obtain ⟨d', hd', e⟩ := List.any_eq_true.1 this
    exact ⟨d', hd', by simpa using e⟩
  · rw [if_pos he, Nat.beq_eq] at h4
    rw [bitOf_eq, h4, bd]
    exact List.any_eq_true.2 ⟨d', hd', by simp⟩
  · rw [if_pos ha, Nat.beq_eq] at h5
    have h6 : ED.testBit d'.i = true := by
      rw [be]; exact List.any_eq_true.2 ⟨d', hd', by simp [he]⟩
    rw [← h5, Nat.testBit_and, Bool.and_eq_true] at h6
    rw [bitOf_eq]; exact h6.2

theorem drChk_all {n : Nat} {l : List DO} (h : drChk n l 0 0 = true) : ∀ i, i < n → ∃ d ∈ l, d.i = i := by
  have h := drChk_skip l [] 0 0 (by simpa using h)
  simp only [drChk, Nat.beq_eq] at h
  intro i hi
  have h2 : (l.foldl (fun s (d : DO) => s ||| 2 ^ d.i) 0).testBit i = true := by
    have : l.foldl (fun s (d : DO) => s ||| 2 ^ d.i) 0 = 2 ^ n - 1 := by omega
    rw [this, Nat.testBit_two_pow_sub_one]; simp [hi]
  rw [bits_fold] at h2
  simp only [Nat.zero_testBit, Bool.false_or] at h2
  obtain ⟨d, hd, e⟩ := List.any_eq_true.1 h2
  exact ⟨d, hd, by simpa using e⟩

/-! ## The run -/

noncomputable def nextH (h : Hp) : Ev → Hp
  | .al _ _ id o => h.set id o
  | .ef _ _ _ ha => ha
  | _ => h
noncomputable def nextA (A : Hp) : Ev → Hp
  | .ef _ _ _ ha => ha
  | _ => A
noncomputable def nextS (seg : List Ev) : Ev → List Ev
  | .ef _ _ _ _ => []
  | ev => ev :: seg
noncomputable def nextF (fr : T AV) (ev : Ev) : T AV := putO fr ev.d.io.dst ev.v

section
variable (E : Env) (cal : FuncId → List AV → Hp → CR) (base : Nat)

noncomputable def GoodEv (fr : T AV) (h A : Hp) (seg : List Ev) : Ev → Prop
  | .val d v => (guardOk (sel fr d.sl) d.io.guard = false ∧ v = .tup [] ∧ guardAny (sel fr d.sl) d.io.guard = false) ∨
      (guardOk (sel fr d.sl) d.io.guard = true ∧ ((∃ q, d.io.op = .p q ∧ q.run (sel fr d.sl) = some v) ∨ (∃ q, d.io.op = .a q ∧ q.run (sel fr d.sl) (base + d.i) = some (none, v)) ∨ ∃ q, d.io.op = .e q ∧ pureOf cal q (sel fr d.sl) = some v))
  | .al d v id o => guardOk (sel fr d.sl) d.io.guard = true ∧ id = base + d.i ∧ ∃ q, d.io.op = .a q ∧ q.run (sel fr d.sl) id = some (some o, v)
  | .rd d v q s => guardOk (sel fr d.sl) d.io.guard = true ∧ s = sel fr d.sl ∧ d.io.op = .r q ∧ q.run E.gl s (hpFor d.pre A seg) = some v
  | .ef d v hb ha => guardOk (sel fr d.sl) d.io.guard = true ∧ hb = h ∧ ∃ q, d.io.op = .e q ∧ (q.run E.gl (isFn E.P) (fun f => E.ext.get (Ps.key f)) (sel fr d.sl) h = .val v ha ∨
      ∃ f as h1, q.run E.gl (isFn E.P) (fun f => E.ext.get (Ps.key f)) (sel fr d.sl) h = .ent f as h1 ∧ cal f as h1 = .ret v ha)

inductive Trace : T AV → Hp → Hp → List Ev → List Ev → T AV → Hp → Prop
  | nil (fr : T AV) (h A : Hp) (seg : List Ev) : Trace fr h A seg [] fr h
  | cons (fr : T AV) (h A : Hp) (seg : List Ev) (ev : Ev) (L : List Ev) (fr' : T AV) (h' : Hp) : GoodEv E cal base fr h A seg ev → Trace (nextF fr ev) (nextH h ev) (nextA A ev) (nextS seg ev) L fr' h' → Trace fr h A seg (ev :: L) fr' h'
end

section
variable {E : Env} {cal : FuncId → List AV → Hp → CR} {base : Nat}

theorem runDOs_cons (d : DO) (l : List DO) (fr : T AV) (h A : Hp) (seg log : List Ev) (k : T AV → Hp → List Ev → RR) : runDOs E cal base (d :: l) fr h A seg log k =
    (match sel fr d.sl with
      | s => bif guardOk s d.io.guard then
          match d.io.op with
          | .p q => match q.run s with
            | some v => runDOs E cal base l (putO fr d.io.dst v) h A (.val d v :: seg) (.val d v :: log) k
            | none => .err 201
          | .a q => match q.run s (base + d.i) with
            | some (some ob, v) => runDOs E cal base l (putO fr d.io.dst v) (h.set (base + d.i) ob) A (.al d v (base + d.i) ob :: seg) (.al d v (base + d.i) ob :: log) k
            | some (none, v) => runDOs E cal base l (putO fr d.io.dst v) h A (.val d v :: seg) (.val d v :: log) k
            | none => .err 202
          | .r q => match q.run E.gl s (hpFor d.pre A seg) with
            | some v => runDOs E cal base l (putO fr d.io.dst v) h A (.rd d v q s :: seg) (.rd d v q s :: log) k
            | none => .err 203
          | .e q => match pureOf cal q s with
            | some v => runDOs E cal base l (putO fr d.io.dst v) h A (.val d v :: seg) (.val d v :: log) k
            | none => match q.run E.gl (isFn E.P) (fun f => E.ext.get (Ps.key f)) s h with
                | .val v h' => runDOs E cal base l (putO fr d.io.dst v) h' h' [] (.ef d v h h' :: log) k
                | .ent f as h1 => match cal f as h1 with
                  | .ret v h' => runDOs E cal base l (putO fr d.io.dst v) h' h' [] (.ef d v h h' :: log) k
                  | .pan _ _ => .err 204
                  | .err n => .err n
                | .pan _ _ => .err 205
                | .bad n => .err n
          | .bad n => .err n
        else bif guardAny s d.io.guard then .err 207 else runDOs E cal base l (putO fr d.io.dst (.tup [])) h A (.val d (.tup []) :: seg) (.val d (.tup []) :: log) k) := rfl

theorem run_trace : ∀ (l : List DO) (fr : T AV) (h A : Hp) (seg log : List Ev) (k : T AV → Hp → List Ev → RR) (r : RR), runDOs E cal base l fr h A seg log k = r → r.good →
    ∃ L fr' h', L.map Ev.d = l ∧ Trace E cal base fr h A seg L fr' h' ∧ k fr' h' (L.reverse ++ log) = r
  | [], fr, h, A, seg, log, k, r, hr, hg => ⟨[], fr, h, rfl, .nil .., hr⟩
  | d :: l, fr, h, A, seg, log, k, r, hr, hg => by
    have fin : ∀ (ev : Ev), ev.d = d → GoodEv E cal base fr h A seg ev → runDOs E cal base l (nextF fr ev) (nextH h ev) (nextA A ev) (nextS seg ev) (ev :: log) k = r →
        ∃ L fr' h', L.map Ev.d = d :: l ∧ Trace E cal base fr h A seg L fr' h' ∧ k fr' h' (L.reverse ++ log) = r := by
      intro ev he hev hrun
      obtain ⟨L, fr', h', h1, h2, h3⟩ := run_trace l _ _ _ _ _ k r hrun hg
      exact ⟨ev :: L, fr', h', by simp [h1, he], .cons _ _ _ _ _ _ _ _ hev h2, by simpa using h3⟩
    rw [runDOs_cons] at hr
    simp only at hr
    cases hgd : guardOk (sel fr d.sl) d.io.guard with
    | false =>
      rw [hgd] at hr
      cases hga : guardAny (sel fr d.sl) d.io.guard with
      | true => rw [hga] at hr; simp only [cond_true, cond_false] at hr; subst hr; exact hg.elim
      | false =>
        rw [hga] at hr
        exact fin (.val d (.tup [])) rfl (.inl ⟨hgd, rfl, hga⟩) hr
    | true =>
      rw [hgd] at hr
      simp only [cond_true] at hr
      split at hr
      · rename_i q hq
        split at hr
        · rename_i v hv
          exact fin (.val d v) rfl (.inr ⟨hgd, .inl ⟨q, hq, hv⟩⟩) hr
        · subst hr; exact hg.elim
      · rename_i q hq
        split at hr
        · rename_i ob v hv
          exact fin (.al d v (base + d.i) ob) rfl ⟨hgd, rfl, q, hq, hv⟩ hr
        · rename_i v hv
          exact fin (.val d v) rfl (.inr ⟨hgd, .inr (.inl ⟨q, hq, hv⟩)⟩) hr
        · subst hr; exact hg.elim
      · rename_i q hq
        split at hr
        · rename_i v hv
          exact fin (.rd d v q (sel fr d.sl)) rfl ⟨hgd, rfl, hq, hv⟩ hr
        · subst hr; exact hg.elim
      · rename_i q hq
        split at hr
        · rename_i v hv
          exact fin (.val d v) rfl (.inr ⟨hgd, .inr (.inr ⟨q, hq, hv⟩)⟩) hr
        split at hr
        · rename_i v h' hv
          exact fin (.ef d v h h') rfl ⟨hgd, rfl, q, hq, .inl hv⟩ hr
        · rename_i f as h1 hv
          split at hr
          · rename_i v h' hc
            exact fin (.ef d v h h') rfl ⟨hgd, rfl, q, hq, .inr ⟨f, as, h1, hv, hc⟩⟩ hr
          · subst hr; exact hg.elim
          · subst hr; exact hg.elim
        · subst hr; exact hg.elim
        · subst hr; exact hg.elim
      · subst hr; exact hg.elim

noncomputable def alOf (ev : Ev) (id : Nat) (o : AO) : Prop := ∃ d v, ev = .al d v id o

/-- The state at a place of the run. -/
theorem trace_at : ∀ (M : List Ev) (ev : Ev) (M2 : List Ev) (fr : T AV) (h A : Hp) (seg : List Ev) (fr' : T AV) (h' : Hp), Trace E cal base fr h A seg (M ++ ev :: M2) fr' h' →
    ∃ hM AM segM, GoodEv E cal base (M.foldl nextF fr) hM AM segM ev ∧ Trace E cal base (nextF (M.foldl nextF fr) ev) (nextH hM ev) (nextA AM ev) (nextS segM ev) M2 fr' h' ∧
      ((∀ x ∈ M, x.isEf = false) → AM = A ∧ segM = M.reverse ++ seg ∧ hM.nxt = h.nxt ∧ ∀ id o, hM.get id = some o → h.get id = some o ∨ ∃ x ∈ M, alOf x id o)
  | [], ev, M2, fr, h, A, seg, fr', h', ht => by
    cases ht with
    | cons _ _ _ _ _ _ _ _ h1 h2 => exact ⟨h, A, seg, h1, h2, fun _ => ⟨rfl, rfl, rfl, fun id o ho => .inl ho⟩⟩
  | x :: M, ev, M2, fr, h, A, seg, fr', h', ht => by
    cases ht with
    | cons _ _ _ _ _ _ _ _ h1 h2 =>
      obtain ⟨hM, AM, segM, k1, k2, k3⟩ := trace_at M ev M2 _ _ _ _ fr' h' h2
      refine ⟨hM, AM, segM, k1, k2, fun hno => ?_⟩
      obtain ⟨e1, e2, e3, e4⟩ := k3 fun y hy => hno y (List.mem_cons_of_mem _ hy)
      have hx := hno x (List.mem_cons_self ..)
      cases x with
      | ef d v hb ha => simp [Ev.isEf] at hx
      | al d v id o =>
        refine ⟨e1, by rw [e2]; simp [nextS], by rw [e3]; rfl, fun id' o' ho => ?_⟩
        rcases e4 id' o' ho with h5 | ⟨y, hy, h5⟩
        · simp only [nextH] at h5
          rw [Hp.get_set] at h5
          by_cases hid : id' = id
          · subst hid
            simp only [if_true, Option.some.injEq] at h5; subst h5
            exact .inr ⟨_, List.mem_cons_self .., d, v, rfl⟩
          · rw [if_neg hid] at h5; exact .inl h5
        · exact .inr ⟨y, List.mem_cons_of_mem _ hy, h5⟩
      | val d v =>
        refine ⟨e1, by rw [e2]; simp [nextS], e3, fun id' o' ho => ?_⟩
        rcases e4 id' o' ho with h5 | ⟨y, hy, h5⟩
        · exact .inl h5
        · exact .inr ⟨y, List.mem_cons_of_mem _ hy, h5⟩
      | rd d v q s =>
        refine ⟨e1, by rw [e2]; simp [nextS], e3, fun id' o' ho => ?_⟩
        rcases e4 id' o' ho with h5 | ⟨y, hy, h5⟩
        · exact .inl h5
        · exact .inr ⟨y, List.mem_cons_of_mem _ hy, h5⟩

/-- The state behind it all. -/
theorem trace_end : ∀ (M : List Ev) (fr : T AV) (h A : Hp) (seg : List Ev) (fr' : T AV) (h' : Hp), Trace E cal base fr h A seg M fr' h' → fr' = M.foldl nextF fr ∧
      ((∀ x ∈ M, x.isEf = false) → h'.nxt = h.nxt ∧ ∀ id o, h'.get id = some o → h.get id = some o ∨ ∃ x ∈ M, alOf x id o)
  | [], fr, h, A, seg, fr', h', ht => by
    cases ht with
    | nil => exact ⟨rfl, fun _ => ⟨rfl, fun id o ho => .inl ho⟩⟩
  | x :: M, fr, h, A, seg, fr', h', ht => by
    cases ht with
    | cons _ _ _ _ _ _ _ _ h1 h2 =>
      obtain ⟨k1, k3⟩ := trace_end M _ _ _ _ fr' h' h2
      refine ⟨k1, fun hno => ?_⟩
      obtain ⟨e3, e4⟩ := k3 fun y hy => hno y (List.mem_cons_of_mem _ hy)
      have hx := hno x (List.mem_cons_self ..)
      cases x with
      | ef d v hb ha => simp [Ev.isEf] at hx
      | al d v id o =>
        refine ⟨by rw [e3]; rfl, fun id' o' ho => ?_⟩
        rcases e4 id' o' ho with h5 | ⟨y, hy, h5⟩
        · simp only [nextH] at h5
          rw [Hp.get_set] at h5
          by_cases hid : id' = id
          · subst hid
            simp only [if_true, Option.some.injEq] at h5; subst h5
            exact .inr ⟨_, List.mem_cons_self .., d, v, rfl⟩
          · rw [if_neg hid] at h5; exact .inl h5
        · exact .inr ⟨y, List.mem_cons_of_mem _ hy, h5⟩
      | val d v =>
        refine ⟨e3, fun id' o' ho => ?_⟩
        rcases e4 id' o' ho with h5 | ⟨y, hy, h5⟩
        · exact .inl h5
        · exact .inr ⟨y, List.mem_cons_of_mem _ hy, h5⟩
      | rd d v q s =>
        refine ⟨e3, fun id' o' ho => ?_⟩
        rcases e4 id' o' ho with h5 | ⟨y, hy, h5⟩
        · exact .inl h5
        · exact .inr ⟨y, List.mem_cons_of_mem _ hy, h5⟩

theorem hpFor_get {pre : Nat} {A : Hp} : ∀ {l : List Ev} {id : Nat} {o : AO}, (hpFor pre A l).get id = some o → A.get id = some o ∨ ∃ ev ∈ l, alOf ev id o ∧ bitOf pre ev.d.i = true
  | [], id, o, h => .inl h
  | .al d v id0 o0 :: l, id, o, h => by
    simp only [hpFor, Bool.cond_eq_ite] at h
    split at h
    · rename_i hb
      rw [Hp.get_set] at h
      by_cases hid : id = id0
      · subst hid
        simp only [if_true, Option.some.injEq] at h; subst h
        exact .inr ⟨_, List.mem_cons_self .., ⟨d, v, rfl⟩, hb⟩
      · rw [if_neg hid] at h
        rcases hpFor_get h with h | ⟨ev, h1, h2⟩
        · exact .inl h
        · exact .inr ⟨ev, List.mem_cons_of_mem _ h1, h2⟩
    · rcases hpFor_get h with h | ⟨ev, h1, h2⟩
      · exact .inl h
      · exact .inr ⟨ev, List.mem_cons_of_mem _ h1, h2⟩
  | .val d v :: l, id, o, h => by
    rcases hpFor_get (l := l) h with h | ⟨ev, h1, h2⟩
    · exact .inl h
    · exact .inr ⟨ev, List.mem_cons_of_mem _ h1, h2⟩
  | .rd d v q s :: l, id, o, h => by
    rcases hpFor_get (l := l) h with h | ⟨ev, h1, h2⟩
    · exact .inl h
    · exact .inr ⟨ev, List.mem_cons_of_mem _ h1, h2⟩
  | .ef d v hb ha :: l, id, o, h => by
    rcases hpFor_get (l := l) h with h | ⟨ev, h1, h2⟩
    · exact .inl h
    · exact .inr ⟨ev, List.mem_cons_of_mem _ h1, h2⟩

theorem hpFor_nxt {pre : Nat} {A : Hp} : ∀ (l : List Ev), (hpFor pre A l).nxt = A.nxt
  | [] => rfl
  | .al d v id0 o0 :: l => by
    simp only [hpFor, Bool.cond_eq_ite]
    split
    · exact hpFor_nxt l
    · exact hpFor_nxt l
  | .val d v :: l => hpFor_nxt l
  | .rd d v q s :: l => hpFor_nxt l
  | .ef d v hb ha :: l => hpFor_nxt l

theorem afters_mem : ∀ (K : List Ev) (d : DO) (v : AV) (hb ha : Hp) (M : List Ev), (ha, M) ∈ afters (K ++ .ef d v hb ha :: M)
  | [], d, v, hb, ha, M => by simp [afters]
  | x :: K, d, v, hb, ha, M => by
    have := afters_mem K d v hb ha M
    cases x <;> simp only [List.cons_append, afters] <;> first | exact this | exact List.mem_cons_of_mem _ this
end
end Ax
namespace Ax
open Go
variable [Sy]

mutual
theorem avEq_ok : ∀ (u v : AV), avEq u v = true → u = v
  | .bool a, v, h => by cases v <;> simp [avEq] at h ⊢; exact h
  | .int k a, v, h => by
    cases v <;> simp [avEq, kEq_eq, iEq_eq] at h ⊢; exact h
  | .flt k a, v, h => by
    cases v <;> cases k <;> simp [avEq] at h ⊢
    rename_i k b
    cases k <;> simp [avEq] at h ⊢; exact h
  | .str a, v, h => by cases v <;> simp [avEq] at h ⊢; exact BS.same_ok h
  | .ptr a, v, h => by
    cases v with
    | ptr b =>
      cases a with
      | none => cases b <;> simp [avEq] at h ⊢
      | some p =>
        cases b with
        | none => obtain ⟨d, o⟩ := p; cases d <;> simp [avEq] at h
        | some q =>
          obtain ⟨d, o⟩ := p; obtain ⟨d', o'⟩ := q
          cases d <;> cases d' <;> simp [avEq] at h ⊢ <;> exact h
    | _ => cases a with
      | none => simp [avEq] at h
      | some p => obtain ⟨d, o⟩ := p; cases d <;> simp [avEq] at h
  | .slc a l c, v, h => by
    cases v with
    | slc b l' c' =>
      cases a with
      | none => cases b <;> cases c <;> cases c' <;> simp [avEq] at h ⊢ <;> exact h
      | some p =>
        cases b with
        | none => obtain ⟨d, o⟩ := p; cases d <;> cases c <;> simp [avEq] at h
        | some q =>
          obtain ⟨d, o⟩ := p; obtain ⟨d', o'⟩ := q
          cases d <;> cases d' <;> cases c <;> cases c' <;> simp [avEq] at h ⊢ <;> exact ⟨⟨h.1.1.1, h.1.1.2⟩, h.1.2, h.2⟩
    | _ => cases a with
      | none => cases c <;> simp [avEq] at h
      | some p => obtain ⟨d, o⟩ := p; cases d <;> cases c <;> simp [avEq] at h
  | .map a, v, h => by
    cases v with
    | map b => cases a <;> cases b <;> simp [avEq] at h ⊢; exact h
    | _ => cases a <;> simp [avEq] at h
  | .fn f a b, v, h => by
    cases v with
    | fn f' c d =>
      cases f <;> cases f' <;> simp [avEq] at h ⊢
      exact ⟨h.1.1, avEqL_ok _ _ h.1.2, avEqL_ok _ _ h.2⟩
    | _ => cases f <;> simp [avEq] at h
  | .nilFn, v, h => by cases v <;> simp [avEq] at h ⊢
  | .ifc t u, v, h => by
    cases v <;> simp [avEq] at h ⊢
    exact ⟨h.1, avEq_ok _ _ h.2⟩
  | .nilIfc, v, h => by cases v <;> simp [avEq] at h ⊢
  | .agg a, v, h => by
    cases v <;> simp [avEq] at h ⊢
    exact avEqL_ok _ _ h
  | .tup a, v, h => by
    cases v <;> simp [avEq] at h ⊢
    exact avEqL_ok _ _ h
  | .tstr i, v, h => by cases v <;> simp [avEq] at h ⊢; exact h
  | .any i, v, h => by cases v <;> simp [avEq] at h ⊢; exact h
theorem avEqL_ok : ∀ (u v : List AV), avEqL u v = true → u = v
  | [], [], _ => rfl
  | a :: l, b :: m, h => by
    simp only [avEqL, Bool.and_eq_true] at h
    rw [avEq_ok a b h.1, avEqL_ok l m h.2]
  | [], b :: m, h => by simp [avEqL] at h
  | a :: l, [], h => by simp [avEqL] at h
end

/-- What is known beside the memory of an effect is known behind it. -/
theorem frame_ok {ng : Nat} {gl : Nat → Option (List AV)} {φ φ' : Mp} {H h h' H' : Hp} {w w' : World} (hH : Rel ng gl φ H w) (hsub : ∀ id o, h.get id = some o → H.get id = some o) (hR' : Rel ng gl φ' h' w') (hS : Stp φ h w φ' h' w')
    (X : Nat → Option AO) (hX : ∀ id o, X id = some o → H.get id = some o ∧ h.get id = none) (hH' : ∀ id, H'.get id = match X id with | some o => some o | none => h'.get id) (hn : H'.nxt = h'.nxt) (hnn : H.nxt = h.nxt) :
    Rel ng gl φ' H' w' ∧ Stp φ H w φ' H' w' ∧ ∀ id o, X id = some o → h'.get id = none := by
  have apart : ∀ id o L, X id = some o → φ id = some L → ¬ Dom φ h L.blk ∧ L.blk < w.heap.size := by
    intro id o L hx hL
    obtain ⟨h1, h2⟩ := hX id o hx
    obtain ⟨M, hM, _, hat⟩ := hH.at_ id o h1
    rw [hL] at hM; simp only [Option.some.injEq] at hM; subst hM
    refine ⟨fun ⟨j, u, N, hj, hN, hb⟩ => ?_, hat.lt⟩
    have := hH.inj j id u o N L (hsub j u hj) h1 hN hL hb
    subst this
    rw [h2] at hj; cases hj
  have apart' : ∀ id o L, X id = some o → φ' id = some L → φ id = some L ∧ ¬ Dom φ' h' L.blk := by
    intro id o L hx hL
    obtain ⟨h1, h2⟩ := hX id o hx
    obtain ⟨M, hM, _, hat⟩ := hH.at_ id o h1
    have := hS.sub _ _ hM
    rw [hL] at this; simp only [Option.some.injEq] at this; subst this
    refine ⟨hM, fun hd => ?_⟩
    obtain ⟨h3, h4⟩ := apart id o L hx hM
    rcases hS.dom _ hd with h5 | h5
    · exact h3 h5
    · omega
  refine ⟨⟨?_, ?_, ?_, hR'.ngle, hR'.gl_⟩, ⟨⟨hS.sub, hS.os, hS.tape, hS.output, hS.size, fun b hb hd => ?_, fun b hd => ?_, fun b c el fz hb hc => ?_, fun id o L h1 h2 h3 => ?_⟩, fun id hid => ?_, ?_⟩, fun id o hx => ?_⟩
  · intro id o ho
    rw [hH'] at ho
    cases hx : X id with
    | none => rw [hx] at ho; exact hR'.at_ id o ho
    | some u =>
      rw [hx] at ho
      simp only [Option.some.injEq] at ho; subst ho
      obtain ⟨h1, h2⟩ := hX id u hx
      obtain ⟨M, hM, hng, hat⟩ := hH.at_ id u h1
      obtain ⟨h3, h4⟩ := apart id u M hx hM
      exact ⟨M, hS.sub _ _ hM, hng, (hat.sub hS.sub).frame (hS.block _ h4 h3)⟩
  · intro i j o u M N hi hj hM hN hb
    rw [hH'] at hi hj
    cases hxi : X i with
    | none =>
      rw [hxi] at hi
      cases hxj : X j with
      | none => rw [hxj] at hj; exact hR'.inj i j o u M N hi hj hM hN hb
      | some y => exact ((apart' j y N hxj hN).2 ⟨i, o, M, hi, hM, hb⟩).elim
    | some x =>
      cases hxj : X j with
      | none => rw [hxj] at hj; exact ((apart' i x M hxi hM).2 ⟨j, u, N, hj, hN, hb.symm⟩).elim
      | some y =>
        exact hH.inj i j x y M N (hX i x hxi).1 (hX j y hxj).1 (apart' i x M hxi hM).1 (apart' j y N hxj hN).1 hb
  · intro id hid; exact hR'.fresh id (by omega)
  · exact hS.block b hb fun ⟨j, u, N, hj, hN, he⟩ => hd ⟨j, u, N, hsub j u hj, hN, he⟩
  · obtain ⟨j, u, N, hj, hN, rfl⟩ := hd
    rw [hH'] at hj
    cases hxj : X j with
    | none =>
      rw [hxj] at hj
      rcases hS.dom _ ⟨j, u, N, hj, hN, rfl⟩ with ⟨i, o, M, hi, hM, he⟩ | h5
      · exact .inl ⟨i, o, M, hsub i o hi, hM, he⟩
      · exact .inr h5
    | some y => exact .inl ⟨j, y, N, (hX j y hxj).1, (apart' j y N hxj hN).1, rfl⟩
  · obtain ⟨c', fz', k1, k2, k3⟩ := hS.cells b c el fz hb hc
    refine ⟨c', fz', k1, k2, fun o ho => k3 o fun ⟨id, ob, L, g1, g2, g3⟩ => ho ⟨id, ob, L, hsub id ob g1, g2, g3⟩⟩
  · rw [hH'] at h1
    cases hx : X id with
    | none =>
      rw [hx] at h1
      obtain ⟨id', o', L', k1, k2, k3⟩ := hS.view id o L h1 h2 h3
      exact ⟨id', o', L', hsub id' o' k1, k2, k3⟩
    | some u => exact ⟨id, u, L, (hX id u hx).1, (apart' id u L hx h2).1, rfl, Nat.le_refl _, Nat.le_refl _⟩
  · exact hS.old id (by omega)
  · have := hS.nx; omega
  · cases hg : h'.get id with
    | none => rfl
    | some u =>
      obtain ⟨M, hM, _⟩ := hR'.at_ id u hg
      exact ((apart' id o M hx hM).2 ⟨id, u, M, hg, hM, rfl⟩).elim

/-! ## Slots -/

noncomputable def dstOf (ops : Array Oper) (ev : Ev) : Option Nat := (ops[ev.d.i]?).bind (·.dst)

/-- What stays the same throughout a region. -/
structure DCtx (E : Env) (n : Nat) (ops : Array Oper) (bef : List Nat) (L : List Ev) : Prop where
  mem : ∀ ev ∈ L, ∃ o, DOk E.P n ops bef ev.d o ∧ CO E.P n ops o ev.d.io
  chk : drChk ops.size (L.map Ev.d) 0 0 = true
  opk : ∀ i o, ops[i]? = some o → drOp ops bef i o = true

section
variable {E : Env} {n : Nat} {ops : Array Oper} {bef : List Nat} {L : List Ev}

theorem DCtx.placed (c : DCtx E n ops bef L) {K1 K2 : List Ev} {ev : Ev} (h : L = K1 ++ ev :: K2) : Placed ops.size (K1.map Ev.d) ev.d := by
  have := c.chk
  rw [h, List.map_append, List.map_cons] at this
  exact drChk_at this

theorem DCtx.nodup (c : DCtx E n ops bef L) : L.Pairwise fun x y => x.d.i ≠ y.d.i := by
  have key : ∀ (K M : List Ev), L = K ++ M → M.Pairwise fun x y => x.d.i ≠ y.d.i := by
    intro K M
    induction M generalizing K with
    | nil => intro _; exact .nil
    | cons x M ih =>
      intro h
      refine .cons (fun y hy => ?_) (ih (K ++ [x]) (by simp [h]))
      obtain ⟨M1, M2, rfl⟩ := List.append_of_mem hy
      have := (c.placed (K1 := K ++ x :: M1) (ev := y) (K2 := M2) (by simp [h])).new x.d (by simp)
      exact this
  exact key [] L rfl

theorem DCtx.same (c : DCtx E n ops bef L) {x y : Ev} (hx : x ∈ L) (hy : y ∈ L) (h : x.d.i = y.d.i) : x = y := by
  obtain ⟨M1, M2, rfl⟩ := List.append_of_mem hx
  have hp := c.nodup
  rw [List.pairwise_append] at hp
  obtain ⟨_, hp2, hp3⟩ := hp
  rcases List.mem_append.1 hy with h1 | h1
  · exact (hp3 y h1 x (List.mem_cons_self ..) h.symm).elim
  · rcases List.mem_cons.1 h1 with h1 | h1
    · exact h1.symm
    · exact ((List.pairwise_cons.1 hp2).1 y h1 h).elim

theorem DCtx.dst_uniq (c : DCtx E n ops bef L) {x y : Ev} (hx : x ∈ L) (hy : y ∈ L) {t : Nat} (h1 : dstOf ops x = some t) (h2 : dstOf ops y = some t) : x.d.i = y.d.i := by
  obtain ⟨o, ho, _⟩ := c.mem x hx
  obtain ⟨u, hu, _⟩ := c.mem y hy
  have h := c.opk _ _ ho.op
  simp only [dstOf, ho.op, hu.op, Option.bind_some] at h1 h2
  simp only [drOp, h1, Bool.and_eq_true] at h
  have h3 := List.all_eq_true.1 h.2 y.d.i (List.mem_range.2 (Array.getElem?_eq_some_iff.1 hu.op).1)
  simp only [hu.op, h2, Bool.or_eq_true, Nat.beq_eq] at h3
  rcases h3 with h3 | h3
  · exact h3
  · simp at h3

theorem frameAt (c : DCtx E n ops bef L) : ∀ (K K1 K2 : List Ev) (fr0 : T AV), L = K1 ++ K ++ K2 → ∀ t, (∀ ev ∈ K, dstOf ops ev = some t → (K.foldl nextF fr0).get (Ps.key t) = some ev.v) ∧ ((∀ ev ∈ K, dstOf ops ev ≠ some t) → (K.foldl nextF fr0).get (Ps.key t) = fr0.get (Ps.key t))
  | [], K1, K2, fr0, _, t => ⟨fun ev h => by simp at h, fun _ => rfl⟩
  | x :: K, K1, K2, fr0, h, t => by
    have hx : x ∈ L := by rw [h]; simp
    obtain ⟨h1, h2⟩ := frameAt c K (K1 ++ [x]) K2 (nextF fr0 x) (by simp [h]) t
    obtain ⟨o, ho, hc⟩ := c.mem x hx
    have hd : dstOf ops x = o.dst := by simp [dstOf, ho.op]
    have hnf : (nextF fr0 x).get (Ps.key t) = if dstOf ops x = some t then some x.v else fr0.get (Ps.key t) := by
      unfold nextF
      rcases hc.dst with ⟨e1, e2⟩ | ⟨d, e1, _, e2⟩
      · rw [e2, hd, e1]; simp [putO]
      · rw [e2, hd, e1]
        simp only [putO, T.get_put]
        by_cases hdt : d = t
        · subst hdt; simp
        · rw [if_neg (fun e => hdt (Ps.key_inj e).symm), if_neg (by simpa using hdt)]
    have hnot : dstOf ops x = some t → ∀ ev ∈ K, dstOf ops ev ≠ some t := by
      intro e1 ev hev e2
      have hev' : ev ∈ L := by rw [h]; simp [hev]
      have := c.dst_uniq hx hev' e1 e2
      have hp := c.nodup
      rw [h, List.append_assoc, List.pairwise_append] at hp
      exact (List.pairwise_cons.1 hp.2.1).1 ev (by simp [hev]) this
    refine ⟨fun ev hev he => ?_, fun hno => ?_⟩
    · rcases List.mem_cons.1 hev with rfl | hev
      · simp only [List.foldl_cons]
        rw [h2 (hnot he), hnf, if_pos he]
      · exact h1 ev hev he
    · simp only [List.foldl_cons]
      rw [h2 (fun ev hev => hno ev (List.mem_cons_of_mem _ hev)), hnf, if_neg (hno x (List.mem_cons_self ..))]
end
end Ax
namespace Ax
open Go
variable [Sy]

/-- What is known when just the places of 'S' are done. -/
structure DInv (D : List Deferred) (E : Env) (cal : FuncId → List AV → Hp → CR) (ng n base : Nat) (ops : Array Oper) (bef : List Nat) (L : List Ev) (h1 : Hp) (fr0 frE : T AV) (hE : Hp) (φ0 : Mp) (h0 : Hp) (w0 : World)
    (S : Nat → Prop) (φ : Mp) (H : Hp) (a : Act) (w : World) : Prop where
  parts : ∃ (L1 L2 : List Ev) (A : Hp), L = L1 ++ L2 ∧ (∀ ev ∈ L1, S ev.d.i) ∧ (∀ ev ∈ L2, ev.isEf = true → ¬ S ev.d.i) ∧ (A, L2) ∈ (h1, L) :: afters L ∧ Trace E cal base (L1.foldl nextF fr0) A A [] L2 frE hE ∧
    (∀ id o, A.get id = some o → H.get id = some o) ∧ (∀ ev ∈ L2, S ev.d.i → ∀ id o, alOf ev id o → H.get id = some o) ∧ (∀ ev ∈ L2, ∀ id o, alOf ev id o → A.get id = none) ∧ H.nxt = A.nxt
  big : base + ops.size ≤ H.nxt
  rel : Rel ng (glF E.gl) φ H w
  stp : Stp φ0 h0 w0 φ H w
  names : ∀ i, i < ops.size → ¬ S i → φ (base + i) = none
  slot1 : ∀ ev ∈ L, S ev.d.i → ∀ t, dstOf ops ev = some t → g φ ev.v = some (a.tmps.getD t undef)
  slot0 : ∀ t, (∀ ev ∈ L, S ev.d.i → dstOf ops ev ≠ some t) → g φ ((Od.t (Ps.key t)).rd fr0) = some (a.tmps.getD t undef)
  sz : n ≤ a.tmps.size
  df : a.defers = D
  closed : ∀ i, S i → ∀ j, bitOf (bef.getD i 0) j = true → S j

section
variable {D : List Deferred} {E : Env} {cal : FuncId → List AV → Hp → CR} {ng n base : Nat} {ops : Array Oper} {bef : List Nat} {L : List Ev} {h1 : Hp} {fr0 frE : T AV} {hE : Hp} {φ0 : Mp} {h0 : Hp} {w0 : World}
  {S : Nat → Prop} {φ : Mp} {H : Hp} {a : Act} {w : World}

theorem put_get {d t : Nat} {V : Value} : (a.put (some d) V).tmps.getD t undef = if t = d ∧ d < a.tmps.size then V else a.tmps.getD t undef := by
  simp only [Act.put, Array.getD_eq_getD_getElem?, Array.getElem?_setIfInBounds]
  by_cases h : d = t
  · subst h
    by_cases h2 : d < a.tmps.size
    · simp [h2]
    · simp [h2]
  · rw [if_neg h, if_neg (fun e => h e.1.symm)]

/-- One more is done. -/
theorem DInv.more (c : DCtx E n ops bef L) (hI : DInv D E cal ng n base ops bef L h1 fr0 frE hE φ0 h0 w0 S φ H a w) {ev : Ev} (hev : ev ∈ L) (hno : ¬ S ev.d.i) (hbef : ∀ j, bitOf (bef.getD ev.d.i 0) j = true → S j) {o : Oper} (ho : ops[ev.d.i]? = some o)
    {φ' : Mp} {H' : Hp} {w' : World} {V : Value} (hs : Sub φ φ') (hv : g φ' ev.v = some V) (hR : Rel ng (glF E.gl) φ' H' w') (hS : Stp φ0 h0 w0 φ' H' w') (hn : H.nxt ≤ H'.nxt)
    (hnames : ∀ j, j < ops.size → j ≠ ev.d.i → ¬ S j → φ' (base + j) = none)
    (hparts : ∃ (L1 L2 : List Ev) (A : Hp), L = L1 ++ L2 ∧ (∀ x ∈ L1, S x.d.i ∨ x.d.i = ev.d.i) ∧ (∀ x ∈ L2, x.isEf = true → ¬ (S x.d.i ∨ x.d.i = ev.d.i)) ∧ (A, L2) ∈ (h1, L) :: afters L ∧ Trace E cal base (L1.foldl nextF fr0) A A [] L2 frE hE ∧
      (∀ id o, A.get id = some o → H'.get id = some o) ∧ (∀ x ∈ L2, (S x.d.i ∨ x.d.i = ev.d.i) → ∀ id o, alOf x id o → H'.get id = some o) ∧ (∀ x ∈ L2, ∀ id o, alOf x id o → A.get id = none) ∧ H'.nxt = A.nxt) :
    DInv D E cal ng n base ops bef L h1 fr0 frE hE φ0 h0 w0 (fun j => S j ∨ j = ev.d.i) φ' H' (a.put o.dst V) w' := by
  obtain ⟨o', hd, hc⟩ := c.mem ev hev
  have heq : o' = o := by have := hd.op; rw [ho] at this; simpa using this.symm
  subst heq
  have hdst : dstOf ops ev = o'.dst := by simp [dstOf, ho]
  refine ⟨hparts, Nat.le_trans hI.big hn, hR, hS, fun i hi hni => hnames i hi (fun e => hni (.inr e)) (fun e => hni (.inl e)), ?_, ?_, ?_, ?_, ?_⟩
  · intro x hx hSx t ht
    rcases hSx with hSx | hxi
    · have hold := hI.slot1 x hx hSx t ht
      have hne : dstOf ops ev ≠ some t := fun e => hno (by rw [c.dst_uniq hev hx e ht]; exact hSx)
      rw [hdst] at hne
      rw [g_sub hs hold]
      cases hod : o'.dst with
      | none => rfl
      | some d =>
        rw [put_get, if_neg]
        rintro ⟨rfl, _⟩
        exact hne hod
    · have := c.same hx hev hxi
      subst this
      rw [hdst] at ht
      rcases hc.dst with ⟨e1, _⟩ | ⟨d, e1, e2, _⟩
      · rw [e1] at ht; cases ht
      · rw [e1] at ht; simp only [Option.some.injEq] at ht; subst ht
        rw [hv, e1, put_get, if_pos ⟨rfl, Nat.lt_of_lt_of_le e2 hI.sz⟩]
  · intro t ht
    have hold := hI.slot0 t fun x hx hSx => ht x hx (.inl hSx)
    have hne := ht ev hev (.inr rfl)
    rw [hdst] at hne
    rw [g_sub hs hold]
    cases hod : o'.dst with
    | none => rfl
    | some d =>
      rw [put_get, if_neg]
      rintro ⟨rfl, _⟩
      exact hne hod
  · cases o'.dst <;> simpa [Act.put] using hI.sz
  · cases o'.dst <;> simpa [Act.put] using hI.df
  · rintro i (hi | rfl) j hj
    · exact .inl (hI.closed i hi j hj)
    · exact .inl (hbef j hj)

/-- What an operation looks at is what it looked at in the run. -/
theorem DInv.frame (c : DCtx E n ops bef L) (hI : DInv D E cal ng n base ops bef L h1 fr0 frE hE φ0 h0 w0 S φ H a w) {K1 K2 : List Ev} {ev : Ev} (hL : L = K1 ++ ev :: K2) (hno : ¬ S ev.d.i) (hbef : ∀ j, bitOf (bef.getD ev.d.i 0) j = true → S j)
    {o : Oper} (hd : DOk E.P n ops bef ev.d o) : FR φ (sel (K1.foldl nextF fr0) ev.d.sl) (actSel a (operTmps ops o)) := by
  rw [hd.sl]
  refine FR_sel fun t ht => ?_
  have hev : ev ∈ L := by rw [hL]; simp
  have hpl := c.placed hL
  obtain ⟨k1, k2⟩ := frameAt c K1 [] (ev :: K2) fr0 (by simpa using hL) t
  have hop := c.opk _ _ hd.op
  simp only [drOp, Bool.and_eq_true] at hop
  have hslots := List.all_eq_true.1 hop.1.2 t ht
  have f3 : ∀ x ∈ L, dstOf ops x = some t → x.d.i = ev.d.i ∨ bitOf (bef.getD ev.d.i 0) x.d.i = true ∨ bitOf (bef.getD x.d.i 0) ev.d.i = true := by
    intro x hx hxt
    obtain ⟨u, hu, _⟩ := c.mem x hx
    have h3 := List.all_eq_true.1 hslots x.d.i (List.mem_range.2 (Array.getElem?_eq_some_iff.1 hu.op).1)
    simp only [dstOf, hu.op, Option.bind_some] at hxt
    simp only [hu.op, hxt, Bool.or_eq_true, Nat.beq_eq] at h3
    rcases h3 with ((h3 | h3) | h3) | h3
    · exact .inl h3.symm
    · simp at h3
    · exact .inr (.inl h3)
    · exact .inr (.inr h3)
  have inK1 : ∀ j, bitOf ev.d.pre j = true → ∃ x ∈ K1, x.d.i = j := by
    intro j hj
    obtain ⟨d', hd', e⟩ := hpl.waits j hj
    obtain ⟨x, hx, rfl⟩ := List.mem_map.1 hd'
    exact ⟨x, hx, e⟩
  have notK1 : ∀ x ∈ K1, x.d.i ≠ ev.d.i := fun x hx => hpl.new x.d (List.mem_map.2 ⟨x, hx, rfl⟩)
  by_cases hw : ∃ x ∈ L, dstOf ops x = some t
  · obtain ⟨x, hx, hxt⟩ := hw
    have none_else : (¬ S x.d.i) → x ∉ K1 → g φ ((Od.t (Ps.key t)).rd (K1.foldl nextF fr0)) = some (a.tmps.getD t undef) := by
      intro hnS hnK
      have e0 := hI.slot0 t fun y hy hSy hyt => hnS (by rw [c.dst_uniq hx hy hxt hyt]; exact hSy)
      rw [← e0]
      simp only [Od.rd]
      rw [k2 fun y hy hyt => hnK (by
        have : y ∈ L := by rw [hL]; exact List.mem_append_left _ hy
        rw [c.same hx this (c.dst_uniq hx this hxt hyt)]; exact hy)]
    rcases f3 x hx hxt with h3 | h3 | h3
    · refine none_else (by rw [h3]; exact hno) fun hk => notK1 x hk h3
    · have hSx := hbef _ h3
      have e1 := hI.slot1 x hx hSx t hxt
      obtain ⟨y, hy, hyi⟩ := inK1 x.d.i (by rw [hd.pre]; exact h3)
      have : y ∈ L := by rw [hL]; exact List.mem_append_left _ hy
      have := c.same this hx hyi
      subst this
      simp only [Od.rd, k1 y hy hxt]
      exact e1
    · refine none_else (fun hSx => hno (hI.closed _ hSx _ h3)) fun hk => ?_
      obtain ⟨M1, M2, rfl⟩ := List.append_of_mem hk
      obtain ⟨u, hu, _⟩ := c.mem x hx
      have hpx := c.placed (K1 := M1) (ev := x) (K2 := M2 ++ ev :: K2) (by simp [hL])
      obtain ⟨d', hd', e⟩ := hpx.waits ev.d.i (by rw [hu.pre]; exact h3)
      obtain ⟨y, hy, rfl⟩ := List.mem_map.1 hd'
      exact notK1 y (by simp [hy]) e
  · have hw' : ∀ x ∈ L, dstOf ops x ≠ some t := fun x hx e => hw ⟨x, hx, e⟩
    have e0 := hI.slot0 t fun y hy _ => hw' y hy
    rw [← e0]
    simp only [Od.rd]
    rw [k2 fun y hy => hw' y (by rw [hL]; exact List.mem_append_left _ hy)]
end
end Ax
namespace Ax
open Go
variable [Sy]

/-! ## What was made beside an effect -/
section
open Classical
noncomputable def extras (S : Nat → Prop) (M : List Ev) : List (Nat × AO) := M.filterMap fun ev => match ev with
  | .al d _ id o => if S d.i then some (id, o) else none
  | _ => none
theorem mem_extras {S : Nat → Prop} {M : List Ev} {id : Nat} {o : AO} : (id, o) ∈ extras S M ↔ ∃ ev ∈ M, S ev.d.i ∧ alOf ev id o := by
  unfold extras
  rw [List.mem_filterMap]
  constructor
  · rintro ⟨ev, hev, he⟩
    cases ev with
    | al d v i u =>
      simp only at he
      split at he
      · rename_i hS
        simp only [Option.some.injEq, Prod.mk.injEq] at he
        obtain ⟨rfl, rfl⟩ := he
        exact ⟨_, hev, hS, d, v, rfl⟩
      · cases he
    | _ => cases he
  · rintro ⟨ev, hev, hS, d, v, rfl⟩
    exact ⟨_, hev, by show (if S d.i then some (id, o) else none) = _; exact if_pos hS⟩
end

noncomputable def addX (xs : List (Nat × AO)) (h : Hp) : Hp := xs.foldr (fun p h => h.set p.1 p.2) h
noncomputable def lookX : List (Nat × AO) → Nat → Option AO
  | [], _ => none
  | (i, o) :: xs, id => if id = i then some o else lookX xs id
theorem addX_get (h : Hp) : ∀ (xs : List (Nat × AO)) (id : Nat), (addX xs h).get id = match lookX xs id with | some o => some o | none => h.get id
  | [], id => rfl
  | (i, o) :: xs, id => by
    have e : addX ((i, o) :: xs) h = (addX xs h).set i o := rfl
    rw [e, Hp.get_set, addX_get h xs id]
    simp only [lookX]
    by_cases hi : id = i <;> simp [hi]
theorem addX_nxt (h : Hp) : ∀ (xs : List (Nat × AO)), (addX xs h).nxt = h.nxt
  | [] => rfl
  | (i, o) :: xs => addX_nxt h xs
theorem lookX_mem : ∀ {xs : List (Nat × AO)} {id : Nat} {o : AO}, lookX xs id = some o → (id, o) ∈ xs
  | (i, u) :: xs, id, o, h => by
    simp only [lookX] at h
    by_cases hi : id = i
    · rw [if_pos hi] at h; simp only [Option.some.injEq] at h; subst h; subst hi; exact List.mem_cons_self ..
    · rw [if_neg hi] at h; exact List.mem_cons_of_mem _ (lookX_mem h)
theorem mem_lookX : ∀ {xs : List (Nat × AO)} {id : Nat} {o : AO}, (id, o) ∈ xs → ∃ u, lookX xs id = some u
  | (i, u) :: xs, id, o, h => by
    simp only [lookX]
    by_cases hi : id = i
    · rw [if_pos hi]; exact ⟨_, rfl⟩
    · rw [if_neg hi]
      rcases List.mem_cons.1 h with h | h
      · exact (hi (by injection h)).elim
      · exact mem_lookX h

section
variable {D : List Deferred} {E : Env} {cal : FuncId → List AV → Hp → CR} {ng n base : Nat} {ops : Array Oper} {bef : List Nat} {L : List Ev} {h1 : Hp} {fr0 frE : T AV} {hE : Hp} {φ0 : Mp} {h0 : Hp} {w0 : World}
  {S : Nat → Prop} {φ : Mp} {H : Hp} {a : Act} {w : World}

theorem trace_al : ∀ {M : List Ev} {fr : T AV} {h A : Hp} {seg : List Ev} {fr' : T AV} {h' : Hp}, Trace E cal base fr h A seg M fr' h' → ∀ x ∈ M, (∀ id o, alOf x id o → id = base + x.d.i) ∧ (x.isEf = true → isEffOp x.d.io.op = true)
  | [], _, _, _, _, _, _, _, x, hx => by simp at hx
  | y :: M, _, _, _, _, _, _, ht, x, hx => by
    cases ht with
    | cons _ _ _ _ _ _ _ _ h1 h2 =>
      rcases List.mem_cons.1 hx with rfl | hx
      · cases x with
        | al d v id o =>
          refine ⟨?_, fun h => by simp [Ev.isEf] at h⟩
          rintro id' o' ⟨d', v', e⟩
          simp only [Ev.al.injEq] at e
          obtain ⟨rfl, rfl, rfl, rfl⟩ := e
          exact h1.2.1
        | ef d v hb ha =>
          refine ⟨?_, fun _ => ?_⟩
          · rintro id' o' ⟨d', v', e⟩; cases e
          · obtain ⟨_, _, q, hq, _⟩ := h1
            show isEffOp d.io.op = true
            rw [hq]; rfl
        | val d v => exact ⟨(by rintro id' o' ⟨d', v', e⟩; cases e), fun h => by simp [Ev.isEf] at h⟩
        | rd d v q s => exact ⟨(by rintro id' o' ⟨d', v', e⟩; cases e), fun h => by simp [Ev.isEf] at h⟩
      · exact trace_al h2 x hx

theorem not_select {P : Program} {o : Oper} {i : IOp} (h : cOp0 P o.op = some i) : ∀ cs b, o.op ≠ .select cs b := by
  intro cs b e
  rw [e] at h
  cases h

/-- EACH OPERATION, WHENEVER IT COMES. -/
theorem efBefore_of {i : Nat} {ev : Ev} {M2 : List Ev} : ∀ {M1 : List Ev}, (∀ x ∈ M1, x.d.i ≠ i) → M1.any Ev.isEf = true → efBefore i (M1 ++ ev :: M2) = true
  | [], _, h => by cases h
  | x :: M1, hne, h => by
    have h1 : Nat.beq x.d.i i = false := by rw [Bool.eq_false_iff]; intro e; exact hne x (List.mem_cons_self ..) (Nat.eq_of_beq_eq_true e)
    simp only [List.cons_append, efBefore, h1, cond_false]
    cases hx : x.isEf with
    | true => rfl
    | false =>
      simp only [cond_false]
      refine efBefore_of (fun y hy => hne y (List.mem_cons_of_mem _ hy)) ?_
      simpa [hx] using h
theorem leafV_ok {v : AV} (h : leafV v = true) : ∃ V, g (fun _ => none) v = some V := by
  cases v <;> first | exact ⟨_, rfl⟩ | cases h
theorem leafL_ok : ∀ {l : List AV}, leafL l = true → ∃ xs, gL (fun _ => none) l = some xs
  | [], _ => ⟨[], rfl⟩
  | v :: l, h => by
    simp only [leafL, Bool.cond_eq_ite] at h
    split at h
    · rename_i hv
      obtain ⟨x, hx⟩ := leafV_ok hv
      obtain ⟨xs, hxs⟩ := leafL_ok h
      exact ⟨x :: xs, by simp [gL, hx, hxs]⟩
    · cases h
theorem pureV_ok {v : AV} (h : pureV v = true) : ∃ V, g (fun _ => none) v = some V := by
  cases v with
  | agg l => obtain ⟨xs, hxs⟩ := leafL_ok (show leafL l = true from h); exact ⟨_, by simp only [g, hxs, Option.map_some]; rfl⟩
  | _ => exact leafV_ok h
theorem pureL_ok : ∀ {l : List AV}, pureL l = true → ∃ xs, gL (fun _ => none) l = some xs
  | [], _ => ⟨[], rfl⟩
  | v :: l, h => by
    simp only [pureL, Bool.cond_eq_ite] at h
    split at h
    · rename_i hv
      obtain ⟨x, hx⟩ := pureV_ok hv
      obtain ⟨xs, hxs⟩ := pureL_ok h
      exact ⟨x :: xs, by simp [gL, hx, hxs]⟩
    · cases h
theorem pureOf_ok {cal : FuncId → List AV → Hp → CR} {q : EO} {s : T AV} {v : AV} (h : pureOf cal q s = some v) :
    ∃ f xs, q = .call f xs ∧ (∃ A0, gL (fun _ => none) (xs.map (Od.rd s)) = some A0) ∧ (∃ V, g (fun _ => none) v = some V) ∧ ∃ h', cal f (xs.map (Od.rd s)) Hp.empty = .ret v h' := by
  unfold pureOf at h
  split at h
  · rename_i f xs
    refine ⟨f, xs, rfl, ?_⟩
    split at h
    · cases h
    · rename_i u us heq
      rw [Bool.cond_eq_ite] at h
      split at h
      · rename_i hp
        split at h
        · rename_i r hh hr
          rw [Bool.cond_eq_ite] at h
          split at h
          · rename_i hv
            simp only [Option.some.injEq] at h; subst h
            rw [heq]
            exact ⟨pureL_ok hp, pureV_ok hv, _, hr⟩
          · cases h
        · cases h
      · cases h
  · cases h

theorem DInv.step (hX : ExtOk E.P ng E.gl (fun f => E.ext.get (Ps.key f))) (hp : Plain E.gl) (hcal : CalOk E.P ng E.gl cal) (c : DCtx E n ops bef L) (hrd : rdAll E h1 L = true) (hb0 : h0.nxt ≤ base) (htr : Trace E cal base fr0 h1 h1 [] L frE hE)
    (hI : DInv D E cal ng n base ops bef L h1 fr0 frE hE φ0 h0 w0 S φ H a w) {i : Nat} {o : Oper} (ho : ops[i]? = some o) (hno : ¬ S i) (hbef : ∀ j, bitOf (bef.getD i 0) j = true → S j)
    {K : Act → World → Prop} {Q : Exit → Act → World → Prop} (hK : ∀ φ' H' a' w', DInv D E cal ng n base ops bef L h1 fr0 frE hE φ0 h0 w0 (fun j => S j ∨ j = i) φ' H' a' w' → K a' w') : wpOp E.P ops Q i K a w := by
  have hi : i < ops.size := (Array.getElem?_eq_some_iff.1 ho).1
  obtain ⟨d, hd, hdi⟩ := drChk_all c.chk i hi
  obtain ⟨ev, hev, rfl⟩ := List.mem_map.1 hd
  subst hdi
  obtain ⟨L1, L2, A, hL, p1, p2, p3, p4, p5, p6, p7, p8⟩ := hI.parts
  have hev2 : ev ∈ L2 := by
    rw [hL] at hev
    rcases List.mem_append.1 hev with h | h
    · exact (hno (p1 ev h)).elim
    · exact h
  obtain ⟨M1, M2, rfl⟩ := List.append_of_mem hev2
  have hL' : L = (L1 ++ M1) ++ ev :: M2 := by rw [hL]; simp
  obtain ⟨hM, AM, segM, hgood, htail, hquiet⟩ := trace_at M1 ev M2 _ _ _ _ _ _ p4
  rw [← List.foldl_append] at hgood htail
  obtain ⟨o', hdo, hco⟩ := c.mem ev hev
  have heq : o' = o := by have := hdo.op; rw [ho] at this; simpa using this.symm
  subst heq
  have hF := hI.frame c hL' hno hbef hdo
  have hF0 := hF
  have hpl := c.placed hL'
  rw [hdo.sl] at hF0
  have hna : guardOk (sel ((L1 ++ M1).foldl nextF fr0) ev.d.sl) ev.d.io.guard = true ∨ guardAny (sel ((L1 ++ M1).foldl nextF fr0) ev.d.sl) ev.d.io.guard = false := by
    cases ev with
    | val d v =>
      rcases hgood with ⟨_, _, h⟩ | ⟨h, _⟩
      · exact .inr h
      · exact .inl h
    | al d v id o => exact .inl hgood.1
    | rd d v q s => exact .inl hgood.1
    | ef d v hb ha => exact .inl hgood.1
  rw [hdo.sl] at hna
  have hgd := guard_sel hco hF0 hna
  rw [← hdo.sl] at hgd
  have hM1L : ∀ x ∈ M1, x ∈ L := fun x hx => by rw [hL']; simp [hx]
  have hM2L : ∀ x ∈ M2, x ∈ L := fun x hx => by rw [hL']; simp [hx]
  have hM2ne : ∀ x ∈ M2, x.d.i ≠ ev.d.i := by
    intro x hx e
    have hp := c.nodup
    rw [hL', List.pairwise_append] at hp
    exact (List.pairwise_cons.1 hp.2.1).1 x hx e.symm
  have same_parts : ev.isEf = false → ∀ H' : Hp, (∀ id o, alOf ev id o → H'.get id = some o) → (∀ id o, H.get id = some o → H'.get id = some o) → H'.nxt = H.nxt →
      ∃ (L1 L2 : List Ev) (A : Hp), L = L1 ++ L2 ∧ (∀ x ∈ L1, S x.d.i ∨ x.d.i = ev.d.i) ∧ (∀ x ∈ L2, x.isEf = true → ¬ (S x.d.i ∨ x.d.i = ev.d.i)) ∧ (A, L2) ∈ (h1, L) :: afters L ∧ Trace E cal base (L1.foldl nextF fr0) A A [] L2 frE hE ∧
      (∀ id o, A.get id = some o → H'.get id = some o) ∧ (∀ x ∈ L2, (S x.d.i ∨ x.d.i = ev.d.i) → ∀ id o, alOf x id o → H'.get id = some o) ∧ (∀ x ∈ L2, ∀ id o, alOf x id o → A.get id = none) ∧ H'.nxt = A.nxt := by
    intro hne H' hal hsub hnx
    refine ⟨L1, M1 ++ ev :: M2, A, hL, fun x hx => .inl (p1 x hx), fun x hx hex hor => ?_, p3, p4, fun id o ho => hsub id o (p5 id o ho), fun x hx hor id o hxo => ?_, p7, by rw [hnx, p8]⟩
    · rcases hor with h | h
      · exact p2 x hx hex h
      · have : x ∈ L := by rw [hL]; exact List.mem_append_right _ hx
        rw [c.same this hev h, hne] at hex; cases hex
    · rcases hor with h | h
      · exact hsub _ _ (p6 x hx h id o hxo)
      · have : x ∈ L := by rw [hL]; exact List.mem_append_right _ hx
        rw [c.same this hev h] at hxo
        exact hal id o hxo
  have noAl : ∀ {d v}, ev = .val d v → ∀ (H' : Hp) id o, alOf ev id o → H'.get id = some o := by
    rintro d v rfl H' id o ⟨_, _, e⟩; cases e
  unfold wpOp
  simp only [ho]
  have run_sel : ∀ {q : IOp}, ev.d.io.op = q → (∀ m, q ≠ .bad m) → cOp0 E.P o'.op = some q ∧ execOp (actSel a (operTmps ops o')).eval o' = execOp a.eval o' := by
    intro q hq hnb
    rcases hco.op with h | h
    · rw [hq] at h; exact (hnb _ h).elim
    · rw [hq] at h; exact ⟨h, exec_sel (not_select h)⟩
  cases hevk : ev with
  | val d v =>
    subst hevk
    rcases hgood with ⟨g1, rfl, _⟩ | ⟨g1, hg⟩
    · have hw : Region.wanted o' (yielded ops a.tmps) = false := by rw [← hgd]; exact g1
      rw [hw]
      simp only [Bool.false_eq_true, if_false]
      exact hK _ _ _ _ (hI.more c hev hno hbef ho (Sub.refl _) (V := undef) rfl hI.rel hI.stp (Nat.le_refl _) (fun j hj _ hnj => hI.names j hj hnj) (same_parts rfl H (noAl rfl H) (fun _ _ h => h) rfl))
    · have hw : Region.wanted o' (yielded ops a.tmps) = true := by rw [← hgd]; exact g1
      rw [hw]
      simp only [if_true]
      refine .inl ?_
      unfold Oper.wp
      rcases hg with ⟨q, hq, hv⟩ | ⟨q, hq, hv⟩ | ⟨q, hq, hv⟩
      · obtain ⟨k1, k2⟩ := run_sel hq (by simp)
        obtain ⟨X, hX', hrun⟩ := P_ok k1 hF hv
        rw [← k2, hrun w]
        exact hK _ _ _ _ (hI.more c hev hno hbef ho (Sub.refl _) hX' hI.rel hI.stp (Nat.le_refl _) (fun j hj _ hnj => hI.names j hj hnj) (same_parts rfl H (noAl rfl H) (fun _ _ h => h) rfl))
      · obtain ⟨k1, k2⟩ := run_sel hq (by simp)
        have hfr : φ (base + d.i) = none := hI.names _ hi hno
        obtain ⟨Lc0, X, w', hrun, hgv, os, tape, output, rfl⟩ := A_ok (w := w) k1 hF hfr hv
        have hnoH : H.get (base + d.i) = none := by
          cases hgn : H.get (base + d.i) with
          | none => rfl
          | some u => obtain ⟨M, hM, _⟩ := hI.rel.at_ _ _ hgn; rw [hfr] at hM; cases hM
        obtain ⟨hR', hSt⟩ := name_step (h' := H) hI.rel Lc0 hfr hnoH (fun j => rfl) (Nat.lt_of_lt_of_le (Nat.add_lt_add_left hi _) hI.big) (Nat.le_refl _)
        rw [← k2, hrun]
        exact hK _ _ _ _ (hI.more c hev hno hbef ho (upd_sub Lc0 hfr) hgv hR' (hI.stp.also hSt (by omega) (Nat.le_refl _)) (Nat.le_refl _)
          (fun j hj hne hnj => by
            have hne' : base + j ≠ base + d.i := fun e => hne (Nat.add_left_cancel e)
            rw [upd_ne hne']; exact hI.names j hj hnj) (same_parts rfl H (noAl rfl H) (fun _ _ h => h) rfl))
      · obtain ⟨k1, k2⟩ := run_sel hq (by simp)
        obtain ⟨f, xs, rfl, ⟨A0, hA0⟩, ⟨V, hV⟩, hrun'⟩ := pureOf_ok hv
        have hF' : FR φ (sel (List.foldl nextF fr0 (L1 ++ M1)) d.sl) (actSel a (operTmps ops o')) := hF
        have hout := E_ok (w := w) (ext := fun f => E.ext.get (Ps.key f)) k1 hF' hI.rel hX
        simp only [EO.run] at hout
        obtain ⟨_, _, As, hA, hrun⟩ := hout
        rw [← k2, hrun]
        simp only [Oper.upon]
        refine (closed_ok hp hcal hI.rel hA0 hV hrun' hA).mono fun e w' he => ?_
        cases e with
        | returned X =>
          obtain ⟨φ', hv', hR', hSt⟩ := he
          exact hK _ _ _ _ (hI.more c hev hno hbef ho hSt.sub hv' hR' (hI.stp.trans hSt) (Nat.le_refl _)
            (fun j hj _ hnj => by rw [hSt.old _ (by have := hI.big; omega)]; exact hI.names j hj hnj) (same_parts rfl H (noAl rfl H) (fun _ _ h => h) rfl))
        | panicked ch => exact he.elim
        | outgrown => exact he.elim
  | al d v id ob =>
    subst hevk
    obtain ⟨g1, rfl, q, hq, hv⟩ := hgood
    have hw : Region.wanted o' (yielded ops a.tmps) = true := by rw [← hgd]; exact g1
    rw [hw]
    simp only [if_true]
    refine .inl ?_
    unfold Oper.wp
    obtain ⟨k1, k2⟩ := run_sel hq (by simp)
    have hfr : φ (base + d.i) = none := hI.names _ hi hno
    obtain ⟨Lc0, X, w', hrun, hgv, os, tape, output, hLb, hat, hsz, hold⟩ := A_ok (w := w) k1 hF hfr hv
    have hlt : base + d.i < H.nxt := Nat.lt_of_lt_of_le (Nat.add_lt_add_left hi _) hI.big
    obtain ⟨hR', hSt⟩ := alloc_step0 (h' := H.set (base + d.i) ob) hI.rel Lc0 hfr (fun j => by rw [Hp.get_set]) hlt (Nat.le_refl _) hLb hat os tape output hsz hold
    have hnoH : H.get (base + d.i) = none := by
      cases hgn : H.get (base + d.i) with
      | none => rfl
      | some u => obtain ⟨M, hM, _⟩ := hI.rel.at_ _ _ hgn; rw [hfr] at hM; cases hM
    rw [← k2, hrun]
    refine hK _ _ _ _ (hI.more c hev hno hbef ho (upd_sub Lc0 hfr) hgv hR' (hI.stp.also hSt (by omega) (Nat.le_refl _)) (Nat.le_refl _)
      (fun j hj hne hnj => by
            have hne' : base + j ≠ base + d.i := fun e => hne (Nat.add_left_cancel e)
            rw [upd_ne hne']; exact hI.names j hj hnj) (same_parts rfl _ ?_ (fun id u hu => ?_) rfl))
    · rintro id u ⟨d', v', e⟩
      simp only [Ev.al.injEq] at e
      obtain ⟨rfl, rfl, rfl, rfl⟩ := e
      rw [Hp.get_set, if_pos rfl]
    · rw [Hp.get_set, if_neg (fun e => by rw [e, hnoH] at hu; cases hu)]; exact hu
  | rd d v q s =>
    subst hevk
    obtain ⟨g1, rfl, hq, hv⟩ := hgood
    have hw : Region.wanted o' (yielded ops a.tmps) = true := by rw [← hgd]; exact g1
    rw [hw]
    simp only [if_true]
    refine .inl ?_
    unfold Oper.wp
    obtain ⟨k1, k2⟩ := run_sel hq (by simp)
    have fin : ∀ (hh : Hp), (∀ id o, hh.get id = some o → H.get id = some o) → hh.nxt = H.nxt → q.run E.gl (sel (List.foldl nextF fr0 (L1 ++ M1)) d.sl) hh = some v → o'.upon E.P a K Q ((execOp a.eval o').run E.P w) := by
      intro hh hsub hnx hv
      obtain ⟨X, hX', hrun⟩ := R_ok k1 hF (hI.rel.less hsub (by omega)) hv
      rw [← k2, hrun]
      exact hK _ _ _ _ (hI.more c hev hno hbef ho (Sub.refl _) hX' hI.rel hI.stp (Nat.le_refl _) (fun j hj _ hnj => hI.names j hj hnj)
        (same_parts rfl H (by rintro id o ⟨_, _, e⟩; cases e) (fun _ _ h => h) rfl))
    have hpre : d.pre = bef.getD d.i 0 := hdo.pre
    cases hal : d.alone with
    | true =>
      have hquiet' : ∀ x ∈ M1, x.isEf = false := by
        intro x hx
        cases hxe : x.isEf with
        | false => rfl
        | true =>
          have h3 := hpl.alone hal x.d (List.mem_map.2 ⟨x, List.mem_append_right _ hx, rfl⟩) ((trace_al htr x (hM1L x hx)).2 hxe)
          have h4 : bitOf d.pre x.d.i = true := h3
          rw [hpre] at h4
          exact (p2 x (List.mem_append_left _ hx) hxe (hbef _ h4)).elim
      obtain ⟨rfl, rfl, e3, e4⟩ := hquiet hquiet'
      refine fin _ (fun id u hu => ?_) (by rw [hpFor_nxt, p8]) hv
      rcases hpFor_get hu with h | ⟨x, hx, hxo, hxb⟩
      · exact p5 id u h
      · simp only [List.append_nil, List.mem_reverse] at hx
        rw [hpre] at hxb
        exact p6 x (List.mem_append_left _ hx) (hbef _ hxb) id u hxo
    | false =>
      cases hqd : M1.any Ev.isEf with
      | false =>
        have hquiet' : ∀ x ∈ M1, x.isEf = false := fun x hx => by
          have := List.any_eq_false.1 hqd x hx
          simpa using this
        obtain ⟨rfl, rfl, e3, e4⟩ := hquiet hquiet'
        refine fin _ (fun id u hu => ?_) (by rw [hpFor_nxt, p8]) hv
        rcases hpFor_get hu with h | ⟨x, hx, hxo, hxb⟩
        · exact p5 id u h
        · simp only [List.append_nil, List.mem_reverse] at hx
          rw [hpre] at hxb
          exact p6 x (List.mem_append_left _ hx) (hbef _ hxb) id u hxo
      | true =>
      have h3 := List.all_eq_true.1 hrd _ hev
      have hM1ne : ∀ x ∈ M1, x.d.i ≠ d.i := by
        intro x hx e
        have hp := c.nodup
        rw [hL', List.pairwise_append] at hp
        exact hp.2.2 x (List.mem_append_right _ hx) _ (List.mem_cons_self ..) e
      have hefb := efBefore_of (ev := .rd d v q (sel (List.foldl nextF fr0 (L1 ++ M1)) d.sl)) (M2 := M2) hM1ne hqd
      simp only [hal, Bool.false_or] at h3
      have h4 := List.all_eq_true.1 h3 (A, M1 ++ .rd d v q (sel (List.foldl nextF fr0 (L1 ++ M1)) d.sl) :: M2) p3
      have hmay : mayRead d (M1 ++ .rd d v q (sel (List.foldl nextF fr0 (L1 ++ M1)) d.sl) :: M2) = true := by
        simp only [mayRead, Bool.and_eq_true, Bool.not_eq_true']
        refine ⟨List.any_eq_true.2 ⟨_, hev2, by simp [Ev.d]⟩, ?_⟩
        rw [List.any_eq_false]
        intro x hx
        simp only [Bool.and_eq_true, not_and]
        intro hxe hxb
        rw [hpre] at hxb
        exact p2 x hx hxe (hbef _ hxb)
      simp only [hmay, hefb, Bool.and_self, Bool.not_true, Bool.false_or, rdTest] at h4
      split at h4
      · rename_i u hu
        have := avEq_ok _ _ h4
        subst this
        refine fin _ (fun id u' hu' => ?_) (by rw [hpFor_nxt, p8]) hu
        rcases hpFor_get hu' with h | ⟨x, hx, hxo, hxb⟩
        · exact p5 id u' h
        · rw [hpre] at hxb
          exact p6 x hx (hbef _ hxb) id u' hxo
      · cases h4
  | ef d v hb ha =>
    subst hevk
    obtain ⟨g1, rfl, q, hq, hv⟩ := hgood
    have hw : Region.wanted o' (yielded ops a.tmps) = true := by rw [← hgd]; exact g1
    rw [hw]
    simp only [if_true]
    refine .inl ?_
    unfold Oper.wp
    obtain ⟨k1, k2⟩ := run_sel hq (by simp)
    have hpre : d.pre = bef.getD d.i 0 := hdo.pre
    have hall : ∀ x ∈ L1 ++ M1, S x.d.i := by
      intro x hx
      have h3 := hpl.eff (by show isEffOp d.io.op = true; rw [hq]; rfl) x.d (List.mem_map.2 ⟨x, hx, rfl⟩)
      have h4 : bitOf d.pre x.d.i = true := h3
      rw [hpre] at h4
      exact hbef _ h4
    have hquiet' : ∀ x ∈ M1, x.isEf = false := by
      intro x hx
      cases hxe : x.isEf with
      | false => rfl
      | true => exact (p2 x (List.mem_append_left _ hx) hxe (hall x (List.mem_append_right _ hx))).elim
    obtain ⟨rfl, rfl, e3, e4⟩ := hquiet hquiet'
    have hsub : ∀ id u, hb.get id = some u → H.get id = some u := by
      intro id u hu
      rcases e4 id u hu with h | ⟨x, hx, hxo⟩
      · exact p5 id u h
      · exact p6 x (List.mem_append_left _ hx) (hall x (List.mem_append_right _ hx)) id u hxo
    have hnx : H.nxt = hb.nxt := by rw [p8, e3]
    have hRb : Rel ng (glF E.gl) φ hb w := hI.rel.less hsub (by omega)
    have behind : ∀ (φ' : Mp) (X : Value) (w' : World), g φ' v = some X → Rel ng (glF E.gl) φ' ha w' → Stp φ hb w φ' ha w' → K (a.put o'.dst X) w' := by
      intro φ' X w' hgv hR' hSt
      have hXs : ∀ id u, lookX (extras S M2) id = some u → H.get id = some u ∧ hb.get id = none := by
        intro id u hx
        obtain ⟨x, hxm, hxS, hxo⟩ := mem_extras.1 (lookX_mem hx)
        refine ⟨p6 x (List.mem_append_right _ (List.mem_cons_of_mem _ hxm)) hxS id u hxo, ?_⟩
        cases hgb : hb.get id with
        | none => rfl
        | some u' =>
          exfalso
          rcases e4 id u' hgb with h | ⟨y, hy, hyo⟩
          · have := p7 x (List.mem_append_right _ (List.mem_cons_of_mem _ hxm)) id u hxo
            rw [h] at this; cases this
          · have i1 := (trace_al htr x (hM2L x hxm)).1 id u hxo
            have i2 := (trace_al htr y (hM1L y hy)).1 id u' hyo
            have hp := c.nodup
            rw [hL', List.pairwise_append] at hp
            exact hp.2.2 y (List.mem_append_right _ hy) x (List.mem_cons_of_mem _ hxm) (by omega)
      obtain ⟨hR2, hS2, hsep⟩ := frame_ok hI.rel hsub hR' hSt (lookX (extras S M2)) hXs (H' := addX (extras S M2) ha) (addX_get ha _) (addX_nxt ha _) hnx
      refine hK _ _ _ _ (hI.more c hev hno hbef ho hSt.sub hgv hR2 (hI.stp.trans hS2) hS2.nx (fun j hj hne hnj => ?_) ?_)
      · rw [hSt.old _ (by have := hI.big; omega)]; exact hI.names j hj hnj
      · refine ⟨(L1 ++ M1) ++ [.ef d v hb ha], M2, ha, by simp [hL], ?_, ?_, ?_, ?_, ?_, ?_, ?_, addX_nxt ha _⟩
        · intro x hx
          rcases List.mem_append.1 hx with h | h
          · exact .inl (hall x h)
          · simp only [List.mem_singleton] at h; subst h; exact .inr rfl
        · rintro x hx hxe (h | h)
          · exact p2 x (List.mem_append_right _ (List.mem_cons_of_mem _ hx)) hxe h
          · exact hM2ne x hx h
        · refine List.mem_cons_of_mem _ ?_
          rw [hL']; exact afters_mem _ _ _ _ _ _
        · rw [List.foldl_append]; exact htail
        · intro id u hu
          rw [addX_get]
          cases hx : lookX (extras S M2) id with
          | none => exact hu
          | some u' => rw [hsep id u' hx] at hu; cases hu
        · intro x hx hor id u hxo
          rcases hor with h | h
          · have hm := mem_extras.2 ⟨x, hx, h, hxo⟩
            obtain ⟨u', hu'⟩ := mem_lookX hm
            rw [addX_get, hu']
            obtain ⟨y, hy, _, hyo⟩ := mem_extras.1 (lookX_mem hu')
            have i1 := (trace_al htr x (hM2L x hx)).1 id u hxo
            have i2 := (trace_al htr y (hM2L y hy)).1 id u' hyo
            have := c.same (hM2L x hx) (hM2L y hy) (by omega)
            subst this
            obtain ⟨d1, v1, e1⟩ := hxo
            obtain ⟨d2, v2, e2⟩ := hyo
            rw [e1] at e2
            simp only [Ev.al.injEq] at e2
            rw [e2.2.2.2]
          · exact (hM2ne x hx h).elim
        · intro x hx id u hxo
          by_cases hxS : S x.d.i
          · obtain ⟨u', hu'⟩ := mem_lookX (mem_extras.2 ⟨x, hx, hxS, hxo⟩)
            exact hsep id u' hu'
          · have i1 := (trace_al htr x (hM2L x hx)).1 id u hxo
            obtain ⟨ox, hox, _⟩ := c.mem x (hM2L x hx)
            have hxi := (Array.getElem?_eq_some_iff.1 hox.op).1
            have e5 : φ' id = none := by
              rw [hSt.old _ (by have := hI.big; omega), i1]
              exact hI.names _ hxi hxS
            cases hgh : ha.get id with
            | none => rfl
            | some u' => obtain ⟨M, hM, _⟩ := hR'.at_ _ _ hgh; rw [e5] at hM; cases hM
    have hF' : FR φ (sel (List.foldl nextF fr0 (L1 ++ M1)) d.sl) (actSel a (operTmps ops o')) := hF
    have hout := E_ok (w := w) (ext := fun f => E.ext.get (Ps.key f)) k1 hF' hRb hX
    rcases hv with hv | ⟨f, as, hb', hv, hcr⟩
    · rw [hv] at hout
      obtain ⟨φ', X, w', hrun, hgv, hR', hSt⟩ := hout
      rw [k2] at hrun
      rcases hrun with hrun | ⟨rfl, hrun⟩ <;> rw [hrun] <;> exact behind φ' _ w' hgv hR' hSt
    · rw [hv] at hout
      obtain ⟨rfl, hf, As, hA, hrun⟩ := hout
      rw [← k2, hrun]
      simp only [Oper.upon]
      have := hcal f as hb' (by rw [hcr]; trivial) φ w As hA hRb
      rw [hcr] at this
      refine this.mono fun e w' he => ?_
      cases e with
      | returned V => obtain ⟨φ', hv', hR', hSt⟩ := he; exact behind φ' V w' hv' hR' hSt
      | panicked ch => exact he.elim
      | outgrown => exact he.elim
end
end Ax
namespace Ax
open Go
variable [Sy]

section
variable {D : List Deferred} {E : Env} {cal : FuncId → List AV → Hp → CR} {ng n base : Nat} {ops : Array Oper} {bef : List Nat} {L : List Ev} {h1 : Hp} {fr0 frE : T AV} {hE : Hp} {φ0 : Mp} {h0 : Hp} {w0 : World}
  {S : Nat → Prop} {φ : Mp} {H : Hp} {a : Act} {w : World}

theorem good_co {fr : T AV} {h A : Hp} {seg : List Ev} {ev : Ev} (hg : GoodEv E cal base fr h A seg ev) (hb : ev.d.io.op = .bad 51) (hgd : ev.d.io.guard = none) : False := by
  cases ev with
  | val d v =>
    replace hb : d.io.op = .bad 51 := hb
    replace hgd : d.io.guard = none := hgd
    rcases hg with ⟨h1, _⟩ | ⟨_, ⟨q, hq, _⟩ | ⟨q, hq, _⟩ | ⟨q, hq, _⟩⟩
    · rw [hgd] at h1; cases h1
    · rw [hb] at hq; cases hq
    · rw [hb] at hq; cases hq
    · rw [hb] at hq; cases hq
  | al d v id o => obtain ⟨_, _, q, hq, _⟩ := hg; replace hb : d.io.op = .bad 51 := hb; rw [hb] at hq; cases hq
  | rd d v q s => obtain ⟨_, _, hq, _⟩ := hg; replace hb : d.io.op = .bad 51 := hb; rw [hb] at hq; cases hq
  | ef d v hb' ha => obtain ⟨_, _, q, hq, _⟩ := hg; replace hb : d.io.op = .bad 51 := hb; rw [hb] at hq; cases hq

theorem trace_good : ∀ {M : List Ev} {fr : T AV} {h A : Hp} {seg : List Ev} {fr' : T AV} {h' : Hp}, Trace E cal base fr h A seg M fr' h' → ∀ x ∈ M, ∃ fr h A seg, GoodEv E cal base fr h A seg x
  | [], _, _, _, _, _, _, _, x, hx => by simp at hx
  | y :: M, _, _, _, _, _, _, ht, x, hx => by
    cases ht with
    | cons _ _ _ _ _ _ _ _ h1 h2 =>
      rcases List.mem_cons.1 hx with rfl | hx
      · exact ⟨_, _, _, _, h1⟩
      · exact trace_good h2 x hx

theorem befOf_bit {bef : List Nat} {j : Nat} : ∀ (es : List Edge) (s : Nat), (es.foldl (fun s e => bif Region.binds .any e then s ||| 2 ^ e.on ||| bef.getD e.on 0 else s) s).testBit j = true →
    s.testBit j = true ∨ ∃ e ∈ es, Region.binds .any e = true ∧ (e.on = j ∨ (bef.getD e.on 0).testBit j = true)
  | [], s, h => .inl h
  | e :: es, s, h => by
    simp only [List.foldl_cons] at h
    rcases befOf_bit es _ h with h | ⟨e', he', h'⟩
    · cases hb : Region.binds .any e with
      | false => rw [hb] at h; exact .inl h
      | true =>
        rw [hb] at h
        simp only [cond_true, Nat.testBit_or, Bool.or_eq_true, Nat.testBit_two_pow, decide_eq_true_eq] at h
        rcases h with (h | h) | h
        · exact .inl h
        · exact .inr ⟨e, List.mem_cons_self .., hb, .inl h⟩
        · exact .inr ⟨e, List.mem_cons_self .., hb, .inr h⟩
    · exact .inr ⟨e', List.mem_cons_of_mem _ he', h'⟩

theorem DInv.fin (c : DCtx E n ops bef L) (htr : Trace E cal base fr0 h1 h1 [] L frE hE) (hI : DInv D E cal ng n base ops bef L h1 fr0 frE hE φ0 h0 w0 S φ H a w) (hall : ∀ i, i < ops.size → S i) :
    RPost D ng E.gl n φ0 h0 w0 (.ok frE hE) .normal a w := by
  have hS : ∀ x ∈ L, S x.d.i := by
    intro x hx
    obtain ⟨o, ho, _⟩ := c.mem x hx
    exact hall _ (Array.getElem?_eq_some_iff.1 ho.op).1
  obtain ⟨L1, L2, A, hL, p1, p2, p3, p4, p5, p6, p7, p8⟩ := hI.parts
  have hne : ∀ x ∈ L2, x.isEf = false := by
    intro x hx
    cases hxe : x.isEf with
    | false => rfl
    | true => exact (p2 x hx hxe (hS x (by rw [hL]; exact List.mem_append_right _ hx))).elim
  obtain ⟨_, k2⟩ := trace_end _ _ _ _ _ _ _ p4
  obtain ⟨k3, k4⟩ := k2 hne
  have hsub : ∀ id o, hE.get id = some o → H.get id = some o := by
    intro id o ho
    rcases k4 id o ho with h | ⟨x, hx, hxo⟩
    · exact p5 id o h
    · exact p6 x hx (hS x (by rw [hL]; exact List.mem_append_right _ hx)) id o hxo
  have hnx : H.nxt ≤ hE.nxt := by rw [p8, k3]; exact Nat.le_refl _
  refine ⟨φ, ⟨fun t => ?_, hI.sz, hI.rel.less hsub hnx, hI.df⟩, hI.stp.trans (Stp.less hsub hnx)⟩
  obtain ⟨e1, _⟩ := trace_end _ _ _ _ _ _ _ htr
  obtain ⟨f1, f2⟩ := frameAt c L [] [] fr0 (by simp) t
  subst e1
  by_cases hw : ∃ x ∈ L, dstOf ops x = some t
  · obtain ⟨x, hx, hxt⟩ := hw
    simp only [Od.rd, f1 x hx hxt]
    exact hI.slot1 x hx (hS x hx) t hxt
  · have hw' : ∀ x ∈ L, dstOf ops x ≠ some t := fun x hx e => hw ⟨x, hx, e⟩
    rw [← hI.slot0 t fun x hx _ => hw' x hx]
    simp only [Od.rd, f2 hw']

noncomputable def done (listed : Array Bool) (i : Nat) : Prop := listed[i]? = some true

theorem ready_all {listed : Array Bool} (hs : listed.size = ops.size) (hc : listed.toList.count false = 0) : ∀ i, i < ops.size → done listed i := by
  intro i hi
  have hi' : i < listed.size := by omega
  unfold done
  rw [Array.getElem?_eq_getElem hi']
  cases hb : listed[i] with
  | true => rfl
  | false =>
    have : false ∈ listed.toList := by rw [← hb]; simp
    have := List.count_pos_iff.2 this
    omega

/-- Something can always be done next. -/
theorem ready_some (hop : ∀ i o, ops[i]? = some o → drOp ops bef i o = true) {listed : Array Bool} (hs : listed.size = ops.size) : ∀ (i : Nat), i < ops.size → ¬ done listed i → Region.ready .any ops listed ≠ [] := by
  intro i
  induction i using Nat.strongRecOn with
  | _ i ih =>
    intro hi hnd
    by_cases hex : ∃ j, j < i ∧ ¬ done listed j
    · obtain ⟨j, hj, hjn⟩ := hex
      exact ih j hj (by omega) hjn
    · have hall : ∀ j, j < i → done listed j := fun j hj => Classical.byContradiction fun h => hex ⟨j, hj, h⟩
      have hmem : i ∈ Region.ready .any ops listed := by
        unfold Region.ready
        rw [List.mem_filter]
        refine ⟨List.mem_range.2 hi, ?_⟩
        have hi' : i < listed.size := by omega
        have h1 : listed.getD i true = false := by
          unfold done at hnd
          rw [Array.getElem?_eq_getElem hi'] at hnd
          rw [Array.getD_eq_getD_getElem?, Array.getElem?_eq_getElem hi']
          simpa using hnd
        obtain ⟨o, ho⟩ : ∃ o, ops[i]? = some o := ⟨_, Array.getElem?_eq_getElem hi⟩
        have h2 := hop i o ho
        simp only [drOp, Bool.and_eq_true] at h2
        have h3 := List.all_eq_true.1 h2.1.1.1
        rw [h1, ho]
        simp only [Bool.not_false, Bool.true_and, Option.map_some, Option.getD_some]
        rw [← Array.all_toList, List.all_eq_true]
        intro e he
        have h4 := h3 e he
        simp only [Bool.or_eq_true, Bool.not_eq_true', blt_iff] at h4 ⊢
        rcases h4 with h4 | h4
        · exact .inl h4
        · have := hall _ h4
          unfold done at this
          right
          rw [Array.getD_eq_getD_getElem?, this]; rfl
      intro h0
      rw [h0] at hmem
      cases hmem

theorem any_ok (hX : ExtOk E.P ng E.gl (fun f => E.ext.get (Ps.key f))) (hp : Plain E.gl) (hcal : CalOk E.P ng E.gl cal) (c : DCtx E n ops bef L) (hrd : rdAll E h1 L = true) (hb0 : h0.nxt ≤ base) (htr : Trace E cal base fr0 h1 h1 [] L frE hE)
    {Q : Exit → Act → World → Prop} (hQ : ∀ a w, RPost D ng E.gl n φ0 h0 w0 (.ok frE hE) .normal a w → Q .normal a w) :
    ∀ (fuel : Nat) (listed : Array Bool) (φ : Mp) (H : Hp) (a : Act) (w : World), listed.size = ops.size → listed.toList.count false = fuel → DInv D E cal ng n base ops bef L h1 fr0 frE hE φ0 h0 w0 (done listed) φ H a w → wpAny E.P .any ops Q fuel listed a w
  | 0, listed, φ, H, a, w, hs, hc, hI => by
    have hall := ready_all hs hc
    refine ⟨?_, hQ _ _ (hI.fin c htr hall)⟩
    rw [Region.ready, List.filter_eq_nil_iff]
    intro i hi
    have := hall i (List.mem_range.1 hi)
    unfold done at this
    rw [Array.getD_eq_getD_getElem?, this]
    simp
  | fuel + 1, listed, φ, H, a, w, hs, hc, hI => by
    refine ⟨fun h0 => ?_, fun i hi => ?_⟩
    · exfalso
      have hm : false ∈ listed.toList := List.count_pos_iff.1 (by omega)
      obtain ⟨i, hi, he⟩ := List.mem_iff_getElem.1 hm
      have hi' : i < listed.size := by simpa using hi
      refine ready_some c.opk hs i (by omega) ?_ h0
      unfold done
      rw [Array.getElem?_eq_getElem hi']
      simp only [Array.getElem_toList] at he
      rw [he]; simp
    · have hi0 := hi
      unfold Region.ready at hi
      rw [List.mem_filter] at hi
      obtain ⟨hi1, hi2⟩ := hi
      have hlt := List.mem_range.1 hi1
      have hlt' : i < listed.size := by omega
      obtain ⟨o, ho⟩ : ∃ o, ops[i]? = some o := ⟨_, Array.getElem?_eq_getElem hlt⟩
      rw [ho] at hi2
      simp only [Bool.and_eq_true, Bool.not_eq_true', Option.map_some, Option.getD_some] at hi2
      obtain ⟨hf, hedges⟩ := hi2
      rw [← Array.all_toList, List.all_eq_true] at hedges
      have hfalse : listed[i] = false := by
        rw [Array.getD_eq_getD_getElem?, Array.getElem?_eq_getElem hlt'] at hf
        simpa using hf
      have hnd : ¬ done listed i := by
        unfold done; rw [Array.getElem?_eq_getElem hlt', hfalse]; simp
      have hbef : ∀ j, bitOf (bef.getD i 0) j = true → done listed j := by
        intro j hj
        have h2 := c.opk i o ho
        simp only [drOp, Bool.and_eq_true, Nat.beq_eq] at h2
        rw [h2.1.1.2, bitOf_eq] at hj
        unfold befOf at hj
        rcases befOf_bit _ _ hj with h | ⟨e, he, hbd, h⟩
        · simp at h
        · have h4 := hedges e he
          simp only [hbd, Bool.not_true, Bool.false_or] at h4
          have h5 : done listed e.on := by
            unfold done
            rw [Array.getD_eq_getD_getElem?] at h4
            cases hx : listed[e.on]? with
            | none => rw [hx] at h4; cases h4
            | some b => rw [hx] at h4; simp only [Option.getD_some] at h4; rw [h4]
          rcases h with h | h
          · rw [← h]; exact h5
          · exact hI.closed _ h5 j (by rw [bitOf_eq]; exact h)
      refine hI.step hX hp hcal c hrd hb0 htr ho hnd hbef fun φ' H' a' w' hI' => ?_
      have hdone : (fun j => done listed j ∨ j = i) = done (listed.setIfInBounds i true) := by
        funext j
        unfold done
        rw [Array.getElem?_setIfInBounds]
        by_cases hj : i = j
        · subst hj; simp [hlt']
        · simp only [hj, if_false, eq_iff_iff]
          exact ⟨fun h => h.resolve_right (fun e => hj e.symm), .inl⟩
      rw [hdone] at hI'
      refine any_ok hX hp hcal c hrd hb0 htr hQ fuel _ φ' H' a' w' (by simpa using hs) ?_ hI'
      have e1 : (listed.setIfInBounds i true).toList = listed.toList.set i true := by simp
      have hi2' : i < listed.toList.length := by simpa using hlt'
      have e2 := List.count_set (a := true) (b := false) (l := listed.toList) (i := i) hi2'
      rw [e1, e2]
      simp [hfalse, hc]

theorem Rel.draw {gl : Nat → Option (List AV)} {h : Hp} (hR : Rel ng gl φ h w) (k : Nat) : Rel ng gl φ h { w with drawn := k } :=
  ⟨fun id o ho => by
    obtain ⟨L, h1, h2, h3⟩ := hR.at_ id o ho
    exact ⟨L, h1, h2, h3.frame rfl⟩, hR.inj, hR.fresh, hR.ngle, hR.gl_⟩

theorem dra_ok (hpl : Plain E.gl) (hX : ExtOk E.P ng E.gl (fun f => E.ext.get (Ps.key f))) (hm : E.P.follows .mixedOrders = true) : DraOk E ng := by
  intro D cal n id ops l fr h φ a w Q hcal hd hg hI hQ
  unfold cDra at hd
  simp only [Bool.cond_eq_ite] at hd
  split at hd
  case isFalse => cases hd
  rename_i hok
  generalize (Region.before ops).toList = bef at hd hok
  simp only [IC.dra.injEq] at hd
  rw [hd] at hok
  have hmem : ∀ d ∈ l, ∃ o, DOk E.P n ops bef d o := by
    intro d hdl
    rw [← hd] at hdl
    exact mkGo_ok _ _ d hdl
  simp only [drOk, Bool.and_eq_true, Nat.ble_eq] at hok
  obtain ⟨⟨hlen, hchk⟩, hops⟩ := hok
  have hopk : ∀ i o, ops[i]? = some o → drOp ops bef i o = true := by
    intro i o ho
    have := List.all_eq_true.1 hops i (List.mem_range.2 (Array.getElem?_eq_some_iff.1 ho).1)
    simpa [ho] using this
  generalize hr : runDra E cal l fr h = r at hg hQ
  unfold runDra at hr
  simp only at hr
  obtain ⟨L, frE, hE, e1, htr, hk⟩ := run_trace l fr _ _ [] [] _ r hr hg
  simp only [List.append_nil, List.reverse_reverse] at hk
  cases hrd : rdAll E { tr := h.tr, nxt := h.nxt + l.length } L with
  | false => rw [hrd] at hk; simp only [cond_false] at hk; subst hk; exact hg.elim
  | true =>
    rw [hrd] at hk
    simp only [cond_true] at hk
    subst hk
    have c : DCtx E n ops bef L := by
      refine ⟨fun ev hev => ?_, by rw [e1]; exact hchk, hopk⟩
      obtain ⟨o, ho⟩ := hmem ev.d (by rw [← e1]; exact List.mem_map.2 ⟨ev, hev, rfl⟩)
      refine ⟨o, ho, ?_⟩
      obtain ⟨_, _, _, _, hgood⟩ := trace_good htr ev hev
      rcases cOper_inv (P := E.P) (n := n) (ops := ops) o with ⟨hb, hgd⟩ | hco
      · exact (good_co hgood (by rw [ho.io]; exact hb) (by rw [ho.io]; exact hgd)).elim
      · rw [ho.io]; exact hco
    refine wp_region_any hm ?_
    have hlt : h.nxt + ops.size ≤ h.nxt + l.length := by omega
    have hR1 : Rel ng (glF E.gl) φ { tr := h.tr, nxt := h.nxt + l.length } { w with drawn := w.drawn + 1 } := (hI.rel.less (h' := { tr := h.tr, nxt := h.nxt + l.length }) (fun _ _ h => h) (Nat.le_add_right _ _)).draw _
    have hnone : ∀ i, φ (h.nxt + i) = none := fun i => hI.rel.fresh _ (Nat.le_add_right _ _)
    refine any_ok (φ0 := φ) (h0 := h) (w0 := w) hX hpl hcal c hrd (Nat.le_refl _) htr (fun a' w' hp => hQ _ _ _ hp) ops.size _ φ { tr := h.tr, nxt := h.nxt + l.length } a _ (by simp) (by simp) ?_
    have hnd : ∀ i, ¬ done (Array.replicate ops.size false) i := by
      intro i hi
      unfold done at hi
      rw [Array.getElem?_replicate] at hi
      split at hi <;> cases hi
    refine ⟨⟨[], L, _, rfl, (fun _ h => by cases h), fun ev _ _ => hnd _, List.mem_cons_self .., htr, fun _ _ h => h, fun ev _ hS => (hnd _ hS).elim, fun ev hev id o hal => ?_, rfl⟩, hlt, hR1, ?_, fun i _ _ => hnone i, fun ev _ hS => (hnd _ hS).elim, fun t _ => hI.fr t, hI.sz, hI.df, fun i hS => (hnd _ hS).elim⟩
    · have := (trace_al htr ev hev).1 id o hal
      cases hgx : ({ tr := h.tr, nxt := h.nxt + l.length } : Hp).get id with
      | none => rfl
      | some u =>
        obtain ⟨M, hM, _⟩ := hR1.at_ _ _ hgx
        rw [this, hnone] at hM; cases hM
    · exact ⟨⟨Sub.refl _, rfl, rfl, rfl, Nat.le_refl _, fun _ _ _ => rfl, fun b ⟨id, o, L, k1, k2, k3⟩ => .inl ⟨id, o, L, k1, k2, k3⟩, fun b c el fz _ hc => ⟨c, fz, hc, rfl, fun _ _ => rfl⟩, fun id o L k1 k2 _ => ⟨id, o, L, k1, k2, rfl, Nat.le_refl _, Nat.le_refl _⟩⟩, fun _ _ => rfl, Nat.le_add_right _ _⟩
end
end Ax
