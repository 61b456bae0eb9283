/- Names are read and compared, walked; the conditions stand in each statement. -/
import Derived.Test.YtcbogemnimpkcaaGreatDoorAxE
import Derived.DeepKeys
import Derived.Deep.MidRow
import Derived.Deep.QuietTactic
import Derived.BigQuiet
import Derived.LoopTactic
import Derived.WalkKit
import Derived.WalkLawsBesides
import Derived.WalkSpells
import Derived.Outline
import Derived.Lib.Hide
import Derived.Lib.Builder
import Derived.Below
import Derived.Deep.Heap
import Derived.Test.YtcbogemnimpkcaaGreatDoorProg
set_option linter.unusedVariables false
set_option linter.unusedSimpArgs false
set_option linter.unusedSectionVars false
namespace Mg
open Go Go.Proofs Go.RowKit Ax

abbrev TI := 27
theorem encL (x : B32) : (encB x).length = 32 := by unfold encB; rw [List.length_map, x.len]
theorem extI {x y : B32} (h : x.l = y.l) : x = y := by cases x; cases y; cases h; rfl
noncomputable def idV (x : B32) : Value := .agg (encB x).toArray
/-- A name's cells lie at an address. -/
def IdAt (p : Addr) (x : B32) (w : World) : Prop := ∀ (j : Nat) (v : Value), (encB x)[j]? = some v → w.cell? (p.add j) = some v
theorem uI : Tryz.prog.underlying TI = some (.array 32 5) := by kernel_rfl
theorem iI : (Tryz.prog.info? TI).map (·.size) = some 32 := by kernel_rfl
theorem loadVar_id {w : World} {p : Addr} {x : B32} (h : IdAt p x w) : (loadVar TI p).run Tryz.prog w = .ok (idV x) w := by
  have hl : (loadCells p (encB x).length).run Tryz.prog w = .ok (encB x).toArray w := run_loadCells_list (P := Tryz.prog) w p (encB x) (fun j v hv => h j v hv)
  have hi := iI
  cases hq : Tryz.prog.info? TI with
  | none => rw [hq] at hi; cases hi
  | some i =>
    have hs : i.size = (encB x).length := by rw [encL]; simpa [hq] using hi
    have hagg : (isAgg TI).run Tryz.prog w = .ok true w := by
      unfold isAgg
      rw [Sem.run_bind, run_underlying uI w]
      rfl
    unfold idV
    rw [encL] at hs
    rw [encL] at hl
    simp [loadVar, Sem.run_bind, hagg, Go.sizeOf, typeInfo, hq, hs, hl]
theorem load_id {w : World} {p : Addr} {x : B32} (h : IdAt p x w) : (Instr.loadAt TI (.pointer (some p))).run Tryz.prog w = .ok (idV x) w := by
  simp only [Instr.loadAt, Instr.sureAddr, Sem.run_bind, Sem.run_pure, Result.andThen_ok, loadVar_id h]
theorem lits_B (D : Nat) (x : B32) : Tryz.prog.keyLits (D + 2) TI (encB x) = some (x.l.map fun n => Lit.int .u8 (Int.ofNat n)) := by
  rw [Program.keyLits.eq_def]
  simp only [uI]
  have hc : Tryz.prog.cellsOf TI = 32 := by kernel_rfl
  have h1 : Tryz.prog.cellsOf 5 = 1 := by kernel_rfl
  rw [if_pos (by rw [encL, hc]), h1]
  have key : (List.range 32).mapM (fun i => Tryz.prog.keyLits (D + 1) 5 (((encB x).drop (i * 1)).take 1)) = some ((List.range 32).map fun i => [Lit.int .u8 (Int.ofNat (x.l.getD i 0))]) := by
    have h0 : (List.range 32).mapM (fun i => (some [Lit.int .u8 (Int.ofNat (x.l.getD i 0))] : Option (List Lit))) = some ((List.range 32).map fun i => [Lit.int .u8 (Int.ofNat (x.l.getD i 0))]) := List.mapM_pure ..
    refine mapM_carry h0 (fun i y hi _ hy => ?_)
    have hi' : i < x.l.length := by rw [x.len]; exact List.mem_range.1 hi
    have hd : ((encB x).drop (i * 1)).take 1 = [bV x.l[i]] := by
      rw [Nat.mul_one, List.drop_eq_getElem_cons (by rw [encL, ← x.len]; exact hi')]
      simp [encB]
    rw [hd, ← hy, Program.keyLits.eq_def]
    have hu : Tryz.prog.underlying 5 = some (.int .u8) := by kernel_rfl
    have hlt := x.lt _ (List.getElem_mem hi')
    simp only [hu, bV]
    rw [if_pos ⟨trivial, by simp [Lit.wf, IntKind.min, IntKind.max, IntKind.signed, IntKind.bits]; omega⟩]
    simp [List.getD_eq_getElem?_getD, hi']
  rw [key]
  simp only [Option.map_some, Option.some.injEq]
  have hf : ∀ q : List Nat, ((q.map fun i => [Lit.int .u8 (Int.ofNat (x.l.getD i 0))]).flatten) = q.map fun i => Lit.int .u8 (Int.ofNat (x.l.getD i 0)) := by
    intro q
    induction q with
    | nil => rfl
    | cons a q ih => rw [List.map_cons, List.map_cons, List.flatten_cons, ih]; rfl
  rw [hf]
  apply List.ext_getElem?
  intro i
  by_cases hi : i < 32
  · have hi' : i < x.l.length := by rw [x.len]; exact hi
    simp [hi, hi', List.getD_eq_getElem?_getD]
  · have hi' : ¬ i < x.l.length := by rw [x.len]; exact hi
    rw [List.getElem?_eq_none (by simp; omega), List.getElem?_eq_none (by simp; omega)]
theorem formed_id (x : B32) : Value.formed Tryz.prog TI (idV x) = true := by
  unfold Value.formed idV
  simp only [uI]
  have hc : Tryz.prog.cellsOf TI = 32 := by kernel_rfl
  rw [hc]
  simp [encL]
def eqB (x y : B32) : Bool := decide (x.l = y.l)
theorem eq_id (x y : B32) (w : World) : (Op.equalIn 10000 TI (idV x) (idV y)).run Tryz.prog w = .ok (eqB x y) w := by
  obtain ⟨r, h1, h2⟩ := run_equalIn_deep (P := Tryz.prog) 9998 2 TI (by kernel_rfl) w (0 + 2) (0 + 2) (idV x) (idV y) _ _ (formed_id x) (formed_id y) (by show Tryz.prog.keyLits _ _ (encB x).toArray.toList = _; exact lits_B 0 x) (by show Tryz.prog.keyLits _ _ (encB y).toArray.toList = _; exact lits_B 0 y)
  simp only [Nat.reduceAdd] at h1
  refine h1.trans (congrArg (fun b => Result.ok b w) ?_)
  unfold eqB
  rw [Bool.eq_iff_iff, h2, decide_eq_true_eq]
  constructor
  · intro h
    have := congrArg (List.map fun l => match l with | Lit.int _ n => n.toNat | _ => 0) h
    simpa [List.map_map, Function.comp_def] using this
  · intro h; rw [h]
section
variable {ops : Array Oper} {o : Oper} {rest : List Oper} {a : Act} {w : World}
/-- A name is loaded where nothing is written. -/
theorem quiet_load {C : World → Prop} {Q : Act → Prop} (hg : o.guard = none) (x : Operand) (ho : o.op = .load TI x) (p : Addr) (hx : a.eval x = .pointer (some p)) (y : B32) (h : ∀ w, C w → IdAt p y w)
    (hn : wpQuiet Tryz.prog ops C Q rest (a.put o.dst (idV y))) : wpQuiet Tryz.prog ops C Q (o :: rest) a := by
  refine wpQuiet_step (fun K hK => ?_)
  have hw : Region.wanted o (yielded ops a.tmps) = true := by simp [Region.wanted, hg]
  rw [if_pos hw]
  refine ⟨idV y, fun w hC => ?_, hK _ hn⟩
  unfold Oper.quietAt execOp
  simp only [ho, hx, load_id (h w hC), Sem.run_bind, Result.andThen_ok, Sem.run_pure, Oper.quietUpon]
  exact ⟨trivial, trivial⟩
/-- A name is loaded. -/
theorem list_load {Q : Exit → Act → World → Prop} (hg : o.guard = none) (x : Operand) (ho : o.op = .load TI x) (p : Addr) (hx : a.eval x = .pointer (some p)) (y : B32) (h : IdAt p y w)
    (hn : wpList Tryz.prog ops Q rest (a.put o.dst (idV y)) w) : wpList Tryz.prog ops Q (o :: rest) a w :=
  wpList_plain hg fun K hK => by
    unfold Oper.wp execOp
    simp only [ho, hx, load_id h, Sem.run_bind, Result.andThen_ok, Sem.run_pure]
    exact hK _ _ hn
end
end Mg
namespace Mg
open Go Go.Proofs Go.RowKit Ax

/-- A slice of names that may be read. -/
def RdI (v : Value) (l : List B32) (w : World) : Prop :=
  ∃ ao cap, v = .slice ao l.length cap ∧ l.length ≤ cap ∧ cap ≤ maxLen ∧ (l = [] ∨ ∃ a, ao = some a ∧ a.block < w.heap.size ∧ ∀ (k : Nat) (hk : k < l.length), IdAt (a.add (k * 32)) l[k] w)
theorem IdAt.below {p : Addr} {x : B32} {w w' : World} (h : IdAt p x w) (hb : Below w.heap.size w w') (hp : p.block < w.heap.size) : IdAt p x w' := fun j v hv => by
  rw [hb.cell (by have : (p.add j).block = p.block := by unfold Addr.add; split <;> rfl
                  rw [this]; exact hp)]
  exact h j v hv
theorem blk_add (p : Addr) (j : Nat) : (p.add j).block = p.block := by unfold Addr.add; split <;> rfl
theorem RdI.below {v : Value} {l : List B32} {w w' : World} (h : RdI v l w) (hb : Below w.heap.size w w') : RdI v l w' := by
  obtain ⟨ao, cap, h1, h2, h3, h4⟩ := h
  refine ⟨ao, cap, h1, h2, h3, h4.imp id ?_⟩
  rintro ⟨a, rfl, ha, hc⟩
  exact ⟨a, rfl, Nat.lt_of_lt_of_le ha hb.size, fun k hk => (hc k hk).below hb (by rw [blk_add]; exact ha)⟩
theorem IdAt.box {w : World} {g : Nat} {x : B32} {T : TypeId} (h : w.heap[g]? = some (.cells (encB x).toArray T (0, 0))) : IdAt ⟨g, 0, none⟩ x w := fun j v hv => by
  have e : (⟨g, 0, none⟩ : Addr).add j = ⟨g, j, none⟩ := by unfold Addr.add; split <;> simp_all
  rw [e, Lib.cell_of_heap h]
  simpa using hv
/-- Is a name among some? -/
def hasI (l : List B32) (x : B32) : Bool := l.any fun y => eqB y x
theorem eqB_iff {x y : B32} : eqB x y = true ↔ x = y := by
  unfold eqB
  rw [decide_eq_true_eq]
  exact ⟨extI, fun h => by rw [h]⟩
theorem hasI_iff {l : List B32} {x : B32} : hasI l x = true ↔ x ∈ l := by
  unfold hasI
  rw [List.any_eq_true]
  constructor
  · rintro ⟨y, hy, he⟩; rw [eqB_iff] at he; rw [← he]; exact hy
  · intro h; exact ⟨x, h, eqB_iff.2 rfl⟩
theorem _root_.Go.RowKit.Below.drewNm {B : Nat} {a w : World} (h : Below B a w) {n : Nat} : Below B a (w.drewN n) := ⟨h.os, h.tape, h.output, h.size, h.block⟩
theorem RdI.drewN {v : Value} {l : List B32} {w : World} (h : RdI v l w) (n : Nat) : RdI v l (w.drewN n) := h

set_option maxRecDepth 100000 in
set_option maxHeartbeats 1000000 in
theorem has_any (v : Value) (l : List B32) (x : B32) (w : World) (h : RdI v l w) :
    Calls Tryz.prog 7 #[v, idV x] w fun e w' => e = .returned (.bool (hasI l x)) ∧ Below w.heap.size w w' := by
  obtain ⟨ao, cap, rfl, hlc, hmax, hao⟩ := h
  unfold maxLen at hmax
  have HAO := Lib.hid hao
  clear hao
  have hb0 := Deep.blk_alloc_new w (.cells (encB x).toArray TI)
  have hbl : Below w.heap.size w (w.alloc (.cells (encB x).toArray TI)) := (Below.refl _ _).alloc (Nat.le_refl _) _
  have hbox := IdAt.box hb0
  unfold idV
  go_enter Tryz.func7, Tryz.ntmps7
  go_wp2
  generalize w.alloc (.cells (encB x).toArray TI) = W at *
  go_loopw [5] (fun i wr => ∃ k n : Nat, k ≤ l.length ∧ i = .int .i64 k ∧ wr = W.drewN n ∧ hasI (l.take k) x = false) (fun i _ => l.length - (intOf i).toNat)
  case atStart => exact ⟨0, 0, Nat.zero_le _, rfl, rfl, rfl⟩
  case round =>
    obtain ⟨k, n, hk, rfl, rfl, hno⟩ := hrel
    by_cases hlt : k < l.length
    · obtain ⟨a, rfl, ha, hc⟩ := HAO.out.resolve_left (by rintro rfl; simp at hlt)
      have hk' := (hc k hlt).below hbl (by rw [blk_add]; exact ha)
      have hT : Hid (hasI (l.take (k + 1)) x = (hasI (l.take k) x || eqB l[k] x)) := Lib.hid (by unfold hasI; rw [List.take_succ_eq_append_getElem hlt, List.any_append]; simp)
      have hin : Hid (eqB l[k] x = true → hasI l x = true) := Lib.hid (fun h => hasI_iff.2 (by rw [← eqB_iff.1 h]; exact List.getElem_mem hlt))
      clear hc
      generalize l[k] = y at *
      have q3 : ∀ w, (Op.equalIn 10000 TI (idV y) (idV x)).run Tryz.prog w = .ok (eqB y x) w := eq_id y x
      unfold idV at q3
      by_cases he : eqB y x = true
      · rw [he] at q3
        go_wp2
        refine wp_region_quiet_lit (by kernel_rfl) (by kernel_rfl) ?_
        repeat (quiet_step (fail))
        refine quiet_load rfl (.tmp 14) rfl (a.add (k * 32)) (by rfl) y (fun w hw => by obtain ⟨m, rfl⟩ := hw; exact hk') ?_
        refine quiet_load rfl (.tmp 3) rfl ⟨w.heap.size, 0, none⟩ (by rfl) x (fun w hw => by obtain ⟨m, rfl⟩ := hw; exact hbox) ?_
        unfold idV
        repeat (quiet_step (fail))
        refine wpQuiet_nil ?_
        rintro _ ⟨nq, rfl⟩
        go_wp2
        go_ret
        exact ⟨by rw [hin.out he]; rfl, hbl.drewNm.drewNm⟩
      · have he' : eqB y x = false := by simpa using he
        rw [he'] at q3
        go_wp2
        refine wp_region_quiet_lit (by kernel_rfl) (by kernel_rfl) ?_
        repeat (quiet_step (fail))
        refine quiet_load rfl (.tmp 14) rfl (a.add (k * 32)) (by rfl) y (fun w hw => by obtain ⟨m, rfl⟩ := hw; exact hk') ?_
        refine quiet_load rfl (.tmp 3) rfl ⟨w.heap.size, 0, none⟩ (by rfl) x (fun w hw => by obtain ⟨m, rfl⟩ := hw; exact hbox) ?_
        unfold idV
        repeat (quiet_step (fail))
        refine wpQuiet_nil ?_
        rintro _ ⟨nq, rfl⟩
        go_wp2
        go_roundw
        case rel => exact ⟨k + 1, n + nq, by omega, by go_num, by first | rfl | rw [World.drewN_drewN], by rw [hT.out, hno, he']; rfl⟩
        case measure => simp [intOf]; omega
    · obtain rfl : k = l.length := by omega
      rw [List.take_length] at hno
      go_wp2
      go_ret
      rw [hno]
      exact ⟨rfl, hbl.drewNm⟩
end Mg
namespace Mg
open Go Go.Proofs Go.RowKit Ax

def eqI (a b : List B32) : Bool := decide (a.map (·.l) = b.map (·.l))
theorem eqI_iff {a b : List B32} : eqI a b = true ↔ a = b := by
  unfold eqI
  rw [decide_eq_true_eq]
  constructor
  · intro h
    have hi : Function.Injective (fun x : B32 => x.l) := fun x y h => extI h
    exact List.map_inj_right (fun x y h => hi h) |>.1 h
  · intro h; rw [h]

set_option maxRecDepth 100000 in
set_option maxHeartbeats 1000000 in
theorem eq_any (u v : Value) (a b : List B32) (w : World) (ha : RdI u a w) (hb : RdI v b w) :
    Calls Tryz.prog 8 #[u, v] w fun e w' => e = .returned (.bool (eqI a b)) ∧ ∃ n, w' = w.drewN n := by
  obtain ⟨ao, cap, rfl, hlc, hmax, hao⟩ := ha
  obtain ⟨bo, cbp, rfl, hlc', hmax', hbo⟩ := hb
  unfold maxLen at hmax hmax'
  have HAO := Lib.hid hao
  have HBO := Lib.hid hbo
  clear hao hbo
  by_cases hl : a.length = b.length
  · have hL := Lib.hid hl
    rw [← hl] at hlc' ⊢
    clear hl
    go_enter Tryz.func8, Tryz.ntmps8
    go_wp2
    go_loopw [5] (fun i wr => ∃ k n : Nat, k ≤ a.length ∧ i = .int .i64 k ∧ wr = w.drewN n ∧ a.take k = b.take k) (fun i _ => a.length - (intOf i).toNat)
    case atStart => exact ⟨0, 0, Nat.zero_le _, rfl, rfl, rfl⟩
    case round =>
      obtain ⟨k, n, hk, rfl, rfl, hno⟩ := hrel
      by_cases hlt : k < a.length
      · have hlt' : k < b.length := by rw [← hL.out]; exact hlt
        obtain ⟨p, rfl, hp, hc⟩ := HAO.out.resolve_left (by rintro rfl; simp at hlt)
        obtain ⟨q, rfl, hq, hd⟩ := HBO.out.resolve_left (by rintro rfl; simp at hlt')
        have hk1 := hc k hlt
        have hk2 := hd k hlt'
        have hT : Hid (eqB a[k] b[k] = true → a.take (k + 1) = b.take (k + 1)) := Lib.hid (fun h => by rw [List.take_succ_eq_append_getElem hlt, List.take_succ_eq_append_getElem hlt', hno, eqB_iff.1 h])
        have hF : Hid (eqB a[k] b[k] = false → eqI a b = false) := Lib.hid (fun h => by
          cases he : eqI a b
          · rfl
          · have := eqI_iff.1 he
            subst this
            have : eqB a[k] a[k] = true := eqB_iff.2 rfl
            rw [this] at h; cases h)
        clear hc hd
        generalize a[k] = x at *
        generalize b[k] = y at *
        have q3 : ∀ w, (Op.equalIn 10000 TI (idV x) (idV y)).run Tryz.prog w = .ok (eqB x y) w := eq_id x y
        unfold idV at q3
        by_cases he : eqB x y = true
        · rw [he] at q3
          go_wp2
          refine wp_region_quiet_lit (by kernel_rfl) (by kernel_rfl) ?_
          repeat (quiet_step (fail))
          refine quiet_load rfl (.tmp 19) rfl (p.add (k * 32)) (by rfl) x (fun w hw => by obtain ⟨m, rfl⟩ := hw; exact hk1) ?_
          unfold idV
          repeat (quiet_step (fail))
          refine quiet_load rfl (.tmp 23) rfl (q.add (k * 32)) (by rfl) y (fun w hw => by obtain ⟨m, rfl⟩ := hw; exact hk2) ?_
          unfold idV
          repeat (quiet_step (fail))
          refine wpQuiet_nil ?_
          rintro _ ⟨nq, rfl⟩
          go_wp2
          go_roundw
          case rel => exact ⟨k + 1, n + nq, by omega, by go_num, by first | rfl | rw [World.drewN_drewN], hT.out he⟩
          case measure => simp [intOf]; omega
        · have he' : eqB x y = false := by simpa using he
          rw [he'] at q3
          go_wp2
          refine wp_region_quiet_lit (by kernel_rfl) (by kernel_rfl) ?_
          repeat (quiet_step (fail))
          refine quiet_load rfl (.tmp 19) rfl (p.add (k * 32)) (by rfl) x (fun w hw => by obtain ⟨m, rfl⟩ := hw; exact hk1) ?_
          unfold idV
          repeat (quiet_step (fail))
          refine quiet_load rfl (.tmp 23) rfl (q.add (k * 32)) (by rfl) y (fun w hw => by obtain ⟨m, rfl⟩ := hw; exact hk2) ?_
          unfold idV
          repeat (quiet_step (fail))
          refine wpQuiet_nil ?_
          rintro _ ⟨nq, rfl⟩
          go_wp2
          go_ret
          exact ⟨by rw [hF.out he']; rfl, _, by rw [World.drewN_drewN]⟩
      · obtain rfl : k = a.length := by omega
        have hE := eqI_iff.2 (show a = b by have h := hno; rw [List.take_length] at h; rw [h, hL.out, List.take_length])
        go_wp2
        go_ret
        exact ⟨by rw [hE]; rfl, _, rfl⟩
  · have hE : eqI a b = false := by
      cases he : eqI a b
      · rfl
      · exact absurd (congrArg List.length (eqI_iff.1 he)) hl
    have hz : ¬ (a.length : Int) = (b.length : Int) := by omega
    go_enter Tryz.func8, Tryz.ntmps8
    go_wp2
    go_ret
    exact ⟨by rw [hE]; rfl, 0, rfl⟩
end Mg
