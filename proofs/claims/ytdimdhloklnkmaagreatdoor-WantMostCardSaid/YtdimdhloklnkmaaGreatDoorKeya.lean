/- The keys of a map, collected, are its keys, each once, in some order; the conditions stand in each statement. -/
import Derived.RangeFuncSeq
import Derived.RangeFuncGives
import Derived.Sort.MapsRangeIn
import Derived.Sort.KeysCollected
import Derived.WalkKit
import Derived.OwnWalkIn
import Derived.TacticsInMore
import Derived.RegionIn
import Derived.LoopNIn
import Derived.LoopIn
import Derived.Maps.AppendAt
import Derived.Shelf.Abstract
import Derived.DeepKeys4
import Derived.KernelRfl
import Derived.Great.BuildSlice
import Derived.Test.YtdimdhloklnkmaaGreatDoorProg
set_option linter.unusedVariables false
set_option linter.unusedSimpArgs false
set_option linter.unusedSectionVars false
namespace Tzo
open Go Go.Proofs Go.RowKit Go.Maps Go.Sort Go.Shelf

theorem itLaid : laidOutB Tryz.prog = true := by kernel_rfl
theorem itU : Tryz.prog.underlying 46 = some (.array 32 5) := by kernel_rfl
theorem itB : Tryz.prog.underlying 5 = some (.int .u8) := by kernel_rfl
theorem itM : Tryz.prog.underlying 143 = some (.map 46 74) := by kernel_rfl
theorem itS : Tryz.prog.underlying 23 = some (.slice 46) := by kernel_rfl
theorem itWide : (match Tryz.prog.underlying 46 with | some (.array _ _) | some (.struct _) => true | _ => false) = true := by rw [itU]
theorem itRow : Nat.blt 46 Tryz.prog.types.size = true := by kernel_rfl
theorem itRow' : 46 < Tryz.prog.types.size := by have := itRow; rwa [Nat.blt_eq] at this
theorem itKA : Tryz.prog.keyTypeAt 2 46 = true := by kernel_rfl
set_option maxRecDepth 100000 in
theorem itKL : WideMaps.KeyLaw Tryz.prog 46 := deep_law_laid itLaid (m := 2) (by omega) itRow' itKA itWide
theorem itK : Keyed Tryz.prog 46 := Keyed.of_law itKL
theorem itCells : Tryz.prog.cellsOf 46 = 32 := by kernel_rfl
theorem itCellsB : Tryz.prog.cellsOf 5 = 1 := by kernel_rfl

/-- A key: 32 cells. -/
structure Id32 where
  l : List Value
  len : l.length = 32
  one : ∀ u ∈ l, u.oneCell' = true
def encI (x : Id32) : Value := .agg x.l.toArray
theorem encI_inj {x y : Id32} (h : encI x = encI y) : x = y := by
  obtain ⟨a, _, _⟩ := x; obtain ⟨b, _, _⟩ := y
  simp only [encI, Value.agg.injEq] at h
  have : a = b := by simpa using congrArg Array.toList h
  subst this; rfl
def cellsI (xs : List Id32) : List Value := xs.flatMap (·.l)
theorem cellsI_append (xs ys : List Id32) : cellsI (xs ++ ys) = cellsI xs ++ cellsI ys := by simp [cellsI]
theorem cellsI_one (x : Id32) : cellsI [x] = x.l := by simp [cellsI]
theorem cellsI_length : ∀ xs : List Id32, (cellsI xs).length = xs.length * 32
  | [] => rfl
  | x :: xs => by
    have := cellsI_length xs
    simp only [cellsI, List.flatMap_cons, List.length_append, List.length_cons] at this ⊢
    rw [this, x.len]; omega

theorem mapM_mem {α β : Type} {f : α → Option β} : ∀ {l : List α} {ls : List β}, l.mapM f = some ls → ∀ {i : α}, i ∈ l → ∃ y, f i = some y
  | [], _, _, _, h => by cases h
  | a :: l, ls, h, i, hi => by
    simp only [List.mapM_cons, Option.bind_eq_bind, Option.bind_eq_some_iff] at h
    obtain ⟨y, hy, ys, hys, _⟩ := h
    rcases List.mem_cons.1 hi with rfl | hi
    · exact ⟨y, hy⟩
    · exact mapM_mem hys hi

set_option maxRecDepth 100000 in
theorem int_of_lits {d : Nat} {c : Value} {l : List Lit} (h : Tryz.prog.keyLits d 5 [c] = some l) : c.oneCell' = true := by
  cases d with
  | zero => simp [Program.keyLits] at h
  | succ d =>
    rw [Program.keyLits.eq_def] at h
    simp only [itB] at h
    cases c <;> simp at h
    rfl

set_option maxRecDepth 100000 in
/-- What reads as a key is one. -/
theorem keyI {v : Value} {kl : Lit} (h : keyOf Tryz.prog 46 v = some kl) : ∃ (x : Id32) (s : List UInt8), v = encI x ∧ kl = .string s := by
  obtain ⟨xs, L, rfl, h1, rfl⟩ := keyOf_top itWide h
  rw [Program.keyLits.eq_def] at h1
  simp only [itU] at h1
  split at h1
  · rename_i hl
    rw [itCells] at hl
    simp only [Option.map_eq_some_iff] at h1
    obtain ⟨ls, h2, _⟩ := h1
    refine ⟨⟨xs.toList, hl, fun u hu => ?_⟩, _, by simp [encI], rfl⟩
    obtain ⟨i, hi, rfl⟩ := List.getElem_of_mem hu
    rw [itCellsB] at h2
    have hm : i ∈ List.range 32 := List.mem_range.2 (by omega)
    obtain ⟨l, hl2⟩ := mapM_mem h2 hm
    have e : List.take 1 (List.drop (i * 1) xs.toList) = [xs.toList[i]] := by
      rw [Nat.mul_one, List.drop_eq_getElem_cons hi]; rfl
    rw [e] at hl2
    exact int_of_lits hl2
  · cases h1

/-- Which string a key reads as. -/
def KeyS (x : Id32) (s : List UInt8) : Prop := keyOf Tryz.prog 46 (encI x) = some (.string s)
/-- Two lists, one beside the other. -/
def Beside {α β : Type} (R : α → β → Prop) : List α → List β → Prop
  | [], [] => True
  | x :: xs, s :: ss => R x s ∧ Beside R xs ss
  | _, _ => False
theorem Beside.snoc {α β : Type} {R : α → β → Prop} : ∀ {xs : List α} {ss : List β} {x : α} {s : β}, Beside R xs ss → R x s → Beside R (xs ++ [x]) (ss ++ [s])
  | [], [], _, _, _, h => ⟨h, trivial⟩
  | _ :: _, _ :: _, _, _, h, k => ⟨h.1, Beside.snoc h.2 k⟩
  | [], _ :: _, _, _, h, _ => h.elim
  | _ :: _, [], _, _, h, _ => h.elim
theorem Beside.length {α β : Type} {R : α → β → Prop} : ∀ {xs : List α} {ss : List β}, Beside R xs ss → xs.length = ss.length
  | [], [], _ => rfl
  | _ :: _, _ :: _, h => by simp [Beside.length h.2]
  | [], _ :: _, h => h.elim
  | _ :: _, [], h => h.elim
theorem Beside.map {α β γ : Type} {R : α → β → Prop} {f : α → γ} {g : β → γ} (hf : ∀ x s, R x s → f x = g s) : ∀ {xs : List α} {ss : List β}, Beside R xs ss → xs.map f = ss.map g
  | [], [], _ => rfl
  | x :: xs, s :: ss, h => by
    rw [List.map_cons, List.map_cons, hf x s h.1, Beside.map hf h.2]
  | [], _ :: _, h => h.elim
  | _ :: _, [], h => h.elim

/-- What was collected: all keys, each once, in some order. -/
def AllKeys {H : Type} (D0 : DataW H) (xs : List Id32) : Prop := ∃ ss : List (List UInt8), ss.Perm (strKeys D0) ∧ Beside KeyS xs ss

set_option maxRecDepth 100000 in
theorem collected_perm {H : Type} {D0 : DataW H} {left : Lit → Bool} {ss : List (List UInt8)} {R : Value → Option (DataW H × List MemPlace)} {w : World} {b n : Nat} (h : Collected D0 left ss) (hown : w.ownsMap Tryz.prog 46 R b n D0) (hl : ∀ kl, left kl = false) : ss.Perm (strKeys D0) := by
  obtain ⟨es, hD, hpw, _⟩ := hown.entries itK
  obtain ⟨es', hD', hko⟩ := hown.keysOf
  obtain rfl : es = es' := by rw [hD] at hD'; simpa using hD'
  subst hD
  exact perm_strKeys hpw (fun p hp => by obtain ⟨v, hv⟩ := hko p hp; obtain ⟨_, s, _, hs⟩ := keyI hv; exact ⟨s, hs⟩) h.1 (fun x => by rw [h.2 x, hl]; simp)

theorem itInfo : (Tryz.prog.info? 46).map (fun i => (i.zero, i.size, i.bytes)) = some (some (.agg (Array.replicate 32 (.int .u8 0))), 32, 32) := by kernel_rfl

set_option maxRecDepth 100000 in
/-- A fresh array; what is stored into it; what is loaded from it. -/
theorem itAlloc {F : Fence} {n : Nat} {ops : Array Oper} {rest : List Oper} {o : Oper} {a : Act} {Q : Exit → Act → World → Prop} (w : World) (hg : o.guard = none) (ho : o.op = .alloc 46)
    (h : wpListIn F n Tryz.prog ops Q rest (a.put o.dst (.pointer (some ⟨w.heap.size, 0, none⟩))) (w.alloc (.cells (Array.replicate 32 (.int .u8 0)) 46))) : wpListIn F n Tryz.prog ops Q (o :: rest) a w := by
  obtain ⟨ie, hie, hz, hs, _⟩ := info_parts itInfo
  refine wpListIn_plain hg fun K' hK' => ?_
  unfold Oper.wpIn
  refine ⟨by simp [Oper.about, ho], ?_⟩
  rw [Oper.semAt_plain F _ _ (by rw [ho]; intro c hc'; cases hc')]
  have hr : (execOp a.eval o).run Tryz.prog w = .ok (.value (.pointer (some ⟨w.heap.size, 0, none⟩))) (w.alloc (.cells (Array.replicate 32 (.int .u8 0)) 46)) := by
    simp [execOp, ho, Instr.alloc, zeroValue, typeInfo, hie, hz, Value.cells, newRow, newVar]
  rw [hr]
  exact hK' _ _ h
theorem alloc_setRow (w : World) (zs cs : Array Value) (t : TypeId) : (w.alloc (.cells zs t)).setRow w.heap.size cs = w.alloc (.cells cs t) := by
  unfold World.setRow World.alloc
  congr 1
  refine Array.ext_getElem? fun i => ?_
  simp only [Array.getElem?_modify, Array.getElem?_push]
  by_cases h : i = w.heap.size
  · subst h; simp
  · simp [h, Ne.symm h]
set_option maxRecDepth 100000 in
theorem itStore {F : Fence} {n : Nat} {ops : Array Oper} {rest : List Oper} {o : Oper} {a : Act} {Q : Exit → Act → World → Prop} (w : World) (hg : o.guard = none) (x y : Operand) (ho : o.op = .store 46 x y)
    (v : Id32) (hx : a.eval x = .pointer (some ⟨w.heap.size, 0, none⟩)) (hy : a.eval y = encI v)
    (h : wpListIn F n Tryz.prog ops Q rest (a.put o.dst undef) (w.alloc (.cells v.l.toArray 46))) : wpListIn F n Tryz.prog ops Q (o :: rest) a (w.alloc (.cells (Array.replicate 32 (.int .u8 0)) 46)) := by
  obtain ⟨ie, hie, hz, hs, _⟩ := info_parts itInfo
  refine wpListIn_plain hg fun K' hK' => ?_
  unfold Oper.wpIn
  refine ⟨by simp [Oper.about, ho], ?_⟩
  rw [Oper.semAt_plain F _ _ (by rw [ho]; intro c hc'; cases hc')]
  have hst := run_storeVar_row (P := Tryz.prog) (w.alloc (.cells (Array.replicate 32 (.int .u8 0)) 46)) w.heap.size 46 46 _ v.l.toArray (World.alloc_heap_new w _) (by rw [hie, Option.map_some, hs]; simp [v.len]) (by simp [v.len]) (by rw [Array.all_eq_true_iff_forall_mem]; intro u hu; exact v.one u (by simpa using hu))
  rw [alloc_setRow] at hst
  unfold execOp
  simp only [ho, hx, hy, encI, Instr.storeAt, Instr.sureAddr, Sem.run_bind, Sem.run_pure, Result.andThen_ok, hst]
  exact hK' _ _ h
set_option maxRecDepth 100000 in
theorem itLoad {F : Fence} {n : Nat} {ops : Array Oper} {rest : List Oper} {o : Oper} {a : Act} {Q : Exit → Act → World → Prop} (w : World) (hg : o.guard = none) (x : Operand) (ho : o.op = .load 46 x)
    (v : Id32) (kv : Value) (hkv : encI v = kv) (g : Nat) (hx : a.eval x = .pointer (some ⟨g, 0, none⟩)) (hc : w.heap[g]? = some (.cells v.l.toArray 46 (0, 0)))
    (h : wpListIn F n Tryz.prog ops Q rest (a.put o.dst kv) w) : wpListIn F n Tryz.prog ops Q (o :: rest) a w := by
  obtain ⟨ie, hie, hz, hs, _⟩ := info_parts itInfo
  refine wpListIn_plain hg fun K' hK' => ?_
  unfold Oper.wpIn
  refine ⟨by simp [Oper.about, ho], ?_⟩
  rw [Oper.semAt_plain F _ _ (by rw [ho]; intro c hc'; cases hc')]
  have hl := run_loadVar_row (P := Tryz.prog) w g 46 46 v.l.toArray (0, 0) _ hc itU rfl (by rw [hie, Option.map_some, hs]; simp [v.len])
  subst hkv
  unfold execOp
  simp only [ho, hx, Instr.loadAt, Instr.sureAddr, Sem.run_bind, Sem.run_pure, Result.andThen_ok, hl]
  exact hK' _ _ h

theorem grown_alloc (w : World) (o : Obj) : w.grownBy (w.alloc o) none := ⟨rfl, rfl, rfl, by simp, fun k hk _ => Below.heap_alloc _ _ k hk⟩

set_option maxRecDepth 100000 in
set_option maxHeartbeats 1000000 in
theorem keys1N_in {H : Type} (F : Fence) (n : Nat) (h10 : F.fn 193) (hro : F.round = none) (hn : 1 ≤ n) (l Bm of b nn : Nat) (D0 : DataW H) {R : Value → Option (DataW H × List MemPlace)} (J : List Id32 → World → Prop)
    (hY : ∀ pre x W, J pre W → pre.length < Maps.size D0 → YieldAt F (n - 1) Tryz.prog l #[encI x] W fun e W' => e = .returned (.bool true) ∧ J (pre ++ [x]) W' ∧ KeepsWalks W W')
    (W : World) (hJ : AbidesFrom W.heap.size J) (hm : W.cell? ⟨Bm, of, none⟩ = some (.map (some b))) (hown : W.ownsMap Tryz.prog 46 R b nn D0) (h0 : J [] W) :
    CallsIn F n Tryz.prog 193 #[.func (.yield l) #[] #[], .pointer (some ⟨Bm, of, none⟩)] W fun e W' => (∃ v, e = .returned v) ∧ ∃ xs : List Id32, AllKeys D0 xs ∧ J xs W' := by
  refine callsIn_of_wp Tryz.func193 rfl h10 ?_ hro
  simp only [Tryz.ntmps193, List.size_toArray, List.length_cons, List.length_nil, Nat.reduceAdd, Nat.reduceSub, Array.replicate_succ, Array.replicate_zero, List.push_toArray, List.append_toArray, List.nil_append, List.cons_append]
  gi_wp2_with (first
    | (gi_at_range; refine wpListIn_range_own _ rfl _ 143 rfl 46 74 itK itM _ b nn _ rfl hown ?_; intro w0 hrg0 hg0 hs0)
    | gi_in)
  go_frame
  gi_loopw [3] (fun _ wr => ∃ (left : Lit → Bool) (cnt : Nat) (ss : List (List UInt8)) (xs : List Id32), wr.ranges Tryz.prog 46 R b W.heap.size nn D0 left cnt ∧ ss.length + cnt ≤ Maps.size D0 ∧ Collected D0 left ss ∧ Beside KeyS xs ss ∧ J xs wr)
    (fun _ wr => wr.rangeLeft b W.heap.size)
  case atStart =>
    exact ⟨_, _, [], [], hrg0, by simp, Collected.start D0, trivial, hJ [] W w0 none h0 hg0 (fun r e => by cases e)⟩
  case round =>
    obtain ⟨left, cnt, ss, xs, hrg, hcs, hC, hXS, hJs⟩ := hrel
    gi_wp2_with (first
      | (gi_at_next; refine wpListIn_next_ranges _ rfl _ rfl 46 itK R encI id (fun key kl hk => by obtain ⟨x, _, hx, _⟩ := keyI hk; exact ⟨x, hx⟩) (fun v _ _ => ⟨v, rfl⟩) b W.heap.size nn _ _ _ rfl hrg ?_ ?_)
      | gi_in)
    · -- nothing is left
      intro hc0 hl0
      gi_wp2
      go_end0
      exact ⟨⟨_, rfl⟩, xs, ⟨ss, collected_perm hC hown hl0, hXS⟩, hJs⟩
    · -- an entry has come
      intro x c kl yd yp w2 cnt2 hkey hlk hv hat hrg2 hlt hg2 hs2 hen
      obtain ⟨_, s, _, rfl⟩ := keyI hkey
      have hJ1 : J xs w2 := hJ xs wr w2 (some W.heap.size) hJs hg2 (fun r e => by cases e; exact ⟨Nat.le_refl _, hrg.iter_walk⟩)
      have hJ2 : J xs (w2.alloc (.cells x.l.toArray 46)) := hJ xs w2 _ none hJ1 (grown_alloc _ _) (fun r e => by cases e)
      have hxl := hXS.length
      obtain ⟨fn, tmps, assign, body, hy, hR⟩ := hY xs x _ hJ2 (by omega)
      clear hs2
      generalize hkx : encI x = kx at hen hy
      gi_wp2_with (first
        | (refine itAlloc _ rfl rfl ?_; go_frame)
        | (refine itStore w2 rfl _ _ rfl x rfl hkx.symm ?_; go_frame)
        | (refine itLoad _ rfl _ rfl x kx hkx w2.heap.size rfl (World.alloc_heap_new w2 _) ?_; go_frame)
        | gi_in)
      refine hR.mono ?_
      rintro e W3 ⟨rfl, hJ3, hk3⟩
      gi_wp2
      have hrg3 := (hrg2.of_walks (KeepsWalks.alloc w2 _)).of_walks hk3
      go_roundw
      case rel => exact ⟨_, cnt2, ss ++ [s], xs ++ [x], hrg3, by simp; omega, hC.step hlk hat, hXS.snoc hkey, hJ3⟩
      case measure => rw [hrg3.left_eq, hrg.left_eq]; exact hlt

theorem keys_gives {H : Type} (F : Fence) (n : Nat) (h10 : F.fn 193) (hro : F.round = none) (hn : 1 ≤ n) (Bm of b nn : Nat) (D0 : DataW H) {R : Value → Option (DataW H × List MemPlace)} (w : World) (hBm : Bm < w.heap.size)
    (hm : w.cell? ⟨Bm, of, none⟩ = some (.map (some b))) (hown : w.ownsMap Tryz.prog 46 R b nn D0) :
    SeqGives F n Tryz.prog 193 #[.pointer (some ⟨Bm, of, none⟩)] encI (fun xs => AllKeys D0 xs) (Maps.size D0) w := fun l J W hW hJ hY h0 => by
  have hown' : W.ownsMap Tryz.prog 46 R b nn D0 := by
    have hbl := hown.lt
    obtain ⟨es, clock, hb, Ft, hs, hD⟩ := hown
    exact ⟨es, clock, (hW.block b hbl).trans hb, Ft, hs, hD⟩
  exact keys1N_in F n h10 hro hn l Bm of b nn D0 J hY W hJ ((hW.cell (p := ⟨Bm, of, none⟩) hBm).trans hm) hown' h0

/-! ### slices.AppendSeq(nil, seq), whatever the iterator -/

theorem cells_new (w : World) (l : List Value) (e : TypeId) : ∀ j u, l[j]? = some u → (w.alloc (.cells l.toArray e)).cell? ((⟨w.heap.size, 0, none⟩ : Addr).add j) = some u := by
  intro j u h
  have h0 := World.alloc_heap_new w (.cells l.toArray e)
  have hadd : (⟨w.heap.size, 0, none⟩ : Addr).add j = ⟨w.heap.size, j, none⟩ := by unfold Addr.add; split <;> simp_all
  rw [hadd]
  simp only [World.cell?, h0, Option.isSome_none, Bool.false_eq_true, if_false]
  simpa using h

theorem abides_row {W W' : World} {row : Option Nat} {base : Nat} {e : TypeId} {size : Nat} {v : Value} {k : Nat} {xs : List Value} (h : W.ownsRow base e size v k xs) (hg : W.grownBy W' row)
    (hrow : ∀ r, row = some r → ∃ o : Obj, W.heap[r]? = some o ∧ o.isWalk = true) : W'.ownsRow base e size v k xs := by
  refine h.kept hg ?_
  rcases h.2 with ⟨rfl, _⟩ | ⟨g, cap, cur, rfl, _, hgb, _⟩
  · exact .inl rfl
  · refine .inr fun e' => ?_
    obtain ⟨o, ho, hw⟩ := hrow g (by simpa [Value.ownBlock] using e'.symm)
    rw [hgb] at ho; cases ho; cases hw
theorem grown_putObj (W : World) (l : Nat) (o : Obj) : W.grownBy (W.putObj l o) (some l) :=
  ⟨rfl, rfl, rfl, by simp, fun k _ hk => World.putObj_heap_other (fun e => hk (by rw [e]))⟩
theorem grown_setCell0 (W : World) (b : Nat) (v : Value) : W.grownBy (W.setCell ⟨b, 0, none⟩ v) (some b) :=
  ⟨rfl, rfl, rfl, (KeepsWalks.setCell W _ v).size, fun k _ hk => Below.heap_setCell _ _ _ k (fun e => hk (by rw [e]))⟩
theorem row_ne {W : World} {base : Nat} {e : TypeId} {size : Nat} {v : Value} {k : Nat} {xs : List Value} (h : W.ownsRow base e size v k xs) {j : Nat} {o : Obj} (hj : W.heap[j]? = some o) (hno : ∀ cur, o ≠ .cells cur e (0, 0)) :
    v.ownBlock = none ∨ v.ownBlock ≠ some j := by
  rcases h.2 with ⟨rfl, _⟩ | ⟨g, cap, cur, rfl, _, hgb, _⟩
  · exact .inl rfl
  · refine .inr fun e' => ?_
    have : g = j := by simpa [Value.ownBlock] using e'
    subst this; rw [hgb] at hj; cases hj; exact hno cur rfl
theorem box_cell {W : World} {B : Nat} {v : Value} {t : TypeId} (h : W.heap[B]? = some (.cells #[v] t (0, 0))) : W.cell? ⟨B, 0, none⟩ = some v ∧ W.frozen? ⟨B, 0, none⟩ = false := by
  constructor <;> simp [World.cell?, World.frozen?, h]
theorem box_setCell {W : World} {B : Nat} {v : Value} {t : TypeId} (v' : Value) (h : W.heap[B]? = some (.cells #[v] t (0, 0))) : (W.setCell ⟨B, 0, none⟩ v').heap[B]? = some (.cells #[v'] t (0, 0)) := by
  obtain ⟨hlt, hk⟩ := Array.getElem?_eq_some_iff.1 h
  show (W.heap.modify B _)[B]? = _
  rw [Array.getElem?_eq_getElem (by rw [Array.size_modify]; exact hlt), Array.getElem_modify_self, hk]
  rfl
theorem row_not_walk {W : World} {base : Nat} {e : TypeId} {size : Nat} {v : Value} {k : Nat} {xs : List Value} (h : W.ownsRow base e size v k xs) : ∀ (j : Nat) (o : Obj), v.ownBlock = some j → W.heap[j]? = some o → o.isWalk = false := by
  intro j o hj ho
  rcases h.2 with ⟨rfl, _⟩ | ⟨g, cap, cur, rfl, _, hgb, _⟩
  · simp [Value.ownBlock] at hj
  · have : g = j := by simpa [Value.ownBlock] using hj
    subst this; rw [hgb] at ho; cases ho; rfl


def apAssign : Code := (Code.region 2 #[{ dst := some 5, op := Op.alloc 46, type := 0, pos := "iter.go:51", after := #[], guard := none }, { dst := none, op := Op.store 46 (Operand.tmp 5) (Operand.tmp 7), type := 0, pos := "iter.go:51", after := #[{ on := 0, ground := Ground.data }, { on := 0, ground := Ground.phase }], guard := none }] false)
def apBody : Code := (Code.block 1 (Code.region 3 #[{ dst := some 8, op := Op.load 23 (Operand.tmp 2), type := 23, pos := "iter.go:52", after := #[], guard := none }, { dst := some 9, op := Op.load 46 (Operand.tmp 5), type := 46, pos := "iter.go:52", after := #[], guard := none }, { dst := some 10, op := Op.buildSlice 23 1 #[(0, Operand.tmp 9)], type := 23, pos := "iter.go:52", after := #[{ on := 1, ground := Ground.data }], guard := none }, { dst := some 11, op := Op.call { callee := Callee.builtin Builtin.append, args := #[Operand.tmp 8, Operand.tmp 10], argTypes := #[23, 23] }, type := 23, pos := "iter.go:52", after := #[{ on := 0, ground := Ground.data }, { on := 2, ground := Ground.data }], guard := none }, { dst := none, op := Op.store 23 (Operand.tmp 2) (Operand.tmp 11), type := 0, pos := "iter.go:52", after := #[{ on := 3, ground := Ground.data }, { on := 3, ground := Ground.chain }, { on := 0, ground := Ground.phase }, { on := 1, ground := Ground.phase }, { on := 2, ground := Ground.phase }, { on := 3, ground := Ground.phase }], guard := none }] false))

/-- The loop's record: AppendSeq's temporaries as they stood at the entering: 's' boxed in block Bs; sv: the iterator's value. -/
def apRec (fn : FuncId) (sv : Value) (Bs D : Nat) (st : LoopState) (pend : Option Code) : Loop :=
  { state := st, pending := pend, fn, tmps := #[.slice none 0 0, sv, .pointer (some ⟨Bs, 0, none⟩), undef, .slice none 0 0, undef, sv, undef, undef, undef, undef, undef, undef], params := #[7], assign := apAssign, body := apBody, defers := D }

/-- Between two rounds: the box holds a slice that owns, in a block of the call's own, what has come so far; it is nil just as long as nothing has come; nothing that lay before the call has turned. -/
structure ApAt (w0 : World) (fn : FuncId) (sv : Value) (Bs l D : Nat) (xs : List Id32) (W : World) : Prop where
  box : ∃ v, W.heap[Bs]? = some (.cells #[v] 23 (0, 0)) ∧ W.ownsRow w0.heap.size 46 32 v xs.length (cellsI xs) ∧ (v = .slice none 0 0 ↔ xs = [])
  L : W.heap[l]? = some (.loop (apRec fn sv Bs D .ready none))
  K : W.heap[D]? = some (.deferred (some []))
  below : Below w0.heap.size w0 W

theorem ap_abides (w0 : World) (fn : FuncId) (sv : Value) (Bs l D B : Nat) (hB : w0.heap.size ≤ B) : AbidesFrom B (ApAt w0 fn sv Bs l D) := fun s W W' row h hg hrow => by
  have hrow' : ∀ r, row = some r → ∃ o : Obj, W.heap[r]? = some o ∧ o.isWalk = true := fun r e => (hrow r e).2
  obtain ⟨v, hv, hr, hn⟩ := h.box
  exact ⟨⟨v, (grownBy_keeps hg hrow' hv rfl).trans hv, abides_row hr hg hrow', hn⟩, (grownBy_keeps hg hrow' h.L rfl).trans h.L, (grownBy_keeps hg hrow' h.K rfl).trans h.K,
    h.below.grown hg h.below.size (fun k e => Nat.le_trans hB (hrow k e).1)⟩

set_option maxRecDepth 100000 in
theorem itBuild {F : Fence} {n : Nat} {ops : Array Oper} {rest : List Oper} {o : Oper} {a : Act} {Q : Exit → Act → World → Prop} (w : World) (hg : o.guard = none) (x : Operand) (ho : o.op = .buildSlice 23 1 #[(0, x)])
    (y : Id32) (hx : a.eval x = encI y) (h : wpListIn F n Tryz.prog ops Q rest (a.put o.dst (.slice (some ⟨w.heap.size, 0, none⟩) 1 1)) (w.alloc (.cells y.l.toArray 46))) : wpListIn F n Tryz.prog ops Q (o :: rest) a w := by
  obtain ⟨ie, hie, hz, hs, _⟩ := info_parts itInfo
  refine wpListIn_plain hg fun K' hK' => ?_
  have hlen : y.l.toArray.size = 32 := by simp [y.len]
  have hfill : Instr.fill (fun i => some (i * ie.size, ie.size)) ((Array.range (1 * ie.size)).map ((Value.agg (Array.replicate 32 (.int .u8 0))).cells[· % (Value.agg (Array.replicate 32 (.int .u8 0))).cells.size]!)) (#[(0, a.eval x)] : Array (Nat × Value)).toList = some y.l.toArray := by
    rw [hs]
    obtain ⟨r, h1, h2, h3⟩ := Great.fill_dense (s := 32) (by decide) [a.eval x] 0 ((Array.range (1 * 32)).map ((Value.agg (Array.replicate 32 (.int .u8 0))).cells[· % (Value.agg (Array.replicate 32 (.int .u8 0))).cells.size]!)) (fun v hv => by
      simp only [List.mem_singleton] at hv; subst hv; rw [hx]; exact hlen) (by simp)
    refine h1.trans ?_
    congr 1
    refine Array.ext_getElem? fun k => ?_
    rw [h3 k]
    by_cases hk : k < 32
    · rw [if_pos ⟨by omega, by simpa using hk⟩, Nat.div_eq_of_lt hk, Nat.mod_eq_of_lt hk]
      simp only [Nat.sub_self, List.getElem?_cons_zero, Option.bind_some, hx]
      rfl
    · rw [if_neg (by simp; omega), Array.getElem?_eq_none (by simp; omega), Array.getElem?_eq_none (by omega)]
  unfold Oper.wpIn
  refine ⟨by simp [Oper.about, ho], ?_⟩
  rw [Oper.semAt_plain F _ _ (by rw [ho]; intro c hc'; cases hc')]
  have hr := run_buildSlice (P := Tryz.prog) w 23 46 1 #[(0, a.eval x)] y.l.toArray ie _ itS hie hz (by rw [hs]; decide) (by rw [hs]; decide) hfill
  simp [execOp, ho, hr, Result.andThen]
  exact hK' _ _ h

set_option maxRecDepth 100000 in
set_option maxHeartbeats 2000000 in
theorem apYield (F : Fence) (m : Nat) (w0 : World) (fn : FuncId) (hfn : F.fn fn) (sv : Value) (Bs l D : Nat) (hBl : Bs ≠ l) (hDl : D ≠ l) (hDB : D ≠ Bs) (h0B : w0.heap.size ≤ Bs) (h0l : w0.heap.size ≤ l)
    (N : Nat) (hN : N ≤ maxLen) (hNb : N * 32 ≤ 140737488355328) (xs : List Id32) (x : Id32) (W : World) (h : ApAt w0 fn sv Bs l D xs W) (hlen : xs.length < N) :
    YieldAt F m Tryz.prog l #[encI x] W fun e W' => e = .returned (.bool true) ∧ ApAt w0 fn sv Bs l D (xs ++ [x]) W' ∧ KeepsWalks W W' := by
  obtain ⟨i0, hi, hz0, hz1, hz2⟩ := info_parts itInfo
  have hlW : l < W.heap.size := (Array.getElem?_eq_some_iff.1 h.L).1
  have ha : ApAt w0 fn sv Bs l D xs (W.alloc (.cells x.l.toArray 46)) := ap_abides w0 fn sv Bs l D _ (Nat.le_refl _) xs W _ none h (grown_alloc _ _) (fun r e => by cases e)
  obtain ⟨v, hv, hrow, _⟩ := ha.box
  refine ⟨fn, #[.slice none 0 0, sv, .pointer (some ⟨Bs, 0, none⟩), undef, .slice none 0 0, undef, sv, encI x, undef, undef, undef, undef, undef], apAssign, apBody, by simpa [apRec] using run_yield (P := Tryz.prog) (args := #[encI x]) h.L rfl, roundIn_of_wpIn hfn ?_⟩
  have hxa : (W.alloc (.cells x.l.toArray 46)).heap[W.heap.size]? = some (.cells x.l.toArray 46 (0, 0)) := World.alloc_heap_new W _
  have hl : l < (W.alloc (.cells x.l.toArray 46)).heap.size := (Array.getElem?_eq_some_iff.1 ha.L).1
  have hbr := run_beginRound (P := Tryz.prog) ha.L rfl
  obtain ⟨W2, hW2⟩ : ∃ W2, (W.alloc (.cells x.l.toArray 46)).putObj l (.loop { apRec fn sv Bs D .ready none with state := .busy }) = W2 := ⟨_, rfl⟩
  rw [hW2] at hbr
  have hx2 : W2.heap[W.heap.size]? = some (.cells x.l.toArray 46 (0, 0)) := by rw [← hW2]; exact (World.putObj_heap_other (by omega)).trans hxa
  have hg2 : (W.alloc (.cells x.l.toArray 46)).grownBy W2 (some l) := by rw [← hW2]; exact grown_putObj _ _ _
  have hk2 : KeepsWalks W W2 := by rw [← hW2]; exact (KeepsWalks.alloc W _).trans (KeepsWalks.putObj _ ha.L rfl)
  have hv2 : W2.heap[Bs]? = some (.cells #[v] 23 (0, 0)) := by rw [← hW2]; exact (World.putObj_heap_other hBl).trans hv
  have hK2 : W2.heap[D]? = some (.deferred (some [])) := by rw [← hW2]; exact (World.putObj_heap_other hDl).trans ha.K
  have hL2 : W2.heap[l]? = some (.loop { apRec fn sv Bs D .ready none with state := .busy }) := by rw [← hW2]; exact World.putObj_heap_same hl
  have hrow2 : W2.ownsRow w0.heap.size 46 32 v xs.length (cellsI xs) := hrow.kept hg2 (row_ne hrow ha.L (fun cur e => by cases e))
  have hb2 : Below w0.heap.size w0 W2 := ha.below.grown hg2 ha.below.size (fun k e => by cases e; exact h0l)
  obtain ⟨hc2, hf2⟩ := box_cell hv2
  have hBlt : Bs < W2.heap.size := (Array.getElem?_eq_some_iff.1 hv2).1
  have hl2 : l < W2.heap.size := (Array.getElem?_eq_some_iff.1 hL2).1
  have hDlt : D < W2.heap.size := (Array.getElem?_eq_some_iff.1 hK2).1
  have ne_of : ∀ {j : Nat} {o : Obj}, W2.heap[j]? = some o → (∀ cur, o ≠ .cells cur 46 (0, 0)) → some j ≠ v.ownBlock := fun hj hno => by
    rcases row_ne hrow2 hj hno with e | e
    · rw [e]; simp
    · exact fun e' => e e'.symm
  clear hW2
  generalize hkx : encI x = kx
  unfold apAssign
  gi_wp2_with (first
    | (refine itAlloc _ rfl rfl ?_; go_frame)
    | (refine itStore W rfl (Operand.tmp 5) (Operand.tmp 7) rfl x rfl hkx.symm ?_; go_frame)
    | (rw [Oper.semAt_eq _ _ _ (fun c h => by cases h)]; go_simp; try go_bits))
  generalize hgx : W.heap.size = gx at hx2
  unfold apBody
  gi_wp2_with (first
    | (refine itLoad _ rfl (Operand.tmp 5) rfl x kx hkx gx rfl hx2 ?_; go_frame)
    | (refine itBuild _ rfl (Operand.tmp 9) rfl x hkx.symm ?_; go_frame)
    | (gi_at_builtin; refine wpListIn_append_own _ rfl _ _ 23 rfl w0.heap.size 46 i0 (.agg (Array.replicate 32 (.int .u8 0))) 32 32 itS hi hz0 hz1 hz2 rfl (by decide) _ _ _ rfl (hrow2.alloc _) ⟨W2.heap.size, 0, none⟩ 1 1 x.l rfl x.len (cells_new _ _ _) x.one (by omega) (by omega) (by have := hb2.size; simp; omega) ?_; intro v' w3 hown' hg3 hnil3
       have hv3 : w3.heap[Bs]? = some (.cells #[v] 23 (0, 0)) := (hg3.block Bs (by simp; omega) (ne_of hv2 (fun cur e => by cases e))).trans ((Below.heap_alloc _ _ Bs hBlt).trans hv2)
       obtain ⟨hc3, hf3⟩ := box_cell hv3
       obtain ⟨g', cap', cur', rfl, hb2se', hgb', hr1, hr2, hr3, hr4⟩ : ∃ g' cap' cur', v' = .slice (some ⟨g', 0, none⟩) (xs.length + 1) cap' ∧ w0.heap.size ≤ g' ∧ w3.heap[g']? = some (.cells cur' 46 (0, 0)) ∧ xs.length + 1 ≤ cap' ∧ cap' ≤ maxLen ∧ cur'.size = cap' * 32 ∧ cur'.toList.take ((xs.length + 1) * 32) = cellsI xs ++ x.l := by
         rcases hown'.2 with ⟨_, h0⟩ | h'
         · exact absurd h0 (by omega)
         · exact h'
       go_frame)
    | (rw [Oper.semAt_eq _ _ _ (fun c h => by cases h)]; go_simp; try go_bits))
  have hg3' : (W2.alloc (.cells x.l.toArray 46)).grownBy w3 v.ownBlock := hg3
  have hL3 : w3.heap[l]? = some (.loop { apRec fn sv Bs D .ready none with state := .busy }) := (hg3'.block l (by simp; omega) (ne_of hL2 (fun cur e => by cases e))).trans ((Below.heap_alloc _ _ l hl2).trans hL2)
  have hK3 : w3.heap[D]? = some (.deferred (some [])) := (hg3'.block D (by simp; omega) (ne_of hK2 (fun cur e => by cases e))).trans ((Below.heap_alloc _ _ D hDlt).trans hK2)
  obtain ⟨w4, hw4⟩ : ∃ w4, w3.setCell ⟨Bs, 0, none⟩ (.slice (some ⟨g', 0, none⟩) (xs.length + 1) cap') = w4 := ⟨_, rfl⟩
  rw [hw4]
  have hg4 : w3.grownBy w4 (some Bs) := by rw [← hw4]; exact grown_setCell0 _ _ _
  have hv4 : w4.heap[Bs]? = some (.cells #[.slice (some ⟨g', 0, none⟩) (xs.length + 1) cap'] 23 (0, 0)) := by rw [← hw4]; exact box_setCell _ hv3
  have hL4 : w4.heap[l]? = some (.loop { apRec fn sv Bs D .ready none with state := .busy }) := (hg4.block l (Array.getElem?_eq_some_iff.1 hL3).1 (fun e => hBl (by cases e; rfl))).trans hL3
  have hK4 : w4.heap[D]? = some (.deferred (some [])) := (hg4.block D (Array.getElem?_eq_some_iff.1 hK3).1 (fun e => hDB (by cases e; rfl))).trans hK3
  have hrow4 := hown'.kept hg4 (row_ne hown' hv3 (fun cur e => by cases e))
  have hl4 : l < w4.heap.size := (Array.getElem?_eq_some_iff.1 hL4).1
  have hb3 : Below w0.heap.size w0 w3 := (hb2.alloc hb2.size _).grown hg3' (by have := hb2.size; simp; omega) (fun k e => (hrow2.lt k e).1)
  have hb4 : Below w0.heap.size w0 w4 := hb3.grown hg4 hb3.size (fun k e => by cases e; exact h0B)
  have hk4 : KeepsWalks W w4 := ((hk2.trans (KeepsWalks.alloc _ _)).trans (KeepsWalks.of_grownBy hg3' (row_not_walk (hrow2.alloc _)))).trans (by rw [← hw4]; exact KeepsWalks.setCell _ _ _)
  clear hw4
  refine ⟨_, _, run_endRound none hL4, rfl, ⟨⟨_, (World.putObj_heap_other hBl).trans hv4, ?_, by simp⟩, World.putObj_heap_same hl4, (World.putObj_heap_other hDl).trans hK4, hb4.grown (grown_putObj _ _ _) hb4.size (fun k e => by cases e; exact h0l)⟩, hk4.trans (KeepsWalks.putObj _ hL4 rfl)⟩
  have := hrow4.kept (grown_putObj w4 l (.loop { { apRec fn sv Bs D .ready none with state := .busy } with state := if (none : Option Code).isNone then .ready else .done, pending := none })) (row_ne hrow4 hL4 (fun cur e => by cases e))
  simpa [cellsI_append, cellsI_one] using this

set_option maxRecDepth 100000 in
set_option maxHeartbeats 2000000 in
theorem appendSeq_in (F : Fence) (n : Nat) (h11 : F.fn 192) (hro : F.round = none) (hn : 2 ≤ n) (g : Nat) (lb : Array Value) (hFg : F.fn g) (eg : ∀ args w, (callFunc g args).run Tryz.prog w = .ok (.enter g args) w)
    (S : List Id32 → Prop) (N : Nat) (hN : N ≤ maxLen) (hNb : N * 32 ≤ 140737488355328) (w : World) (hseq : SeqGives F (n - 1) Tryz.prog g lb encI S N w) :
    CallsIn F n Tryz.prog 192 #[.slice none 0 0, .func (.func g) #[] lb] w fun e w' => ∃ (v : Value) (xs : List Id32), e = .returned v ∧ S xs ∧ w'.ownsRow w.heap.size 46 32 v xs.length (cellsI xs) ∧ (v = .slice none 0 0 ↔ xs = []) ∧ Below w.heap.size w w' := by
  have h1 : 1 ≤ n := by omega
  refine callsIn_of_wp_marks Tryz.func192 rfl h11 ?_ hro
  simp only [Tryz.ntmps192, List.size_toArray, List.length_cons, List.length_nil, Nat.reduceAdd, Nat.reduceSub, Array.replicate_succ, Array.replicate_zero, List.push_toArray, List.append_toArray, List.nil_append, List.cons_append]
  gi_wp2
  refine wpIn_rangeFunc ?_
  intro fn hfn
  rw [hro]
  obtain ⟨W0, hW0⟩ : ∃ W0, w.alloc (.cells #[.slice none 0 0] 23) = W0 := ⟨_, rfl⟩
  have hs0 : W0.heap.size = w.heap.size + 1 := by rw [← hW0]; simp
  have hv0 : W0.heap[w.heap.size]? = some (.cells #[.slice none 0 0] 23 (0, 0)) := by rw [← hW0]; exact World.alloc_heap_new w _
  have hb0 : Below w.heap.size w W0 := by rw [← hW0]; exact (Below.refl _ w).alloc (Nat.le_refl _) _
  rw [hW0]
  obtain ⟨W1, hW1⟩ : ∃ W1, (W0.alloc (.deferred (some []))).alloc (.loop (apRec fn (.func (.func g) #[] lb) w.heap.size W0.heap.size .ready none)) = W1 := ⟨_, rfl⟩
  have hold : ∀ k, k < W0.heap.size → W1.heap[k]? = W0.heap[k]? := fun k hk => by
    rw [← hW1]; exact (Below.heap_alloc _ _ k (by simp; omega)).trans (Below.heap_alloc _ _ k hk)
  have hb1 : Below w.heap.size w W1 := by rw [← hW1]; exact (hb0.alloc hb0.size _).alloc (by have := hb0.size; simp; omega) _
  have hs1 : W1.heap.size = W0.heap.size + 2 := by rw [← hW1]; simp
  have hM : ApAt w fn (.func (.func g) #[] lb) w.heap.size (W0.heap.size + 1) W0.heap.size [] W1 :=
    ⟨⟨_, (hold w.heap.size (by omega)).trans hv0, ⟨rfl, .inl ⟨rfl, rfl⟩⟩, by simp⟩,
     by rw [← hW1]; have := World.alloc_heap_new (W0.alloc (.deferred (some []))) (.loop (apRec fn (.func (.func g) #[] lb) w.heap.size W0.heap.size .ready none)); rwa [World.size_alloc] at this,
     by rw [← hW1]; exact (Below.heap_alloc _ _ _ (by simp)).trans (World.alloc_heap_new W0 _), hb1⟩
  refine ⟨W0.heap.size + 1, [{ target := .collected W0.heap.size, args := #[] }], W1, { target := .fn (.func g) lb, args := #[.func (.yield (W0.heap.size + 1)) #[] #[]] }, W1, g,
    #[.func (.yield (W0.heap.size + 1)) #[] #[]] ++ lb, W1, ?_, ?_, ?_, ?_, fun _ => h1, ?_⟩
  · rw [← hW1]; exact run_enterLoop_outer _ _ _ _ _
  · simp [resolve, go_sem]
  · intro f' hf'; simp [Target.leads] at hf'; subst hf'; exact hFg
  · simp [invoke, go_sem, eg]
  · refine (hseq (W0.heap.size + 1) (ApAt w fn (.func (.func g) #[] lb) w.heap.size (W0.heap.size + 1) W0.heap.size) W1 hb1 (ap_abides _ _ _ _ _ _ _ hb1.size)
      (fun pre x W hJ hl => apYield F (n - 1 - 1) w fn hfn _ w.heap.size (W0.heap.size + 1) W0.heap.size (by omega) (by omega) (by omega) (Nat.le_refl _) (by omega) N hN hNb pre x W hJ hl) hM).mono ?_
    rintro e W2 ⟨⟨v0, rfl⟩, xs, hS, h2⟩
    obtain ⟨v, hv, hrow, hnil⟩ := h2.box
    have hend := run_endLoop (P := Tryz.prog) h2.L (by simp [apRec])
    obtain ⟨W3, hW3⟩ : ∃ W3, W2.putObj (W0.heap.size + 1) (.loop { apRec fn (.func (.func g) #[] lb) w.heap.size W0.heap.size .ready none with state := .exhausted }) = W3 := ⟨_, rfl⟩
    rw [hW3] at hend
    have hg3 : W2.grownBy W3 (some (W0.heap.size + 1)) := by rw [← hW3]; exact grown_putObj _ _ _
    have hv3 : W3.heap[w.heap.size]? = some (.cells #[v] 23 (0, 0)) := by rw [← hW3]; exact (World.putObj_heap_other (by omega)).trans hv
    have hK3 : W3.heap[W0.heap.size]? = some (.deferred (some [])) := by rw [← hW3]; exact (World.putObj_heap_other (by omega)).trans h2.K
    have hrow3 := hrow.kept hg3 (row_ne hrow h2.L (fun cur e => by cases e))
    have hb3 : Below w.heap.size w W3 := h2.below.grown hg3 h2.below.size (fun k e => by cases e; omega)
    obtain ⟨hc3, hf3⟩ := box_cell hv3
    clear hW3
    refine ⟨none, W3, hend, ?_⟩
    gi_wp2
    rw [← hs0]
    refine ⟨by simp, .inl ⟨_, _, rfl, run_takeDeferred hK3, ?_⟩⟩
    exact ⟨_, results_tmp rfl _ _ _, v, xs, rfl, hS, hrow3.kept (grown_putObj _ _ _) (row_ne hrow3 hK3 (fun cur e => by cases e)), hnil, hb3.grown (grown_putObj _ _ _) hb3.size (fun k e => by cases e; omega)⟩

set_option maxHeartbeats 1000000 in
theorem collect_in (F : Fence) (n : Nat) (h8 : F.fn 121) (h11 : F.fn 192) (hro : F.round = none) (hn : 3 ≤ n) (g : Nat) (lb : Array Value) (hFg : F.fn g) (eg : ∀ args w, (callFunc g args).run Tryz.prog w = .ok (.enter g args) w)
    (S : List Id32 → Prop) (N : Nat) (hN : N ≤ maxLen) (hNb : N * 32 ≤ 140737488355328) (w : World) (hseq : SeqGives F (n - 1 - 1) Tryz.prog g lb encI S N w) :
    CallsIn F n Tryz.prog 121 #[.func (.func g) #[] lb] w fun e w' => ∃ (v : Value) (xs : List Id32), e = .returned v ∧ S xs ∧ w'.ownsRow w.heap.size 46 32 v xs.length (cellsI xs) ∧ (v = .slice none 0 0 ↔ xs = []) ∧ Below w.heap.size w w' := by
  have h1 : 1 ≤ n := by omega
  refine callsIn_of_wp Tryz.func121 rfl h8 ?_ hro
  simp only [Tryz.ntmps121, List.size_toArray, List.length_cons, List.length_nil, Nat.reduceAdd, Nat.reduceSub, Array.replicate_succ, Array.replicate_zero, List.push_toArray, List.append_toArray, List.nil_append, List.cons_append]
  gi_wp2_with (gi_at_call 192; refine (appendSeq_in F (n - 1) h11 hro (by omega) g lb hFg eg S N hN hNb _ hseq).mono ?_; rintro e w' ⟨v, xs, rfl, hS, hrow, hnil, hb⟩)
  go_ret
  exact ⟨v, xs, rfl, hS, hrow, hnil, hb⟩

/-- slices.Collect at what maps.Keys handed back. -/
theorem collect_keys {H : Type} (Bm of b nn : Nat) (D0 : DataW H) {R : Value → Option (DataW H × List MemPlace)} (w : World) (hBm : Bm < w.heap.size) (hm : w.cell? ⟨Bm, of, none⟩ = some (.map (some b)))
    (hown : w.ownsMap Tryz.prog 46 R b nn D0) (hmax : Maps.size D0 ≤ maxLen) (hbytes : Maps.size D0 * 32 ≤ 140737488355328) :
    Calls Tryz.prog 121 #[.func (.func 193) #[] #[.pointer (some ⟨Bm, of, none⟩)]] w fun e w' => ∃ (v : Value) (xs : List Id32), e = .returned v ∧ AllKeys D0 xs ∧ w'.ownsRow w.heap.size 46 32 v xs.length (cellsI xs) ∧ (v = .slice none 0 0 ↔ xs = []) ∧ Below w.heap.size w w' :=
  callsIn_wide.1 (collect_in Fence.wide 4 trivial trivial rfl (by omega) 193 _ trivial (enters_of Tryz.func193 (by kernel_rfl) rfl) _ _ hmax hbytes w (keys_gives Fence.wide _ trivial rfl (by omega) Bm of b nn D0 w hBm hm hown))

theorem mapM_all {α β : Type} {f : α → Option β} : ∀ {l : List α}, (∀ i ∈ l, ∃ y, f i = some y) → ∃ ys, l.mapM f = some ys
  | [], _ => ⟨[], rfl⟩
  | a :: l, h => by
    obtain ⟨y, hy⟩ := h a (List.mem_cons_self ..)
    obtain ⟨ys, hys⟩ := mapM_all (f := f) (l := l) fun i hi => h i (List.mem_cons_of_mem _ hi)
    exact ⟨y :: ys, by simp [List.mapM_cons, hy, hys]⟩
theorem itPos : Nat.blt 0 Tryz.prog.types.size = true := by kernel_rfl
theorem itKey : Tryz.prog.keyType 46 = true := by kernel_rfl
set_option maxRecDepth 100000 in
theorem keyI_mk (ns : List Nat) (h32 : ns.length = 32) (hb : ∀ n ∈ ns, n < 256) : ∃ s, keyOf Tryz.prog 46 (.agg (ns.map fun n => Value.int .u8 (Int.ofNat n)).toArray) = some (.string s) := by
  have hpos : 0 < Tryz.prog.types.size := by have := itPos; rwa [Nat.blt_eq] at this
  obtain ⟨d, hd⟩ : ∃ d, Tryz.prog.types.size = d + 1 := ⟨Tryz.prog.types.size - 1, by omega⟩
  have hl : ∃ L, Tryz.prog.keyLits (Tryz.prog.types.size + 1) 46 (ns.map fun n => Value.int .u8 (Int.ofNat n)) = some L := by
    rw [Program.keyLits.eq_def]
    simp only [itU, itCells, itCellsB, List.length_map, h32, if_true]
    obtain ⟨ys, hys⟩ := mapM_all (f := fun i => Tryz.prog.keyLits Tryz.prog.types.size 5 (List.take 1 (List.drop (i * 1) (ns.map fun n => Value.int .u8 (Int.ofNat n))))) (l := List.range 32) (fun i hi => by
      have hi : i < 32 := List.mem_range.1 hi
      have e : List.take 1 (List.drop (i * 1) (ns.map fun n => Value.int .u8 (Int.ofNat n))) = [Value.int .u8 (Int.ofNat (ns[i]'(by omega)))] := by
        rw [Nat.mul_one, List.drop_eq_getElem_cons (by simp; omega)]; simp
      rw [e, hd, Program.keyLits.eq_def]
      have hn := hb _ (List.getElem_mem (l := ns) (n := i) (by omega))
      refine ⟨[.int .u8 (Int.ofNat (ns[i]'(by omega)))], ?_⟩
      simp only [itB]
      rw [if_pos]
      refine ⟨trivial, ?_⟩
      simp [Lit.wf, IntKind.min, IntKind.max, IntKind.signed, IntKind.bits]
      omega)
    exact ⟨_, by rw [hys]; rfl⟩
  obtain ⟨L, hL⟩ := hl
  refine ⟨keyBytes L, ?_⟩
  unfold keyOf
  have hf : (Value.agg (ns.map fun n => Value.int .u8 (Int.ofNat n)).toArray).formed Tryz.prog 46 = true := by
    simp only [Value.formed, itU, itCells]; simp [h32]
  rw [itU]
  show (if (Tryz.prog.keyType 46 && _) = true then _ else none) = _
  rw [itKey, hf]
  show Option.map _ (Tryz.prog.keyLits (Tryz.prog.types.size + 1) 46 (ns.map fun n => Value.int .u8 (Int.ofNat n)).toArray.toList) = _
  refine Eq.trans (congrArg (Option.map fun ls => Lit.string (keyBytes ls)) hL) ?_
  rfl

/-- What a key reads as, by its cells. -/
noncomputable def readsI (l : List Value) : Option Lit := keyOf Tryz.prog 46 (.agg l.toArray)
theorem keysS_map {xs : List Id32} {ss : List (List UInt8)} (h : Beside KeyS xs ss) : (xs.map (·.l)).map readsI = ss.map (fun s => some (Lit.string s)) := by
  rw [List.map_map]
  refine Beside.map (R := KeyS) ?_ h
  intro x s hx
  simp only [Function.comp_apply]
  unfold KeyS encI at hx
  unfold readsI
  exact hx
end Tzo
