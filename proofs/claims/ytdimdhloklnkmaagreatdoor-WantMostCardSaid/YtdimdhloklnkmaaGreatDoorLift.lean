/- A world that fits the row is one that the evaluator may begin with; on no condition. -/
import Derived.Test.YtdimdhloklnkmaaGreatDoorTab
import Derived.Test.YtdimdhloklnkmaaGreatDoorAxD
import Derived.Lay
import Derived.LaidOnce
import Derived.SevenTiedAt
import Derived.Handed
import Derived.HandedShaped
import Derived.Lib.LaidU8
import Derived.Lib.LaidTab
import Derived.ProofKit
import Derived.MakeChecks
import Derived.Shelf.Vars
import Derived.WalkKit
set_option linter.unusedVariables false
set_option linter.unusedSimpArgs false
set_option linter.unusedSectionVars false
namespace Tz
open Go Ax Go.RowKit Go.ChangeShapes Go.WideShapes Go.ChangeAt Go.Proofs Go.Proofs.YtdimdhloklnkmaaGreatDoor

theorem own : ownKnob Tryz.prog.godebug = none := by kernel_rfl

/-- The wrap with both: what the variables hold, and the world's shape. -/
theorem lift_shaped {H : Type} {enc : TypeId × Value → H} {a : Assume} {C : Checked} {os : Os} {f : FuncId} {fn : Func} {s : ChangeSpec} {conds : List PathCond} {apart fresh handsOn again : Bool} {X : World → Array Value → Prop}
    (hX : ∀ (w w' : World) (args : Array Value), w.heap = w'.heap → X w args → X w' args)
    (own : ownKnob C.prog.godebug = none) (started : os.Started) (noInit : C.prog.inits.idxOf? f = none) (hfn : C.prog.funcs[f]? = some fn)
    (witness : ∃ (w : World) (tape : Tape) (i : Input), w.os = os ∧ (w.forCall tape i).Shaped C.prog ∧ i.vars = [] ∧ Input.okWide C.prog (w.forCall tape i) .any w.heap.size f i ∧
      ((s.pre enc C.prog fn conds apart (w.forCall tape i).memory i.args ∧ X (w.forCall tape i).memory i.args) ∧ sizedMet enc C.prog fn (OpenSpec.ofChange s) apart (w.forCall tape i).memory i.args) ∧ a.holds C.prog (lone (Frame.enter C.prog f i.args .normal) [] (w.forCall tape i)))
    (contract : ∀ (W : World) (base : Nat) (args : Array Value) (ds gs : List (DataW H)) (before : List MemPlace),
      (∀ (j : Nat) t v, fn.params[j]? = some t → args[j]? = some v → Value.okWide C.prog W .any base t v) →
      DataW.Whole enc C.prog fn.params.toList s.vars apart W args.toList ds gs before → X W args → W.ShapedOpen C.prog →
      Calls C.prog f args W fun e W' => ∃ v, e = .returned v ∧ s.post enc C.prog fn apart fresh handsOn again W args v W') :
    ReturnsInHanded a C os f .any (fun w args => (s.pre enc C.prog fn conds apart w args ∧ X w args) ∧ sizedMet enc C.prog fn (OpenSpec.ofChange s) apart w args) (s.post enc C.prog fn apart fresh handsOn again) := by
  refine returnsInHanded_of_calls own started noInit witness ?_
  intro w tape i _ hsh _ hok hpre _
  obtain ⟨_, _, _, fn', hfn', _, _, _, _, hval⟩ := hok
  have e : fn' = fn := Option.some.inj (hfn'.symm.trans hfn)
  subst e
  obtain ⟨⟨⟨ds, gs, before, hw, _⟩, hx⟩, _⟩ := hpre
  have hw' := DataW.Whole.of_heap (w' := w.forCall tape i) (by rfl) hw
  refine (contract (w.forCall tape i) w.heap.size i.args ds gs before hval hw' (hX _ _ _ (by rfl) hx) hsh).mono fun e W' ⟨v, he, hp⟩ => ?_
  subst he
  exact ChangeSpec.post_blind hp

/-- The numbers of a table. -/
noncomputable def zsOf : DataW Unit → List Int
  | .agg l => l.map fun d => match d with | .lit (.int _ n) => n | _ => 0
  | _ => []
variable [Ax.Sy]
theorem gL_zs (k : IntKind) : ∀ (zs : List Int), gL (fun _ => none) (zs.map fun z => AV.int k z) = some (zs.map fun z => Value.int k z)
  | [] => rfl
  | z :: zs => by
    have := gL_zs k zs
    simp only [List.map_cons, gL, g, this, Option.bind_some, Option.map_some]

/-- A listed table, in the world. -/
theorem tab_at {W : World} {laid : List (String × DataW Unit)} (hL : laidMet Tryz.prog laid W) {name : String} {d : DataW Unit} (hm : (name, d) ∈ laid) {gn t e n : Nat} {k : IntKind}
    (hg : Tryz.prog.globalNamed name = some gn) (hty : (Tryz.prog.globals[gn]?).map (·.type) = some t) (ht : Tryz.prog.underlying t = some (.array n e)) (he : Tryz.prog.underlying e = some (.int k)) (hce : Tryz.prog.cellsOf e = 1) (hct : Tryz.prog.cellsOf t = n)
    (hd : d = Lib.tabData k (zsOf d)) (hf : flatD 4 d = (zsOf d).map fun z => AV.int k z) : ∃ c el fz xs, W.heap[gn]? = some (.cells c el fz) ∧ gL (fun _ => none) (flatD 4 d) = some xs ∧ c.toList = xs := by
  obtain ⟨g', t', cs, fuel, p, hg', ht', hvar, htr⟩ := Lib.laidMet.reads hL hm
  obtain rfl := Option.some.inj (hg.symm.trans hg')
  obtain rfl := Option.some.inj (hty.symm.trans ht')
  rw [hd] at htr
  have hcs := Lib.cells_of_tab ht he hce hct htr
  simp only [World.var?, hg, Option.bind_some] at hvar
  split at hvar
  · rename_i c el fz hh
    simp only [Option.some.injEq] at hvar; subst hvar
    exact ⟨c, el, fz, _, hh, by rw [hf]; exact gL_zs k _, hcs⟩
  · cases hvar

theorem max_at {W : World} (hsh : W.ShapedOpen Tryz.prog) : ∃ m c el fz, W.heap[1]? = some (.cells c el fz) ∧ c.toList = [.int .i64 m] := by
  have hg : (1 : Nat) < Tryz.prog.globals.size := by have : Nat.blt 1 Tryz.prog.globals.size = true := by kernel_rfl
                                                     rwa [Nat.blt_eq] at this
  have h0 : ((begin Tryz.prog (fun _ _ => 0) default).world.heap[1]?).bind Obj.row? = some (#[.int .i64 0], 3) := by kernel_rfl
  obtain ⟨m, hm⟩ := cell_of_shapedOpen_int (k := .i64) hsh hg h0 rfl (by kernel_rfl) (by kernel_rfl) (by kernel_rfl)
  obtain ⟨cs, hh, hs, _⟩ := hsh.1 1 _ _ hg h0
  refine ⟨m, cs, 3, (0, 0), hh, ?_⟩
  have h1 : cs.size = 1 := hs
  simp only [World.cell?, hh, Option.isSome_none, Bool.false_eq_true, if_false] at hm
  refine List.ext_getElem? fun i => ?_
  cases i with
  | zero => simpa using hm
  | succ i => rw [List.getElem?_eq_none (by simp; omega), List.getElem?_eq_none (by simp)]

/-- A world that fits: the evaluator may begin with the empty heap. -/
theorem rel_of {W : World} {laid : List (String × DataW Unit)} (hL : laidMet Tryz.prog laid W) (hsh : W.ShapedOpen Tryz.prog)
    (h4 : ("internal/strconv.uint64pow10", Rows.laid_internal_strconv_uint64pow10) ∈ laid) (h5 : ("math/bits.deBruijn32tab", Rows.laid_math_bits_deBruijn32tab) ∈ laid)
    (h6 : ("math/bits.deBruijn64tab", Rows.laid_math_bits_deBruijn64tab) ∈ laid) (h7 : ("unicode/utf8.first", Rows.laid_unicode_utf8_first) ∈ laid) :
    ∃ m, Rel 8 (glF (gls m)) (fun _ => none) Hp.empty W := by
  obtain ⟨m, c0, e0, f0, g0, t0⟩ := max_at hsh
  have r4 := tab_at hL h4 (gn := 4) (t := 367) (e := 121) (n := 20) (k := .u64) (by kernel_rfl) (by kernel_rfl) (by kernel_rfl) (by kernel_rfl) (by kernel_rfl) (by kernel_rfl) (by kernel_rfl) (by kernel_rfl)
  have r5 := tab_at hL h5 (gn := 5) (t := 45) (e := 5) (n := 32) (k := .u8) (by kernel_rfl) (by kernel_rfl) (by kernel_rfl) (by kernel_rfl) (by kernel_rfl) (by kernel_rfl) (by kernel_rfl) (by kernel_rfl)
  have r6 := tab_at hL h6 (gn := 6) (t := 444) (e := 5) (n := 64) (k := .u8) (by kernel_rfl) (by kernel_rfl) (by kernel_rfl) (by kernel_rfl) (by kernel_rfl) (by kernel_rfl) (by kernel_rfl) (by kernel_rfl)
  have r7 := tab_at hL h7 (gn := 7) (t := 463) (e := 5) (n := 256) (k := .u8) (by kernel_rfl) (by kernel_rfl) (by kernel_rfl) (by kernel_rfl) (by kernel_rfl) (by kernel_rfl) (by kernel_rfl) (by kernel_rfl)
  have hsz : 8 ≤ W.heap.size := by
    obtain ⟨_, _, _, _, hh, _⟩ := r7
    exact (Array.getElem?_eq_some_iff.1 hh).1
  refine ⟨m, ⟨fun id o h => ?_, fun id j o u L M h => ?_, fun _ _ => rfl, hsz, fun n cs hn => ?_⟩⟩
  · rw [Hp.get_empty] at h; cases h
  · rw [Hp.get_empty] at h; cases h
  · simp only [glF, gls, T.get_put, T.get_nil, Ps.key_eq] at hn
    split at hn
    · rename_i h; subst h
      simp only [Option.some.injEq] at hn; subst hn
      exact ⟨by decide, c0, e0, f0, _, g0, rfl, t0⟩
    split at hn
    · rename_i h; subst h
      simp only [Option.some.injEq] at hn; subst hn
      exact ⟨by decide, r7⟩
    split at hn
    · rename_i h; subst h
      simp only [Option.some.injEq] at hn; subst hn
      exact ⟨by decide, r6⟩
    split at hn
    · rename_i h; subst h
      simp only [Option.some.injEq] at hn; subst hn
      exact ⟨by decide, r5⟩
    split at hn
    · rename_i h; subst h
      simp only [Option.some.injEq] at hn; subst hn
      exact ⟨by decide, r4⟩
    · cases hn
end Tz
namespace Tz
open Go Ax
variable [Ax.Sy]
/-- A call that gives true in the empty heap gives it in any world that fits, and turns nothing that was there. -/
theorem args_below {E : Ax.Env} {ng fuel : Nat} {f : FuncId} {xs : List AV} {A : List Value} {w : World} (hc : CalOk E.P ng E.gl (call E fuel)) (ht : isTrue (call E fuel f xs Hp.empty) = true) (hA : gL (fun _ => none) xs = some A) (hR : Rel ng (glF E.gl) (fun _ => none) Hp.empty w) :
    Calls E.P f A.toArray w fun e w' => e = .returned (.bool true) ∧ RowKit.Below w.heap.size w w' := by
  obtain ⟨h', hcall⟩ := isTrue_ok ht
  have := hc f xs Hp.empty (by rw [hcall]; trivial) (fun _ => none) w A hA hR
  rw [hcall] at this
  refine this.mono fun e w' he => ?_
  cases e with
  | panicked ch => exact he.elim
  | outgrown => exact he.elim
  | returned Y =>
    obtain ⟨φ', hv', _, hS⟩ := he
    simp only [g, Option.some.injEq] at hv'; subst hv'
    refine ⟨rfl, ⟨hS.os, hS.tape, hS.output, hS.size, fun k hk => hS.block k hk ?_⟩⟩
    rintro ⟨id, o, L, h1, _⟩
    rw [Hp.get_empty] at h1; cases h1
end Tz
