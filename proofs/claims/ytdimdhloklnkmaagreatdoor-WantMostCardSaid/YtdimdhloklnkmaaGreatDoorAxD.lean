/- Oracles for the evaluator, and why they are right; their conditions stand in each statement. -/
import Derived.Test.YtdimdhloklnkmaaGreatDoorAxC
import Derived.Recover
import Derived.Laws.Externs
import Derived.Lib.Bytealg
import Derived.Lib.Index
import Derived.Lib.Join
import Derived.Lib.Repeat
import Derived.Laws.AppendOwn
import Derived.KernelRfl
import Derived.Maps.Range
import Derived.Sort.KeysCollected
import Derived.StringKeys
set_option linter.unusedVariables false
set_option linter.unusedSimpArgs false
set_option linter.unusedSectionVars false
namespace Ax
open Go
variable [Sy]

/-- Such a function's code, and its closure's. -/
structure GD where
  fnG : Func
  r0 : Code
  id1 : Nat
  o0 : Oper
  o1 : Oper
  t1 : Nat
  rest : Code
  G1 : FuncId
  fn1 : Func
  id2 : Nat
  q0 : Oper
  q1 : Oper
  tR : Nat
  tA : Nat
  rest2 : Code

structure GD.Ok (P : Program) (d : GD) (G : FuncId) : Prop where
  hG : P.funcs[G]? = some d.fnG
  bG : d.fnG.body = some (.seq d.r0 (.seq (.region d.id1 #[d.o0, d.o1] false) d.rest))
  o1 : d.o1.op = .defer { callee := .value (.tmp d.t1), args := #[], argTypes := #[] } ∧ d.o1.dst = none ∧ d.o1.guard = none
  h1 : P.funcs[d.G1]? = some d.fn1
  i1 : isFn P d.G1 = true
  b1 : d.fn1.body = some (.seq (.region d.id2 #[d.q0, d.q1] false) d.rest2)
  r1 : d.fn1.results = #[]
  n1 : d.tR < d.fn1.ntmps ∧ d.tA < d.fn1.ntmps
  q0 : d.q0.op = .call { callee := .builtin .recover, args := #[], argTypes := #[] } ∧ d.q0.dst = some d.tR ∧ d.q0.guard = none
  q1 : d.q1.op = .assign (.tmp d.tR) ∧ d.q1.dst = some d.tA ∧ d.q1.guard = none

/-- Behind the body: the closure, and what is given. -/
noncomputable def gdAfter (E : Env) (fuel : Nat) (d : GD) (p x : AV) (fr3 : T AV) (h3 : Hp) : Option CR :=
  match exec E fuel (cCode E.P d.fn1.ntmps d.rest2) (((ini 0 [p] .nil).put (some x) (Ps.key d.tR)).put (some x) (Ps.key d.tA)) h3 with
  | .ok .nor _ h4 => match resL E fr3 h4 (d.fnG.results.toList.map (resOf E.P)) with
    | some [v] => some (.ret v h4)
    | some l => some (.ret (.tup l) h4)
    | none => none
  | _ => none

noncomputable def gDo (E : Env) (fuel : Nat) (d : GD) : Oc := fun args h =>
  match exec E fuel (cCode E.P d.fnG.ntmps d.r0) (ini 0 args .nil) h with
  | .ok .nor fr1 h1 => match stepIO E (call E fuel) (cOper E.P d.fnG.ntmps #[d.o0, d.o1] d.o0) fr1 h1 with
    | .ok fr2 h2 => match fr2.get (Ps.key d.t1) with
      | some (.fn (.func g1) [] [p]) => bif Nat.beq g1 d.G1 then
          (match exec E fuel (cCode E.P d.fnG.ntmps d.rest) fr2 h2 with
          | .ok .ret fr3 h3 => gdAfter E fuel d p .nilIfc fr3 h3
          | .ok (.pan v) fr3 h3 => gdAfter E fuel d p v fr3 h3
          | _ => none) else none
      | _ => none
    | _ => none
  | _ => none

section
variable {E : Env} {ng : Nat}

theorem recover_run {a : Act} {o : Oper} {w : World} (h : o.op = .call { callee := .builtin .recover, args := #[], argTypes := #[] }) : (execOp a.eval o).run E.P w = .ok .recover w := by
  simp [execOp, h, resolve, invoke, builtin]

theorem gdAfter_ok (hpl : Plain E.gl) (hX : ExtOk E.P ng E.gl (fun f => E.ext.get (Ps.key f))) (hm : E.P.follows .mixedOrders = true) (hO : OrcOk E ng) {fuel : Nat} {d : GD} {G : FuncId} (hd : d.Ok E.P G) {φ0 : Mp} {h0 : Hp} {w0 : World}
    {p x : AV} {fr3 : T AV} {h3 : Hp} {r : CR} (hr : gdAfter E fuel d p x fr3 h3 = some r) {φ : Mp} {a : Act} {w : World} {D : List Deferred} {PV X : Value} (hI : Inv D ng E.gl d.fnG.ntmps φ fr3 h3 a w) (hS : Stp φ0 h0 w0 φ h3 w) (hp : g φ p = some PV)
    (hx : g φ x = some X) {u : FrameMode} (hu : (u = .returning ∧ X = .nilIface) ∨ u = .panicking [{ v := X, recovered := false }]) :
    Leaves E.P d.fnG a.tmps (CPost ng E.gl φ0 h0 w0 r) [{ target := .fn (.func d.G1) #[PV], args := #[] }] u w := by
  have hcode := (exec_ok hX (dra_ok hpl hX hm) hO fuel).1
  refine ⟨by rcases hu with ⟨rfl, _⟩ | rfl <;> simp, .func d.G1, #[PV], d.G1, #[PV], rfl, ?_, ?_⟩
  · have := run_fn (P := E.P) (w := w) (A := #[PV]) hd.i1
    simpa [invoke] using this
  refine callsD_of_wpS hd.h1 hd.b1 fun c₀ cs hc₀ => ?_
  unfold gdAfter at hr
  -- the closure's frame
  have hlen : gL φ [p] = some [PV] := by simp [gL, hp]
  have hF0 := ini_ok hlen (d.fn1.ntmps - 1)
  obtain ⟨a0, ha0⟩ : ∃ a0 : Act, a0 = { tmps := #[PV] ++ Array.replicate (d.fn1.ntmps - (#[PV] : Array Value).size) undef, defers := [] } := ⟨_, rfl⟩
  have hF0' : FR φ (ini 0 [p] .nil) a0 := by rw [ha0]; exact hF0
  have hsz0 : d.fn1.ntmps ≤ a0.tmps.size := by rw [ha0]; simp; omega
  have hdf0 : a0.defers = [] := by rw [ha0]
  have hF1 := (hF0'.put (d := d.tR) (Nat.lt_of_lt_of_le hd.n1.1 hsz0) hx)
  have hsz1 : d.fn1.ntmps ≤ (a0.put (some d.tR) X).tmps.size := by simpa [Act.put] using hsz0
  have hF2 := (hF1.put (d := d.tA) (Nat.lt_of_lt_of_le hd.n1.2 hsz1) hx)
  have hsz2 : d.fn1.ntmps ≤ ((a0.put (some d.tR) X).put (some d.tA) X).tmps.size := by simpa [Act.put] using hsz1
  have hev : (a0.put (some d.tR) X).eval (.tmp d.tR) = X := by
    have hlt : d.tR < a0.tmps.size := Nat.lt_of_lt_of_le hd.n1.1 hsz0
    simp [Act.eval, Act.put, Array.getD, hlt]
  generalize hfr : ((ini 0 [p] T.nil).put (some x) (Ps.key d.tR)).put (some x) (Ps.key d.tA) = fr5 at hr hF2
  have hI5 : Inv [] ng E.gl d.fn1.ntmps φ fr5 h3 ((a0.put (some d.tR) X).put (some d.tA) X) w := ⟨hF2, hsz2, hI.rel, by simpa [Act.put] using hdf0⟩
  -- what the closure comes to
  obtain ⟨fr6, h4, hex⟩ : ∃ fr6 h4, exec E fuel (cCode E.P d.fn1.ntmps d.rest2) fr5 h3 = .ok .nor fr6 h4 := by
    cases hx : exec E fuel (cCode E.P d.fn1.ntmps d.rest2) fr5 h3 with
    | err m => rw [hx] at hr; cases hr
    | ok y fr6 h4 => cases y <;> first | exact ⟨_, _, rfl⟩ | (rw [hx] at hr; cases hr)
  rw [hex] at hr
  simp only at hr
  have hrest : ∀ (c₁ : Frame) (u' : FrameMode), settle u' = .returning → c₁ = { c₀ with mode := u' } → d.rest2.wpS E.P (bodyPostS E.P d.fn1 c₀ cs fun e u' w' => match e with
        | .returned _ => Leaves E.P d.fnG a.tmps (CPost ng E.gl φ0 h0 w0 r) [] (settle u') w'
        | .panicked chain => Leaves E.P d.fnG a.tmps (CPost ng E.gl φ0 h0 w0 r) [] (raised u' chain) w'
        | .outgrown => CPost ng E.gl φ0 h0 w0 r .outgrown w') ((a0.put (some d.tR) X).put (some d.tA) X) (c₁ :: cs) w := by
    intro c₁ u' hset hc₁
    refine wpS_of_wp (hcode [] d.fn1.ntmps d.rest2 fr5 h3 φ _ w _ (by rw [hex]; trivial) hI5 fun e a' w' hpost => ?_)
    rw [hex] at hpost
    cases e <;> first | exact hpost.elim | skip
    obtain ⟨φ', hI', hS'⟩ := hpost
    refine ⟨hI'.df, u', by rw [hc₁], .tuple #[], by simp [results, hd.r1], ?_⟩
    show Leaves E.P d.fnG a.tmps (CPost ng E.gl φ0 h0 w0 r) [] (settle u') w'
    rw [hset]
    have hFR' : FR φ' fr3 a := hI.fr.sub hS'.sub
    have hgood : (finish E { body := .skip, res := d.fnG.results.toList.map (resOf E.P) } fr3 h4).good ∧ some (finish E { body := .skip, res := d.fnG.results.toList.map (resOf E.P) } fr3 h4) = some r := by
      unfold finish
      simp only
      cases hres : resL E fr3 h4 (d.fnG.results.toList.map (resOf E.P)) with
      | none => rw [hres] at hr; cases hr
      | some l =>
        rw [hres] at hr
        match l, hr with
        | [], hr => exact ⟨trivial, hr⟩
        | [v], hr => exact ⟨trivial, hr⟩
        | v :: v' :: l, hr => exact ⟨trivial, hr⟩
    obtain ⟨v, V, e1, e2, e3⟩ := finish_ok hFR' hI'.rel rfl hgood.1
    have e4 : r = .ret v h4 := by have := hgood.2; rw [e1] at this; simpa using this.symm
    refine ⟨V, e3, ?_⟩
    rw [e4]
    exact ⟨φ', e2, hI'.rel, hS.trans hS'⟩
  rw [← ha0]
  refine wpS_seq (wpS_region ?_)
  have hops : List.range (#[d.q0, d.q1] : Array Oper).size = [0, 1] := rfl
  rw [hops]
  have w0' : Region.wanted d.q0 (yielded #[d.q0, d.q1] a0.tmps) = true := by simp [Region.wanted, hd.q0.2.2]
  have e0 : (#[d.q0, d.q1] : Array Oper)[0]? = some d.q0 := rfl
  have e1 : (#[d.q0, d.q1] : Array Oper)[1]? = some d.q1 := rfl
  have hrun1 : (execOp (a0.put (some d.tR) X).eval d.q1).run E.P w = .ok (.value X) w := by
    simp [execOp, hd.q1.1, hev]
  have w1' : Region.wanted d.q1 (yielded #[d.q0, d.q1] (a0.put (some d.tR) X).tmps) = true := by simp [Region.wanted, hd.q1.2.2]
  have fin : ∀ (c₁ : Frame) (u' : FrameMode), settle u' = .returning → c₁ = { c₀ with mode := u' } → wpOpsS E.P #[d.q0, d.q1] (Exit.thenS (d.rest2.wpS E.P (bodyPostS E.P d.fn1 c₀ cs fun e u' w' => match e with
        | .returned _ => Leaves E.P d.fnG a.tmps (CPost ng E.gl φ0 h0 w0 r) [] (settle u') w'
        | .panicked chain => Leaves E.P d.fnG a.tmps (CPost ng E.gl φ0 h0 w0 r) [] (raised u' chain) w'
        | .outgrown => CPost ng E.gl φ0 h0 w0 r .outgrown w')) (bodyPostS E.P d.fn1 c₀ cs fun e u' w' => match e with
        | .returned _ => Leaves E.P d.fnG a.tmps (CPost ng E.gl φ0 h0 w0 r) [] (settle u') w'
        | .panicked chain => Leaves E.P d.fnG a.tmps (CPost ng E.gl φ0 h0 w0 r) [] (raised u' chain) w'
        | .outgrown => CPost ng E.gl φ0 h0 w0 r .outgrown w')) [1] (a0.put (some d.tR) X) (c₁ :: cs) w := by
    intro c₁ u' hset hc₁
    simp only [wpOpsS, e1, w1', if_true, hrun1, Oper.upon, hd.q1.2.1]
    exact hrest c₁ u' hset hc₁
  rcases hu with ⟨rfl, rfl⟩ | rfl
  · have hrec : recoverD (c₀ :: cs) = none := by simp [recoverD, hc₀]
    rw [wpOpsS]
    simp only [e0, w0', if_true, recover_run hd.q0.1, hrec, hd.q0.2.1]
    exact fin c₀ .returning rfl (by cases c₀; simp at hc₀; subst hc₀; rfl)
  · have hrec : recoverD (c₀ :: cs) = some (X, { c₀ with mode := .panicking ({ v := X, recovered := true } :: []) } :: cs) := by simp [recoverD, hc₀]
    rw [wpOpsS]
    simp only [e0, w0', if_true, recover_run hd.q0.1, hrec, hd.q0.2.1]
    exact fin _ _ rfl rfl

theorem gDo_ok (hpl : Plain E.gl) (hX : ExtOk E.P ng E.gl (fun f => E.ext.get (Ps.key f))) (hm : E.P.follows .mixedOrders = true) (hO : OrcOk E ng) {fuel : Nat} {d : GD} {G : FuncId} (hd : d.Ok E.P G)
    {as : List AV} {h : Hp} {r : CR} (hr : gDo E fuel d as h = some r) {φ : Mp} {w : World} {A : List Value} (hA : gL φ as = some A) (hR : Rel ng (glF E.gl) φ h w) : Calls E.P G A.toArray w (CPost ng E.gl φ h w r) := by
  have hD := dra_ok (ng := ng) hpl hX hm
  have hcode := (exec_ok hX hD hO fuel).1
  have hcal := call_ok hX hD hO fuel
  unfold gDo at hr
  have hI0 : Inv [] ng E.gl d.fnG.ntmps φ (ini 0 as .nil) h { tmps := A.toArray ++ Array.replicate (d.fnG.ntmps - A.toArray.size) undef, defers := [] } w :=
    ⟨ini_ok hA _, by simp; omega, hR, rfl⟩
  obtain ⟨fr1, h1, hex1⟩ : ∃ fr1 h1, exec E fuel (cCode E.P d.fnG.ntmps d.r0) (ini 0 as .nil) h = .ok .nor fr1 h1 := by
    cases hx : exec E fuel (cCode E.P d.fnG.ntmps d.r0) (ini 0 as .nil) h with
    | err m => rw [hx] at hr; cases hr
    | ok y fr h => cases y <;> first | exact ⟨_, _, rfl⟩ | (rw [hx] at hr; cases hr)
  rw [hex1] at hr
  simp only at hr
  obtain ⟨fr2, h2, hex2⟩ : ∃ fr2 h2, stepIO E (call E fuel) (cOper E.P d.fnG.ntmps #[d.o0, d.o1] d.o0) fr1 h1 = .ok fr2 h2 := by
    cases hx : stepIO E (call E fuel) (cOper E.P d.fnG.ntmps #[d.o0, d.o1] d.o0) fr1 h1 with
    | err m => rw [hx] at hr; cases hr
    | ok fr h => exact ⟨_, _, rfl⟩
    | pan v fr h => rw [hx] at hr; cases hr
  rw [hex2] at hr
  simp only at hr
  split at hr
  case h_2 => cases hr
  rename_i g1 p hslot
  rw [Bool.cond_eq_ite] at hr
  split at hr
  case isFalse => cases hr
  rename_i hg1
  rw [Nat.beq_eq] at hg1
  subst hg1
  refine calls_of_wp_defers hd.hG hd.bG ?_
  refine wp_seq (hcode [] d.fnG.ntmps d.r0 (ini 0 as .nil) h φ _ w _ (by rw [hex1]; trivial) hI0 fun e a1 w1 hp1 => ?_)
  rw [hex1] at hp1
  cases e <;> first | exact hp1.elim | skip
  obtain ⟨φ1, hI1, hS1⟩ := hp1
  refine wp_seq (wp_region ?_)
  have hops : List.range (#[d.o0, d.o1] : Array Oper).size = [0, 1] := rfl
  have e0 : (#[d.o0, d.o1] : Array Oper)[0]? = some d.o0 := rfl
  have e1 : (#[d.o0, d.o1] : Array Oper)[1]? = some d.o1 := rfl
  rw [hops, wpOps_cons]
  refine step_ok hX hcal e0 hI1 hex2 trivial (fun a2 w2 hp2 => ?_) (fun ch a' w' hp => hp.elim)
  obtain ⟨φ2, hI2, hS2⟩ := hp2
  have hsl := hI2.fr d.t1
  simp only [Od.rd, hslot] at hsl
  obtain ⟨xs, ys, k1, k2, k3⟩ := g_fn hsl
  simp only [gL, Option.some.injEq] at k1
  subst k1
  simp only [gL, Option.map_eq_some_iff, Option.bind_eq_some_iff] at k2
  obtain ⟨PV, hPV, ws, hws, rfl⟩ := k2
  cases hws
  have hw1 : Region.wanted d.o1 (yielded #[d.o0, d.o1] a2.tmps) = true := by simp [Region.wanted, hd.o1.2.2]
  have hrun : (execOp a2.eval d.o1).run E.P w2 = .ok (.defer { target := .fn (.func d.G1) #[PV], args := #[] }) w2 := by
    have : a2.eval (.tmp d.t1) = .func (.func d.G1) #[] #[PV] := k3
    simp [execOp, hd.o1.1, resolve, this, Deferred.ofValue]
  rw [wpOps_cons]
  unfold wpOp
  simp only [e1, hw1, if_true]
  refine .inl ?_
  unfold Oper.wp
  rw [hrun]
  simp only [Oper.upon, hd.o1.2.1, Act.put, wpOps]
  have hI2' : Inv [{ target := .fn (.func d.G1) #[PV], args := #[] }] ng E.gl d.fnG.ntmps φ2 fr2 h2 { a2 with defers := { target := .fn (.func d.G1) #[PV], args := #[] } :: a2.defers } w2 :=
    ⟨hI2.fr, hI2.sz, hI2.rel, by simp [hI2.df]⟩
  show d.rest.wp E.P _ _ w2
  refine hcode [{ target := .fn (.func d.G1) #[PV], args := #[] }] d.fnG.ntmps d.rest fr2 h2 φ2 _ w2 _ ?_ hI2' fun e a3 w3 hp3 => ?_
  · cases hx : exec E fuel (cCode E.P d.fnG.ntmps d.rest) fr2 h2 with
    | err m => rw [hx] at hr; cases hr
    | ok y fr h => trivial
  · cases hx : exec E fuel (cCode E.P d.fnG.ntmps d.rest) fr2 h2 with
    | err m => rw [hx] at hr; cases hr
    | ok y fr3 h3 =>
      rw [hx] at hr hp3
      cases y with
      | nor => cases hr
      | exi j => cases hr
      | ret =>
        cases e <;> first | exact hp3.elim | skip
        obtain ⟨φ3, hI3, hS3⟩ := hp3
        have := gdAfter_ok hpl hX hm hO hd hr hI3 (hS1.trans (hS2.trans hS3)) (g_sub hS3.sub hPV) (x := .nilIfc) (X := .nilIface) rfl (u := .returning) (.inl ⟨rfl, rfl⟩)
        show Leaves E.P d.fnG a3.tmps _ a3.defers .returning w3
        rw [hI3.df]; exact this
      | pan v =>
        cases e <;> first | exact hp3.elim | skip
        obtain ⟨φ3, V, rfl, hv, hI3, hS3⟩ := hp3
        have := gdAfter_ok hpl hX hm hO hd hr hI3 (hS1.trans (hS2.trans hS3)) (g_sub hS3.sub hPV) hv (u := .panicking [{ v := V, recovered := false }]) (.inr rfl)
        show Leaves E.P d.fnG a3.tmps _ a3.defers (.panicking [{ v := V, recovered := false }]) w3
        rw [hI3.df]; exact this
end
end Ax
namespace Ax
open Go
variable [Sy]

noncomputable def idxB (c : UInt8) : List UInt8 → Nat → Int := List.rec (fun _ => -1) (fun x _ ih k => bif Nat.beq x.toNat c.toNat then Int.ofNat k else ih (k + 1))
noncomputable def cntB (c : UInt8) : List UInt8 → Nat → Nat := List.rec (fun n => n) (fun x _ ih n => bif Nat.beq x.toNat c.toNat then ih (n + 1) else ih n)
noncomputable def cmpB : List UInt8 → List UInt8 → Int := List.rec (fun m => match m with | [] => 0 | _ :: _ => -1)
  (fun x _ ih m => match m with | [] => 1 | y :: m => bif Nat.beq x.toNat y.toNat then ih m else bif Nat.blt x.toNat y.toNat then -1 else 1)

noncomputable def xBits : Ext | [.flt .f64 b], h => some (.int .u64 b, h) | _, _ => none
noncomputable def xFrom : Ext | [.int .u64 n], h => some (.flt .f64 n.toNat, h) | _, _ => none
noncomputable def xIdxB : Ext | [.str s, .int .u8 c], h => some (.int .i64 (idxB c.toNat.toUInt8 s.list 0), h) | _, _ => none
noncomputable def xCount : Ext | [.str s, .int .u8 c], h => some (.int .i64 (Lib.countByte s.list c.toNat.toUInt8), h) | _, _ => none
noncomputable def xCmp : Ext | [.str a, .str b], h => some (.int .i64 (cmpB a.list b.list), h) | _, _ => none
noncomputable def xClone : Ext
  | [.ifc t (.map (some id))], h => match h.get id with
    | some (.mp es) => some (.ifc t (.map (some h.nxt)), h.new (.mp es))
    | _ => none
  | _, _ => none

/-- What stands for one function is right. -/
noncomputable def XOk (P : Program) (ng : Nat) (gl : T (List AV)) (f : FuncId) (e : Ext) : Prop :=
  ∀ (args : List AV) (h : Hp) (v : AV) (h' : Hp), e args h = some (v, h') → ∀ (φ : Mp) (w : World) (A : List Value), gL φ args = some A → Rel ng (glF gl) φ h w →
    ∃ (φ' : Mp) (X : Value) (w' : World), (callFunc f A.toArray).run P w = .ok (.value X) w' ∧ g φ' v = some X ∧ Rel ng (glF gl) φ' h' w' ∧ Stp φ h w φ' h' w'

/-- A function of the runtime is its entry. -/
noncomputable def Is (P : Program) (f : FuncId) (e : Array Value → Sem Value) : Prop := ∀ (A : Array Value) (w : World), (callFunc f A).run P w = ((e A).run P w).andThen fun v w' => .ok (.value v) w'

section
variable {P : Program} {ng : Nat} {gl : T (List AV)} {f : FuncId}

theorem extOk_nil : ExtOk P ng gl (fun f => (T.nil : T Ext).get (Ps.key f)) := by
  intro f e args h v h' he
  replace he : (T.nil : T Ext).get (Ps.key f) = some e := he
  rw [T.get_nil] at he; cases he
theorem extOk_put {t : T Ext} {e : Ext} (ht : ExtOk P ng gl (fun f => t.get (Ps.key f))) (he : XOk P ng gl f e) : ExtOk P ng gl (fun g => (t.put (some e) (Ps.key f)).get (Ps.key g)) := by
  intro g e' args h v h' hg hv
  simp only [T.get_put] at hg
  by_cases hgf : Ps.key g = Ps.key f
  · rw [if_pos hgf] at hg
    simp only [Option.some.injEq] at hg; subst hg
    have := Ps.key_inj hgf
    subst this
    exact he args h v h' hv
  · rw [if_neg hgf] at hg
    exact ht g e' args h v h' hg hv

theorem xpure {e : Ext} {e0 : Array Value → Sem Value} (hi : Is P f e0)
    (hp : ∀ (args : List AV) (h : Hp) (v : AV) (h' : Hp), e args h = some (v, h') → h' = h ∧ ∀ (φ : Mp) (A : List Value), gL φ args = some A → ∃ X, g φ v = some X ∧ ∀ w, (e0 A.toArray).run P w = .ok X w) : XOk P ng gl f e := by
  intro args h v h' he φ w A hA hR
  obtain ⟨rfl, hX⟩ := hp args h v h' he
  obtain ⟨X, hg, hrun⟩ := hX φ A hA
  exact ⟨φ, X, w, by rw [hi, hrun]; rfl, hg, hR, Stp.refl _ _ _⟩

theorem gL1 {φ : Mp} {x : AV} {A : List Value} (h : gL φ [x] = some A) : ∃ X, A = [X] ∧ g φ x = some X := by
  simp only [gL, Option.map_eq_some_iff, Option.bind_eq_some_iff] at h
  obtain ⟨X, hX, _, hn, rfl⟩ := h
  cases hn
  exact ⟨X, rfl, hX⟩
theorem gL2 {φ : Mp} {x y : AV} {A : List Value} (h : gL φ [x, y] = some A) : ∃ X Y, A = [X, Y] ∧ g φ x = some X ∧ g φ y = some Y := by
  simp only [gL, Option.map_eq_some_iff, Option.bind_eq_some_iff] at h
  obtain ⟨X, hX, _, ⟨Y, hY, _, hn, rfl⟩, rfl⟩ := h
  cases hn
  exact ⟨X, Y, rfl, hX, hY⟩

theorem xBits_ok (hi : Is P f Extern.MathFloatBits.float64bits) : XOk P ng gl f xBits := by
  refine xpure hi fun args h v h' he => ?_
  unfold xBits at he
  split at he
  · simp only [Option.some.injEq, Prod.mk.injEq] at he
    obtain ⟨rfl, rfl⟩ := he
    refine ⟨rfl, fun φ A hA => ?_⟩
    obtain ⟨X, rfl, hX⟩ := gL1 hA
    simp only [g, Option.some.injEq] at hX; subst hX
    exact ⟨_, rfl, fun w => rfl⟩
  · cases he
theorem xFrom_ok (hi : Is P f Extern.MathFloatBits.float64frombits) : XOk P ng gl f xFrom := by
  refine xpure hi fun args h v h' he => ?_
  unfold xFrom at he
  split at he
  · simp only [Option.some.injEq, Prod.mk.injEq] at he
    obtain ⟨rfl, rfl⟩ := he
    refine ⟨rfl, fun φ A hA => ?_⟩
    obtain ⟨X, rfl, hX⟩ := gL1 hA
    simp only [g, Option.some.injEq] at hX; subst hX
    exact ⟨_, rfl, fun w => rfl⟩
  · cases he

theorem u8b (x y : UInt8) : Nat.beq x.toNat y.toNat = (x == y) := by
  by_cases h : x = y
  · subst h; simp
  · have : x.toNat ≠ y.toNat := fun e => h (UInt8.toNat_inj.1 e)
    have h1 : (x == y) = false := by simpa using h
    rw [h1]
    cases hb : Nat.beq x.toNat y.toNat with
    | false => rfl
    | true => exact (this (Nat.eq_of_beq_eq_true hb)).elim

theorem bget (pre : List UInt8) (x : UInt8) (l : List UInt8) : (⟨(pre ++ x :: l).toArray⟩ : ByteArray)[pre.length]! = x := by
  have h : pre.length < (⟨(pre ++ x :: l).toArray⟩ : ByteArray).size := by
    show pre.length < (pre ++ x :: l).toArray.size
    simp
  rw [getElem!_pos (⟨(pre ++ x :: l).toArray⟩ : ByteArray) pre.length h]
  show (pre ++ x :: l).toArray[pre.length]'(by simp) = x
  simp

theorem find_idx (c : UInt8) : ∀ (l pre : List UInt8), (match (List.range' pre.length l.length).find? fun i => (⟨(pre ++ l).toArray⟩ : ByteArray)[i]! == c with | some i => (Int.ofNat i) | none => -1) = idxB c l pre.length
  | [], pre => rfl
  | x :: l, pre => by
    have ih := find_idx c l (pre ++ [x])
    simp only [List.length_cons, List.range'_succ, List.find?_cons, bget]
    have e : idxB c (x :: l) pre.length = bif Nat.beq x.toNat c.toNat then Int.ofNat pre.length else idxB c l (pre.length + 1) := rfl
    rw [e, u8b]
    cases hxc : x == c with
    | true => simp
    | false =>
      simp only [cond_false]
      simp only [List.length_append, List.length_cons, List.length_nil, Nat.zero_add, List.append_assoc, List.cons_append, List.nil_append] at ih
      exact ih

theorem xIdxB_ok (hi : Is P f Extern.BytealgIndexByte.indexByte) : XOk P ng gl f xIdxB := by
  refine xpure hi fun args h v h' he => ?_
  unfold xIdxB at he
  split at he
  · rename_i s c
    simp only [Option.some.injEq, Prod.mk.injEq] at he
    obtain ⟨rfl, rfl⟩ := he
    refine ⟨rfl, fun φ A hA => ?_⟩
    obtain ⟨X, Y, rfl, hX, hY⟩ := gL2 hA
    simp only [g, Option.some.injEq] at hX hY; subst hX; subst hY
    refine ⟨_, rfl, fun w => ?_⟩
    have := run_indexByte_string (P := P) ⟨s.list.toArray⟩ c w
    rw [this]
    congr 2
    have hf := find_idx c.toNat.toUInt8 s.list []
    simp only [List.length_nil, List.nil_append] at hf
    rw [← hf]
    have hsz : (⟨s.list.toArray⟩ : ByteArray).size = s.list.length := by simp [ByteArray.size]
    simp only [firstIdx, hsz, List.range_eq_range']
    rfl
  · cases he

theorem xCount_ok (hi : Is P f Extern.BytealgCount.count) : XOk P ng gl f xCount := by
  refine xpure hi fun args h v h' he => ?_
  unfold xCount at he
  split at he
  · rename_i s c
    simp only [Option.some.injEq, Prod.mk.injEq] at he
    obtain ⟨rfl, rfl⟩ := he
    refine ⟨rfl, fun φ A hA => ?_⟩
    obtain ⟨X, Y, rfl, hX, hY⟩ := gL2 hA
    simp only [g, Option.some.injEq] at hX hY; subst hX; subst hY
    refine ⟨_, rfl, fun w => ?_⟩
    have := Lib.run_countString (P := P) ⟨s.list.toArray⟩ c w
    exact this
  · cases he

/-- A map that is copied. -/
theorem xClone_ok (hi : Is P f Extern.MapsClone.clone) : XOk P ng gl f xClone := by
  intro args h v h' he φ w A hA hR
  unfold xClone at he
  split at he
  · rename_i t id
    split at he
    · rename_i es hg
      simp only [Option.some.injEq, Prod.mk.injEq] at he
      obtain ⟨rfl, rfl⟩ := he
      obtain ⟨X, rfl, hX⟩ := gL1 hA
      obtain ⟨Y, hY, rfl⟩ := g_ifc hX
      obtain ⟨L, hL, rfl⟩ := g_mapS hY
      obtain ⟨L', hL', _, ents, clock, hh, hp, hborn, hpw⟩ := hR.at_ id _ hg
      rw [hL] at hL'; simp only [Option.some.injEq] at hL'; subst hL'
      have hfr : φ h.nxt = none := hR.fresh _ (Nat.le_refl _)
      have hat : At (upd φ h.nxt ⟨w.heap.size, 0, 0, 0, undef⟩) ⟨w.heap.size, 0, 0, 0, undef⟩ (.mp es) { w with heap := w.heap.push (.map ents clock) } :=
        ⟨ents, clock, by simp, gP_sub (upd_sub _ hfr) hp, hborn, hpw⟩
      obtain ⟨hR', hS⟩ := alloc_step (h' := h.new (.mp es)) hR ⟨w.heap.size, 0, 0, 0, undef⟩ hfr (fun j => by rw [Hp.get_new]) (by rw [Hp.nxt_new]; omega) (by rw [Hp.nxt_new]; omega) rfl hat rfl rfl rfl (by simp)
        (fun b hb => by simp only [Array.getElem?_push]; rw [if_neg (by omega)])
      refine ⟨_, .iface t (.map (some w.heap.size)), _, ?_, by simp [g, upd_self], hR', hS⟩
      rw [hi]
      have hget : (getObj L.blk).run P w = .ok (.map ents clock) w := run_getMap hh
      have e : Extern.MapsClone.clone (#[.iface t (.map (some L.blk))] : Array Value) = (do
          let .map entries clock ← getObj L.blk | stuck "maps.clone: a map expected"
          pure (.iface t (.map (some (← newObj (.map entries clock)))))) := rfl
      show ((Extern.MapsClone.clone (#[.iface t (.map (some L.blk))] : Array Value)).run P w).andThen _ = _
      rw [e]
      simp [hget, run_newObj]
    · cases he
  · cases he
end
end Ax
namespace Ax
open Go
variable [Sy]

section
variable {P : Program} {ng : Nat} {gl : T (List AV)} {φ : Mp} {h : Hp} {w w' : World} {f : FuncId}

/-- What stands for one function of the program is right. -/
noncomputable def OOk (P : Program) (ng : Nat) (gl : T (List AV)) (f : FuncId) (o : Oc) : Prop :=
  ∀ (as : List AV) (h : Hp) (r : CR), o as h = some r → r.good → ∀ (φ : Mp) (w : World) (A : List Value), gL φ as = some A → Rel ng (glF gl) φ h w → Calls P f A.toArray w (CPost ng gl φ h w r)

noncomputable def OrcsOk (P : Program) (ng : Nat) (gl : T (List AV)) (t : T Oc) : Prop := ∀ (f : FuncId) (o : Oc), t.get (Ps.key f) = some o → OOk P ng gl f o

theorem orcs_nil : OrcsOk P ng gl .nil := fun f o h => by rw [T.get_nil] at h; cases h
theorem orcs_put {t : T Oc} {o : Oc} (ht : OrcsOk P ng gl t) (ho : OOk P ng gl f o) : OrcsOk P ng gl (t.put (some o) (Ps.key f)) := by
  intro g o' hg
  rw [T.get_put] at hg
  by_cases hgf : Ps.key g = Ps.key f
  · rw [if_pos hgf] at hg
    simp only [Option.some.injEq] at hg; subst hg
    have := Ps.key_inj hgf
    subst this
    exact ho
  · rw [if_neg hgf] at hg
    exact ht g o' hg
theorem orc_of {E : Env} (h : OrcsOk E.P ng E.gl E.orc) : OrcOk E ng := fun f o as hp r ho hr hg => h f o ho as hp r hr hg

theorem below_eq (e : w' = w) : RowKit.Below w.heap.size w w' := e ▸ RowKit.Below.refl _ _

/-- A function that gives a truth and turns nothing. -/
noncomputable def oTrue : Oc | [], h => some (.ret (.bool true) h) | _, _ => none
theorem oTrue_ok (law : ∀ φ h w, Rel ng (glF gl) φ h w → Calls P f #[] w fun e w' => e = .returned (.bool true) ∧ RowKit.Below w.heap.size w w') : OOk P ng gl f oTrue := by
  intro as h r hr _ φ w A hA hR
  unfold oTrue at hr
  split at hr
  · simp only [Option.some.injEq] at hr; subst hr
    simp only [gL, Option.some.injEq] at hA; subst hA
    exact (law φ _ w hR).mono fun e w' he => post_below hR he.1 he.2 rfl
  · cases hr

theorem closed_below {E : Env} (hp : Plain E.gl) {fuel : Nat} {h' : Hp} (hc : CalOk E.P ng E.gl (call E fuel)) (hcall : call E fuel f [] Hp.empty = .ret (.bool true) h') (hR : Rel ng (glF E.gl) φ h w) :
    Calls E.P f #[] w fun e w' => e = .returned (.bool true) ∧ RowKit.Below w.heap.size w w' := by
  have := hc f [] Hp.empty (by rw [hcall]; trivial) (fun _ => none) w [] rfl (hR.empty hp)
  rw [hcall] at this
  refine this.mono fun e w' he => ?_
  cases e with
  | returned V =>
    obtain ⟨φ', hv', _, hS⟩ := he
    simp only [g, Option.some.injEq] at hv'
    refine ⟨by rw [← hv'], ⟨hS.os, hS.tape, hS.output, hS.size, fun k hk => hS.block k hk ?_⟩⟩
    rintro ⟨id, o, L, h1, _⟩
    have : (Hp.empty).get id = none := by simp [Hp.get, Hp.empty, T.get_nil]
    rw [this] at h1; cases h1
  | panicked ch => exact he.elim
  | outgrown => exact he.elim

/-! ## Texts -/

noncomputable def lenLe (l : List UInt8) (n : Nat) : Bool := Nat.ble l.length n

noncomputable def oIdx : Oc | [.str s, .str sub], h => bif Nat.ble s.len 4294967280 then some (.ret (.int .i64 (Lib.index s.list sub.list)) h) else none | _, _ => none
theorem oIdx_ok {g0 : Nat} {m : Int} (hg : glF gl g0 = some [.int .i64 m])
    (law : ∀ (s sub : ByteArray) (m : Int) (w : World), s.size < 4294967281 → w.cell? ⟨g0, 0, none⟩ = some (.int .i64 m) → Calls P f #[.string s, .string sub] w fun e w' => e = .returned (.int .i64 (Lib.index s.data.toList sub.data.toList)) ∧ w' = w) :
    OOk P ng gl f oIdx := by
  intro as h r hr _ φ w A hA hR
  unfold oIdx at hr
  split at hr
  · rename_i s sub
    rw [Bool.cond_eq_ite] at hr
    split at hr
    · rename_i hl
      simp only [Option.some.injEq] at hr; subst hr
      obtain ⟨X, Y, rfl, hX, hY⟩ := gL2 hA
      simp only [g, Option.some.injEq] at hX hY; subst hX; subst hY
      have hcell : w.cell? ⟨g0, 0, none⟩ = some (.int .i64 m) := by
        obtain ⟨hlt, c, el, fz, xs, h1, h2, h3⟩ := hR.gl_ g0 _ hg
        simp only [gL, g, Option.bind_some, Option.map_some, Option.some.injEq] at h2
        subst h2
        have : c = #[.int .i64 m] := by apply Array.ext'; simpa using h3
        subst this
        rw [cell_row h1]; rfl
      have hsz : (⟨s.list.toArray⟩ : ByteArray).size < 4294967281 := by
        have : s.len ≤ 4294967280 := by simpa using hl
        have h2 := BS.list_len s
        show s.list.toArray.size < _
        simp; omega
      have := law ⟨s.list.toArray⟩ ⟨sub.list.toArray⟩ m w hsz hcell
      exact this.mono fun e w' he => post_below hR he.1 (below_eq he.2) (by simp [g])
    · cases hr
  · cases hr

noncomputable def oRep : Oc | [.str s, .int .i64 c], h => bif iLt c 0 then none else (bif Nat.ble c.toNat 1000000 && Nat.ble s.len 100000000 then some (.ret (.str (BS.ofList (Lib.repeatL s.list c.toNat))) h) else none) | _, _ => none
theorem oRep_ok (law : ∀ (s : ByteArray) (c : Nat) (w : World), c ≤ 9223372036854775807 → s.size * c ≤ 140737488355328 → Calls P f #[.string s, .int .i64 c] w fun e w' => e = .returned (.string ⟨(Lib.repeatL s.data.toList c).toArray⟩) ∧ RowKit.Below w.heap.size w w') : OOk P ng gl f oRep := by
  intro as h r hr _ φ w A hA hR
  unfold oRep at hr
  split at hr
  · rename_i s c
    simp only [Bool.cond_eq_ite] at hr
    split at hr
    · cases hr
    · rename_i hc
      split at hr
      · rename_i hl
        simp only [Bool.and_eq_true, Nat.ble_eq, lenLe] at hl
        simp only [Option.some.injEq] at hr; subst hr
        obtain ⟨X, Y, rfl, hX, hY⟩ := gL2 hA
        simp only [g, Option.some.injEq] at hX hY; subst hX; subst hY
        have hc0 : 0 ≤ c := by
          rw [iLt_eq] at hc
          simp at hc; omega
        have e1 : c = (c.toNat : Int) := (Int.toNat_of_nonneg hc0).symm
        have hsz : (⟨s.list.toArray⟩ : ByteArray).size = s.len := by show s.list.toArray.size = _; simp [BS.list_len]
        have := law ⟨s.list.toArray⟩ c.toNat w (by omega) (by
          rw [hsz]
          exact Nat.le_trans (Nat.mul_le_mul hl.2 hl.1) (by decide))
        rw [← e1] at this
        exact this.mono fun e w' he => post_below hR he.1 he.2 (by simp [g, BS.ofList_list])
      · cases hr
  · cases hr

noncomputable def strsOf : List AV → Option (List (List UInt8))
  | [] => some []
  | .str s :: l => match strsOf l with
    | some r => some (s.list :: r)
    | none => none
  | _ :: _ => none
theorem strsOf_ok : ∀ {cs : List AV} {ss : List (List UInt8)} {CS : List Value}, strsOf cs = some ss → gL φ cs = some CS → CS = ss.map fun s => Value.string ⟨s.toArray⟩
  | [], ss, CS, h1, h2 => by
    simp only [strsOf, Option.some.injEq] at h1; subst h1
    simp only [gL, Option.some.injEq] at h2; subst h2; rfl
  | x :: l, ss, CS, h1, h2 => by
    cases x with
    | str s =>
      simp only [strsOf] at h1
      split at h1
      · rename_i r hr
        simp only [Option.some.injEq] at h1; subst h1
        simp only [gL, g, Option.bind_some, Option.map_eq_some_iff] at h2
        obtain ⟨R, hR, rfl⟩ := h2
        rw [strsOf_ok hr hR]; rfl
      · cases h1
    | _ => simp [strsOf] at h1

theorem map_back (ss : List (List UInt8)) : (List.map (fun x : ByteArray => x.data.toList) (ss.map fun s => (⟨s.toArray⟩ : ByteArray))) = ss := by
  induction ss with
  | nil => rfl
  | cons s l ih => simp only [List.map_cons, ih]
noncomputable def capOk (n : Nat) : Cp → Bool
  | .k c => Nat.ble n c
  | .u _ => true
noncomputable def oJoin (gl : T (List AV)) : Oc
  | [.slc (some (.own id, off)) n cp, .str sep], h => (match cellsAt gl h (.own id, off) n with
    | some cs => (match strsOf cs with
      | some ss => (match Lib.join ss sep.list with | l => bif lenLe l 100000000 && Nat.ble n 100000000 && capOk n cp then some (.ret (.str (BS.ofList l)) h) else none)
      | none => none)
    | none => none)
  | _, _ => none
theorem oJoin_ok (law : ∀ (bk o c : Nat) (xs : List ByteArray) (sep : ByteArray) (w : World), (∀ (j : Nat) x, xs[j]? = some x → w.cell? ⟨bk, o + j, none⟩ = some (.string x)) → bk < w.heap.size → xs.length ≤ 140737488355328 → xs.length ≤ c →
      (Lib.join (xs.map (·.data.toList)) sep.data.toList).length ≤ 140737488355328 → Calls P f #[.slice (some ⟨bk, o, none⟩) xs.length c, .string sep] w fun e w' => e = .returned (.string ⟨(Lib.join (xs.map (·.data.toList)) sep.data.toList).toArray⟩) ∧ RowKit.Below w.heap.size w w') :
    OOk P ng gl f (oJoin gl) := by
  intro as h r hr _ φ w A hA hR
  unfold oJoin at hr
  split at hr
  · rename_i id off n cp sep
    split at hr
    · rename_i cs hcs
      split at hr
      · rename_i ss hss
        simp only [Bool.cond_eq_ite] at hr
        split at hr
        · rename_i hl
          simp only [Bool.and_eq_true, Nat.ble_eq, lenLe] at hl
          simp only [Option.some.injEq] at hr; subst hr
          obtain ⟨X, Y, rfl, hX, hY⟩ := gL2 hA
          simp only [g, Option.some.injEq] at hY; subst hY
          obtain ⟨A, c, hA', rfl, hcap⟩ := g_slc hX
          obtain ⟨CS, hCS, hlen, hcells⟩ := cells_ok hR hcs hA'
          have hCSe := strsOf_ok hss hCS
          have hid : ∃ o, h.get id = some o := by
            simp only [cellsAt, Option.map_eq_some_iff] at hcs
            obtain ⟨_, hcs, _⟩ := hcs
            simp only [cellsC] at hcs
            split at hcs
            · rename_i hg; exact ⟨_, hg⟩
            · cases hcs
          obtain ⟨ob, hob⟩ := hid
          obtain ⟨L, hL, _, hat⟩ := hR.at_ id ob hob
          have hAe : A = ⟨L.blk, L.base + off, none⟩ := by simpa [gA, hL] using hA'.symm
          subst hAe
          have hn : ss.length = n := by rw [hCSe] at hlen; simpa using hlen
          have hc : n ≤ c := by
            cases cp with
            | k d => simp only at hcap; subst hcap; simpa [capOk] using hl.2
            | u e =>
              simp only [gCap, hL, Option.bind_some] at hcap
              split at hcap
              · rename_i h3; simp only [Option.some.injEq] at hcap; omega
              · cases hcap
          have := law L.blk (L.base + off) c (ss.map fun s => ⟨s.toArray⟩) ⟨sep.list.toArray⟩ w (by
            intro j x hj
            have h4 : CS[j]? = some (.string x) := by
              rw [hCSe]
              simp only [List.getElem?_map, Option.map_eq_some_iff] at hj ⊢
              obtain ⟨s, hs, rfl⟩ := hj
              exact ⟨s, hs, rfl⟩
            have h5 := hcells j _ h4
            rwa [add_eq] at h5) hat.lt (by simp; omega) (by simp; omega) (by
            rw [map_back]
            exact Nat.le_trans hl.1.1 (by decide))
          simp only [map_back, List.length_map, hn] at this
          exact this.mono fun e w' he => post_below hR he.1 he.2 (by simp [g, BS.ofList_list])
        · cases hr
      · cases hr
    · cases hr
  · cases hr
end
end Ax
namespace Ax
open Go
variable [Sy]

/-- The heap that holds one row. -/
noncomputable def mini (el : TypeId) (bs : List AV) : Hp := Hp.empty.new (.row el (.gen bs) none)
theorem mini_get (el : TypeId) (bs : List AV) (j : Nat) : (mini el bs).get j = if j = 0 then some (.row el (.gen bs) none) else none := by
  unfold mini
  rw [Hp.get_new]
  have : Hp.empty.nxt = 0 := rfl
  rw [this]
  by_cases h : j = 0
  · simp [h]
  · simp [h, Hp.get, Hp.empty, T.get_nil]

section
variable {P : Program} {ng : Nat} {gl : T (List AV)} {φ : Mp} {h : Hp} {w w' : World} {f : FuncId}

theorem mini_rel (hp : Plain gl) (hR : Rel ng (glF gl) φ h w) {id off n : Nat} {el : TypeId} {cs : Cl} {tail : Option Nat} (hg : h.get id = some (.row el cs tail)) (hle : off + n ≤ cs.list.length) {L : Lc} (hL : φ id = some L)
    {bs : List AV} (hbs : bs = (cs.list.drop off).take n) {BS : List Value} (hB : gL (fun _ => none) bs = some BS) :
    Rel ng (glF gl) (upd (fun _ => none) 0 ⟨L.blk, L.base + off, n, 0, undef⟩) (mini el bs) w := by
  obtain ⟨L', hL', hng, c, lo, hi, xs, hh, hxs, hbt, hxl, htail, hesz, hget, hfz⟩ := hR.at_ id _ hg
  rw [hL] at hL'; simp only [Option.some.injEq] at hL'; subst hL'
  have hxlen := gL_length hxs
  have hBx : BS = (xs.drop off).take n := by
    have h1 := gL_sub (sub_none φ) hB
    have h2 : gL φ bs = some ((xs.drop off).take n) := by rw [hbs]; exact gL_take n (gL_drop off hxs)
    rw [h1] at h2; simpa using h2
  have hBl : BS.length = n := by rw [hBx, List.length_take, List.length_drop]; omega
  refine ⟨fun j o ho => ?_, fun i j o u M N hi' hj hM hN hb => ?_, fun j hj => ?_, hR.ngle, fun k ds hk => ?_⟩
  · rw [mini_get] at ho
    split at ho
    · rename_i hj
      subst hj
      simp only [Option.some.injEq] at ho; subst ho
      refine ⟨_, upd_self _ _ _, hng, c, lo, hi, BS, hh, gL_sub (sub_none _) hB, by show L.base + off + n ≤ c.size; omega, by show BS.length ≤ n; omega, fun _ => hBl, (fun m hm => by cases hm), fun i hi' => ?_, hfz⟩
      show c[L.base + off + i]? = BS[i]?
      rw [hBx, List.getElem?_take, if_pos (by omega), List.getElem?_drop, ← hget _ (by omega)]
      congr 1; omega
    · cases ho
  · rw [mini_get] at hi' hj
    by_cases h1 : i = 0
    · by_cases h2 : j = 0
      · omega
      · rw [if_neg h2] at hj; cases hj
    · rw [if_neg h1] at hi'; cases hi'
  · have : (mini el bs).nxt = 1 := rfl
    rw [upd_ne (by omega)]
  · obtain ⟨k1, k2⟩ := (hR.empty hp).gl_ k ds hk
    obtain ⟨c, el, fz, xs, a1, a2, a3⟩ := k2
    exact ⟨k1, c, el, fz, xs, a1, gL_sub (sub_none _) a2, a3⟩

/-- A call over one row, which leaves it as it was and gives what holds no address, is the same in any heap. -/
theorem view_ok {E : Env} (hp : Plain E.gl) {cal : FuncId → List AV → Hp → CR} (hc : CalOk E.P ng E.gl cal) (hR : Rel ng (glF E.gl) φ h w) {id off n : Nat} {cp : Cp} {el : TypeId} {cs : Cl} {tail : Option Nat}
    (hg : h.get id = some (.row el cs tail)) (hle : off + n ≤ cs.list.length) {bs : List AV} (hbs : bs = (cs.list.drop off).take n) {BS : List Value} (hB : gL (fun _ => none) bs = some BS) {v : AV} {V : Value} (hv : g (fun _ => none) v = some V)
    (hrun : ∀ c, ∃ h', cal f [.slc (some (.own 0, 0)) n (.k c)] (mini el bs) = .ret v h' ∧ h'.get 0 = some (.row el (.gen bs) none)) {A : List Value} (hA : gL φ [.slc (some (.own id, off)) n cp] = some A) :
    Calls E.P f A.toArray w (CPost ng E.gl φ h w (.ret v h)) := by
  obtain ⟨X, rfl, hX⟩ := gL1 hA
  obtain ⟨Ad0, c, hA', rfl, _⟩ := g_slc hX
  obtain ⟨L, hL, hng, hat⟩ := hR.at_ id _ hg
  have hAe : Ad0 = ⟨L.blk, L.base + off, none⟩ := by simpa [gA, hL] using hA'.symm
  subst hAe
  obtain ⟨hm, hcal, hrow⟩ := hrun c
  have hRm := mini_rel hp hR hg hle hL hbs hB
  have := hc f _ (mini el bs) (by rw [hcal]; trivial) _ w [.slice (some ⟨L.blk, L.base + off, none⟩) n c] (by simp [gL, g, gA, upd_self]) hRm
  rw [hcal] at this
  refine this.mono fun e w' he => ?_
  cases e with
  | panicked ch => exact he.elim
  | outgrown => exact he.elim
  | returned Y =>
    obtain ⟨φ', hv', hR', hS⟩ := he
    have hVY : V = Y := by
      have := g_sub (sub_none φ') hv
      rw [hv'] at this; simpa using this.symm
    subst hVY
    have hdom : ∀ b, Dom (upd (fun _ => none) 0 ⟨L.blk, L.base + off, n, 0, undef⟩) (mini el bs) b → b = L.blk := by
      rintro b ⟨j, o, M, h1, h2, h3⟩
      rw [mini_get] at h1
      by_cases hj : j = 0
      · subst hj; rw [upd_self] at h2; simp only [Option.some.injEq] at h2; subst h2; exact h3.symm
      · rw [if_neg hj] at h1; cases h1
    have hseen : ∀ b o, Seen (upd (fun _ => none) 0 ⟨L.blk, L.base + off, n, 0, undef⟩) (mini el bs) b o → b = L.blk ∧ L.base + off ≤ o ∧ o < L.base + off + n := by
      rintro b o ⟨j, ob, M, h1, h2, h3, h4, h5⟩
      rw [mini_get] at h1
      by_cases hj : j = 0
      · subst hj; rw [upd_self] at h2; simp only [Option.some.injEq] at h2; subst h2; exact ⟨h3.symm, h4, h5⟩
      · rw [if_neg hj] at h1; cases h1
    obtain ⟨cc, lo, hi, xs, hh, hxs, hbt, hxl, htail, hesz, hget, hfz⟩ := hat
    have hxlen := gL_length hxs
    have hlt : L.blk < w.heap.size := (Array.getElem?_eq_some_iff.1 hh).1
    obtain ⟨c', fz', g1, g2, g3⟩ := hS.cells L.blk cc el (lo, hi) hlt hh
    obtain ⟨L2, hL2, _, c2, lo2, hi2, BS2, hh2, hB2, _, _, _, _, hget2, hfz2⟩ := hR'.at_ 0 _ hrow
    have hL2' := hS.sub 0 _ (upd_self _ _ _)
    rw [hL2] at hL2'; simp only [Option.some.injEq] at hL2'; subst hL2'
    have hh2' : w'.heap[L.blk]? = some (.cells c2 el (lo2, hi2)) := hh2
    rw [g1] at hh2'
    simp only [Option.some.injEq, Obj.cells.injEq, true_and] at hh2'
    obtain ⟨rfl, rfl⟩ := hh2'
    have hBe : BS2 = (xs.drop off).take n := by
      have h1 := gL_sub (sub_none φ') hB
      have h2 : gL φ bs = some ((xs.drop off).take n) := by rw [hbs]; exact gL_take n (gL_drop off hxs)
      have h3 := gL_sub (sub_none φ) hB
      have hB2 : gL φ' bs = some BS2 := hB2
      rw [hB2] at h1; rw [h2] at h3
      simp only [Option.some.injEq] at h1 h3
      rw [h1, h3]
    have hat' : At φ L (.row el cs tail) w' := by
      refine ⟨c', lo2, hi2, xs, g1, hxs, by omega, hxl, htail, hesz.to g2 rfl, fun i hi' => ?_, hfz2⟩
      by_cases hv : off ≤ i ∧ i < off + n
      · have h1 := hget2 (i - off) (by rw [hBe, List.length_take, List.length_drop]; omega)
        have h2 : L.base + off + (i - off) = L.base + i := by omega
        simp only [h2] at h1
        rw [h1, hBe, List.getElem?_take, if_pos (by omega), List.getElem?_drop]
        congr 1; omega
      · rw [g3 (L.base + i) (fun hs => by obtain ⟨_, h1, h2⟩ := hseen _ _ hs; omega)]
        exact hget i hi'
    refine ⟨φ, g_sub (sub_none φ) hv, ⟨fun j o0 hj => ?_, hR.inj, hR.fresh, Nat.le_trans hR.ngle hS.size, fun k ds hk => ?_⟩, ⟨⟨Sub.refl _, hS.os, hS.tape, hS.output, hS.size, fun b hb hd => ?_, fun b hd => .inl hd, fun b c0 e0 f0 hb hc0 => ?_, fun j o0 M h1 h2 _ => ⟨j, o0, M, h1, h2, rfl, Nat.le_refl _, Nat.le_refl _⟩⟩, fun _ _ => rfl, Nat.le_refl _⟩⟩
    · obtain ⟨M, hM, ngM, hatM⟩ := hR.at_ j o0 hj
      by_cases hb : M.blk = L.blk
      · have := hR.inj j id o0 _ M L hj hg hM hL hb
        subst this
        rw [hL] at hM; simp only [Option.some.injEq] at hM; subst hM
        rw [hg] at hj; simp only [Option.some.injEq] at hj; subst hj
        exact ⟨L, hL, hng, hat'⟩
      · exact ⟨M, hM, ngM, hatM.frame (hS.block _ hatM.lt fun hd => hb (hdom _ hd))⟩
    · obtain ⟨k1, c0, e0, f0, ys, a1, a2, a3⟩ := hR.gl_ k ds hk
      exact ⟨k1, c0, e0, f0, ys, by rw [hS.block k (Nat.lt_of_lt_of_le k1 hR.ngle) (fun hd => by have := hdom _ hd; omega), a1], a2, a3⟩
    · exact hS.block b hb fun hd' => hd ⟨id, _, L, hg, hL, (hdom b hd').symm⟩
    · obtain ⟨c9, f9, b1, b2, b3⟩ := hS.cells b c0 e0 f0 hb hc0
      refine ⟨c9, f9, b1, b2, fun o ho => b3 o fun hs => ho ?_⟩
      obtain ⟨rfl, h1, h2⟩ := hseen _ _ hs
      exact ⟨id, _, L, hg, hL, rfl, by omega, by omega⟩

/-- An oracle by a table: of a slice's contents. -/
noncomputable def oTab (el : TypeId) (F : List AV → Option AV) : Oc
  | [.slc (some (.own id, off)) n _], h => (match h.get id with
    | some (.row el' cs _) => bif Nat.beq el' el && Nat.ble (off + n) cs.len then (match F ((cs.drop off).take n).list with | some v => some (.ret v h) | none => none) else none
    | _ => none)
  | _, _ => none
theorem oTab_ok {E : Env} (hp : Plain E.gl) {cal : FuncId → List AV → Hp → CR} (hc : CalOk E.P ng E.gl cal) {el : TypeId} {F : List AV → Option AV}
    (hF : ∀ bs v, F bs = some v → (∃ BS, gL (fun _ => none) bs = some BS) ∧ (∃ V, g (fun _ => none) v = some V) ∧ ∀ c, ∃ h', cal f [.slc (some (.own 0, 0)) bs.length (.k c)] (mini el bs) = .ret v h' ∧ h'.get 0 = some (.row el (.gen bs) none)) :
    OOk E.P ng E.gl f (oTab el F) := by
  intro vs h r hr _ φ w A hA hR
  unfold oTab at hr
  split at hr
  · rename_i id off n cp
    split at hr
    · rename_i el' cs tail hg
      rw [Bool.cond_eq_ite] at hr
      split at hr
      · rename_i hb
        simp only [Bool.and_eq_true, Nat.beq_eq, Nat.ble_eq, Cl.len_eq] at hb
        obtain ⟨rfl, hle⟩ := hb
        split at hr
        · rename_i v hv
          rw [Cl.take_eq, Cl.drop_eq] at hv
          simp only [Option.some.injEq] at hr; subst hr
          obtain ⟨⟨BS, hB⟩, ⟨V, hV⟩, hrun⟩ := hF _ v hv
          have hl : ((cs.list.drop off).take n).length = n := by rw [List.length_take, List.length_drop]; omega
          rw [hl] at hrun
          exact view_ok hp hc hR hg hle rfl hB hV hrun hA
        · cases hr
      · cases hr
    · cases hr
  · cases hr

/-- Does a run give just this, and leave the row? -/
noncomputable def chkSum (r : CR) (v : AV) (el : TypeId) (bs : List AV) : Bool := match r with
  | .ret u h => avEq u v && (match h.get 0 with
    | some (.row e cs none) => (match cs with | .gen cs => Nat.beq e el && avEqL cs bs | .byt _ => false)
    | _ => false)
  | _ => false
theorem chkSum_ok {r : CR} {v : AV} {el : TypeId} {bs : List AV} (hc : chkSum r v el bs = true) : ∃ h', r = .ret v h' ∧ h'.get 0 = some (.row el (.gen bs) none) := by
  unfold chkSum at hc
  split at hc
  · rename_i u h
    rw [Bool.and_eq_true] at hc
    obtain ⟨h1, h2⟩ := hc
    rw [avEq_ok _ _ h1]
    refine ⟨h, rfl, ?_⟩
    split at h2
    · rename_i e cs hg
      split at h2
      · rw [Bool.and_eq_true, Nat.beq_eq] at h2
        rw [hg, h2.1, avEqL_ok _ _ h2.2]
      · cases h2
    · cases h2
  · cases hc
end
end Ax
namespace Ax
open Go
variable [Sy]
section
variable {P : Program} {ng : Nat} {gl : T (List AV)} {φ : Mp} {h : Hp} {w w' : World} {f : FuncId}

theorem gL_append_inv {φ : Mp} : ∀ {l m : List AV} {xs : List Value}, gL φ (l ++ m) = some xs → ∃ a b, xs = a ++ b ∧ gL φ l = some a ∧ gL φ m = some b
  | [], m, xs, h => ⟨[], xs, rfl, rfl, h⟩
  | v :: l, m, xs, h => by
    simp only [List.cons_append, gL, Option.map_eq_some_iff, Option.bind_eq_some_iff] at h
    obtain ⟨y, hy, zs, hzs, rfl⟩ := h
    obtain ⟨a, b, rfl, h1, h2⟩ := gL_append_inv hzs
    exact ⟨y :: a, b, rfl, by simp [gL, hy, h1], h2⟩

theorem gCap_le {e n c : Nat} {a : Ad × Nat} (h : gCap φ e n a = some c) : n ≤ c := by
  obtain ⟨d, off⟩ := a
  cases d with
  | glob k => cases h
  | own id =>
    simp only [gCap, Option.bind_eq_some_iff] at h
    obtain ⟨L, _, h2⟩ := h
    split at h2
    · rename_i hh; simp only [Option.some.injEq] at h2; subst h2; exact hh.2.1
    · cases h2

/-- As `view_ok`, with arguments ahead of the row's that hold no address. -/
theorem view_pre {E : Env} (hp : Plain E.gl) {cal : FuncId → List AV → Hp → CR} (hc : CalOk E.P ng E.gl cal) (hR : Rel ng (glF E.gl) φ h w) {id off n : Nat} {cp : Cp} {el : TypeId} {cs : Cl} {tail : Option Nat}
    (hg : h.get id = some (.row el cs tail)) (hle : off + n ≤ cs.list.length) {bs : List AV} (hbs : bs = (cs.list.drop off).take n) {BS : List Value} (hB : gL (fun _ => none) bs = some BS) {v : AV} {V : Value} (hv : g (fun _ => none) v = some V)
    {pre : List AV} {PRE : List Value} (hpre : gL (fun _ => none) pre = some PRE)
    (hcap : capOk n cp = true) (hrun : ∀ c, n ≤ c → ∃ h', cal f (pre ++ [.slc (some (.own 0, 0)) n (.k c)]) (mini el bs) = .ret v h' ∧ h'.get 0 = some (.row el (.gen bs) none)) {A : List Value} (hA : gL φ (pre ++ [.slc (some (.own id, off)) n cp]) = some A) :
    Calls E.P f A.toArray w (CPost ng E.gl φ h w (.ret v h)) := by
  obtain ⟨X, rfl, hX⟩ : ∃ X, A = PRE ++ [X] ∧ g φ (.slc (some (.own id, off)) n cp) = some X := by
    obtain ⟨P0, B0, rfl, h1, h2⟩ := gL_append_inv hA
    obtain ⟨X, rfl, hX⟩ := gL1 h2
    have := gL_sub (sub_none φ) hpre
    rw [h1] at this; simp only [Option.some.injEq] at this; subst this
    exact ⟨X, rfl, hX⟩
  obtain ⟨Ad0, c, hA', rfl, hcp⟩ := g_slc hX
  have hnc : n ≤ c := by
    cases cp with
    | k d => simp only at hcp; subst hcp; simpa [capOk, Nat.ble_eq] using hcap
    | u e => exact gCap_le hcp
  obtain ⟨L, hL, hng, hat⟩ := hR.at_ id _ hg
  have hAe : Ad0 = ⟨L.blk, L.base + off, none⟩ := by simpa [gA, hL] using hA'.symm
  subst hAe
  obtain ⟨hm, hcal, hrow⟩ := hrun c hnc
  have hRm := mini_rel hp hR hg hle hL hbs hB
  have := hc f _ (mini el bs) (by rw [hcal]; trivial) _ w (PRE ++ [.slice (some ⟨L.blk, L.base + off, none⟩) n c]) (gL_append (gL_sub (sub_none _) hpre) (by simp [gL, g, gA, upd_self])) hRm
  rw [hcal] at this
  refine this.mono fun e w' he => ?_
  cases e with
  | panicked ch => exact he.elim
  | outgrown => exact he.elim
  | returned Y =>
    obtain ⟨φ', hv', hR', hS⟩ := he
    have hVY : V = Y := by
      have := g_sub (sub_none φ') hv
      rw [hv'] at this; simpa using this.symm
    subst hVY
    have hdom : ∀ b, Dom (upd (fun _ => none) 0 ⟨L.blk, L.base + off, n, 0, undef⟩) (mini el bs) b → b = L.blk := by
      rintro b ⟨j, o, M, h1, h2, h3⟩
      rw [mini_get] at h1
      by_cases hj : j = 0
      · subst hj; rw [upd_self] at h2; simp only [Option.some.injEq] at h2; subst h2; exact h3.symm
      · rw [if_neg hj] at h1; cases h1
    have hseen : ∀ b o, Seen (upd (fun _ => none) 0 ⟨L.blk, L.base + off, n, 0, undef⟩) (mini el bs) b o → b = L.blk ∧ L.base + off ≤ o ∧ o < L.base + off + n := by
      rintro b o ⟨j, ob, M, h1, h2, h3, h4, h5⟩
      rw [mini_get] at h1
      by_cases hj : j = 0
      · subst hj; rw [upd_self] at h2; simp only [Option.some.injEq] at h2; subst h2; exact ⟨h3.symm, h4, h5⟩
      · rw [if_neg hj] at h1; cases h1
    obtain ⟨cc, lo, hi, xs, hh, hxs, hbt, hxl, htail, hesz, hget, hfz⟩ := hat
    have hxlen := gL_length hxs
    have hlt : L.blk < w.heap.size := (Array.getElem?_eq_some_iff.1 hh).1
    obtain ⟨c', fz', g1, g2, g3⟩ := hS.cells L.blk cc el (lo, hi) hlt hh
    obtain ⟨L2, hL2, _, c2, lo2, hi2, BS2, hh2, hB2, _, _, _, _, hget2, hfz2⟩ := hR'.at_ 0 _ hrow
    have hL2' := hS.sub 0 _ (upd_self _ _ _)
    rw [hL2] at hL2'; simp only [Option.some.injEq] at hL2'; subst hL2'
    have hh2' : w'.heap[L.blk]? = some (.cells c2 el (lo2, hi2)) := hh2
    rw [g1] at hh2'
    simp only [Option.some.injEq, Obj.cells.injEq, true_and] at hh2'
    obtain ⟨rfl, rfl⟩ := hh2'
    have hBe : BS2 = (xs.drop off).take n := by
      have h1 := gL_sub (sub_none φ') hB
      have h2 : gL φ bs = some ((xs.drop off).take n) := by rw [hbs]; exact gL_take n (gL_drop off hxs)
      have h3 := gL_sub (sub_none φ) hB
      have hB2 : gL φ' bs = some BS2 := hB2
      rw [hB2] at h1; rw [h2] at h3
      simp only [Option.some.injEq] at h1 h3
      rw [h1, h3]
    have hat' : At φ L (.row el cs tail) w' := by
      refine ⟨c', lo2, hi2, xs, g1, hxs, by omega, hxl, htail, hesz.to g2 rfl, fun i hi' => ?_, hfz2⟩
      by_cases hv : off ≤ i ∧ i < off + n
      · have h1 := hget2 (i - off) (by rw [hBe, List.length_take, List.length_drop]; omega)
        have h2 : L.base + off + (i - off) = L.base + i := by omega
        simp only [h2] at h1
        rw [h1, hBe, List.getElem?_take, if_pos (by omega), List.getElem?_drop]
        congr 1; omega
      · rw [g3 (L.base + i) (fun hs => by obtain ⟨_, h1, h2⟩ := hseen _ _ hs; omega)]
        exact hget i hi'
    refine ⟨φ, g_sub (sub_none φ) hv, ⟨fun j o0 hj => ?_, hR.inj, hR.fresh, Nat.le_trans hR.ngle hS.size, fun k ds hk => ?_⟩, ⟨⟨Sub.refl _, hS.os, hS.tape, hS.output, hS.size, fun b hb hd => ?_, fun b hd => .inl hd, fun b c0 e0 f0 hb hc0 => ?_, fun j o0 M h1 h2 _ => ⟨j, o0, M, h1, h2, rfl, Nat.le_refl _, Nat.le_refl _⟩⟩, fun _ _ => rfl, Nat.le_refl _⟩⟩
    · obtain ⟨M, hM, ngM, hatM⟩ := hR.at_ j o0 hj
      by_cases hb : M.blk = L.blk
      · have := hR.inj j id o0 _ M L hj hg hM hL hb
        subst this
        rw [hL] at hM; simp only [Option.some.injEq] at hM; subst hM
        rw [hg] at hj; simp only [Option.some.injEq] at hj; subst hj
        exact ⟨L, hL, hng, hat'⟩
      · exact ⟨M, hM, ngM, hatM.frame (hS.block _ hatM.lt fun hd => hb (hdom _ hd))⟩
    · obtain ⟨k1, c0, e0, f0, ys, a1, a2, a3⟩ := hR.gl_ k ds hk
      exact ⟨k1, c0, e0, f0, ys, by rw [hS.block k (Nat.lt_of_lt_of_le k1 hR.ngle) (fun hd => by have := hdom _ hd; omega), a1], a2, a3⟩
    · exact hS.block b hb fun hd' => hd ⟨id, _, L, hg, hL, (hdom b hd').symm⟩
    · obtain ⟨c9, f9, b1, b2, b3⟩ := hS.cells b c0 e0 f0 hb hc0
      refine ⟨c9, f9, b1, b2, fun o ho => b3 o fun hs => ho ?_⟩
      obtain ⟨rfl, h1, h2⟩ := hseen _ _ hs
      exact ⟨id, _, L, hg, hL, rfl, by omega, by omega⟩


/-- An oracle: a function of an argument that holds no address and of a slice's contents. -/
noncomputable def oPre (el : TypeId) (F : AV → List AV → Option AV) : Oc
  | [a, .slc (some (.own id, off)) n cp], h => (match h.get id with
    | some (.row el' cs _) => bif Nat.beq el' el && Nat.ble (off + n) cs.len && capOk n cp then (match F a ((cs.drop off).take n).list with | some v => some (.ret v h) | none => none) else none
    | _ => none)
  | _, _ => none
theorem oPre_ok {E : Env} (hp : Plain E.gl) {cal : FuncId → List AV → Hp → CR} (hc : CalOk E.P ng E.gl cal) {el : TypeId} {F : AV → List AV → Option AV}
    (hF : ∀ a bs v, F a bs = some v → (∃ X, g (fun _ => none) a = some X) ∧ (∃ BS, gL (fun _ => none) bs = some BS) ∧ (∃ V, g (fun _ => none) v = some V) ∧ ∀ c, bs.length ≤ c → ∃ h', cal f [a, .slc (some (.own 0, 0)) bs.length (.k c)] (mini el bs) = .ret v h' ∧ h'.get 0 = some (.row el (.gen bs) none)) :
    OOk E.P ng E.gl f (oPre el F) := by
  intro vs h r hr _ φ w A hA hR
  unfold oPre at hr
  split at hr
  · rename_i a id off n cp
    split at hr
    · rename_i el' cs tail hg
      rw [Bool.cond_eq_ite] at hr
      split at hr
      · rename_i hb
        simp only [Bool.and_eq_true, Nat.beq_eq, Nat.ble_eq, Cl.len_eq] at hb
        obtain ⟨⟨rfl, hle⟩, hcap⟩ := hb
        split at hr
        · rename_i v hv
          rw [Cl.take_eq, Cl.drop_eq] at hv
          simp only [Option.some.injEq] at hr; subst hr
          obtain ⟨⟨X, hX⟩, ⟨BS, hB⟩, ⟨V, hV⟩, hrun⟩ := hF a _ v hv
          have hl : ((cs.list.drop off).take n).length = n := by rw [List.length_take, List.length_drop]; omega
          rw [hl] at hrun
          exact view_pre hp hc hR hg hle rfl hB hV (pre := [a]) (PRE := [X]) (by simp [gL, hX]) hcap hrun hA
        · cases hr
      · cases hr
    · cases hr
  · cases hr
/-- An oracle: a function of arguments that hold no address. -/
noncomputable def oClo (F : List AV → Option AV) : Oc
  | as, h => match F as with | some v => some (.ret v h) | none => none
theorem oClo_ok {E : Env} (hp : Plain E.gl) {cal : FuncId → List AV → Hp → CR} (hc : CalOk E.P ng E.gl cal) {F : List AV → Option AV}
    (hF : ∀ as v, F as = some v → ∃ X, gL (fun _ => none) as = some X ∧ (∃ V, g (fun _ => none) v = some V) ∧ ∃ as' h', gL (fun _ => none) as' = some X ∧ cal f as' Hp.empty = .ret v h') :
    OOk E.P ng E.gl f (oClo F) := by
  intro as h r hr _ φ w A hA hR
  cases hv : F as with
  | none => simp [oClo, hv] at hr
  | some v =>
    simp only [oClo, hv, Option.some.injEq] at hr; subst hr
    obtain ⟨X, hX, ⟨V, hV⟩, as', h', hX', hrun⟩ := hF as v hv
    have hAX : A = X := by
      have := gL_sub (sub_none φ) hX
      rw [hA] at this; simpa using this
    subst hAX
    exact closed_ok hp hc hR hX' hV ⟨h', hrun⟩ (gL_sub (sub_none φ) hX')
end
end Ax
namespace Ax
open Go
variable [Sy]
section
variable {P : Program} {ng : Nat} {gl : T (List AV)} {φ : Mp} {h : Hp} {w w' : World} {f : FuncId}

/-- An object in a block that was not there before. -/
theorem fresh_step (hR : Rel ng (glF gl) φ h w) (hb : RowKit.Below w.heap.size w w') (L : Lc) {ob : AO} (hL : w.heap.size ≤ L.blk) (hat : At (upd φ h.nxt L) L ob w') :
    Rel ng (glF gl) (upd φ h.nxt L) (h.new ob) w' ∧ Stp φ h w (upd φ h.nxt L) (h.new ob) w' := by
  have hid : φ h.nxt = none := hR.fresh _ (Nat.le_refl _)
  have hsub := upd_sub L hid
  have hget : ∀ j, (h.new ob).get j = if j = h.nxt then some ob else h.get j := fun j => Hp.get_new h j ob
  have low : ∀ {j o M}, h.get j = some o → φ j = some M → M.blk < w.heap.size := fun hj hM => by
    obtain ⟨M', hM', _, hAt⟩ := hR.at_ _ _ hj
    rw [hM] at hM'; simp only [Option.some.injEq] at hM'; subst hM'
    exact hAt.lt
  refine ⟨⟨?_, ?_, ?_, Nat.le_trans hR.ngle hb.size, ?_⟩, ⟨⟨hsub, hb.os, hb.tape, hb.output, hb.size, fun b hb' _ => hb.block b hb', ?_, fun b c el fz hb' hc => ⟨c, fz, by rw [hb.block b hb']; exact hc, rfl, fun _ _ => rfl⟩, ?_⟩, fun j hj => upd_ne (by omega), Nat.le_succ _⟩⟩
  · intro j o hj
    rw [hget] at hj
    by_cases hji : j = h.nxt
    · subst hji
      simp only [if_true, Option.some.injEq] at hj; subst hj
      exact ⟨L, upd_self _ _ _, Nat.le_trans hR.ngle hL, hat⟩
    · rw [if_neg hji] at hj
      obtain ⟨M, hM, hng, hAt⟩ := hR.at_ j o hj
      exact ⟨M, hsub _ _ hM, hng, (hAt.sub hsub).frame (hb.block _ hAt.lt)⟩
  · intro i j o u M N hi hj hM hN hbk
    rw [hget] at hi hj
    by_cases hii : i = h.nxt
    · by_cases hjj : j = h.nxt
      · rw [hii, hjj]
      · rw [if_neg hjj] at hj
        rw [upd_ne hjj] at hN
        subst hii; rw [upd_self] at hM; simp only [Option.some.injEq] at hM; subst hM
        have := low hj hN; omega
    · rw [if_neg hii] at hi
      rw [upd_ne hii] at hM
      by_cases hjj : j = h.nxt
      · subst hjj; rw [upd_self] at hN; simp only [Option.some.injEq] at hN; subst hN
        have := low hi hM; omega
      · rw [if_neg hjj] at hj
        rw [upd_ne hjj] at hN
        exact hR.inj i j o u M N hi hj hM hN hbk
  · intro j hj
    have : (h.new ob).nxt = h.nxt + 1 := rfl
    rw [upd_ne (by omega)]
    exact hR.fresh j (by omega)
  · intro n cs hg
    obtain ⟨hlt, c, el, fz, xs, h1, h2, h3⟩ := hR.gl_ n cs hg
    exact ⟨hlt, c, el, fz, xs, by rw [hb.block n (by have := hR.ngle; omega), h1], gL_sub hsub h2, h3⟩
  · rintro b ⟨j, o, M, hj, hM, rfl⟩
    rw [hget] at hj
    by_cases hji : j = h.nxt
    · subst hji; rw [upd_self] at hM; simp only [Option.some.injEq] at hM; subst hM
      exact .inr hL
    · rw [if_neg hji] at hj
      rw [upd_ne hji] at hM
      exact .inl ⟨j, o, M, hj, hM, rfl⟩
  · intro j o M hj hM hlt
    rw [hget] at hj
    by_cases hji : j = h.nxt
    · subst hji; rw [upd_self] at hM; simp only [Option.some.injEq] at hM; subst hM
      omega
    · rw [if_neg hji] at hj
      rw [upd_ne hji] at hM
      exact ⟨j, o, M, hj, hM, rfl, Nat.le_refl _, Nat.le_refl _⟩

/-- A new row, its room unknown. -/
theorem post_row (hR : Rel ng (glF gl) φ h w) {w1 : World} (hb : RowKit.Below w.heap.size w w') {el : TypeId} {size n : Nat} (hs : 0 < size) {V : Value} {xs : List Value} {cs : Cl} (hn : 0 < n) (hw1 : w.heap.size ≤ w1.heap.size)
    (hown : w'.ownsRow w1.heap.size el size V n xs) (hcs : gL φ cs.list = some xs) {e : Ending} (he : e = .returned V) :
    CPost ng gl φ h w (.ret (.slc (some (.own h.nxt, 0)) n (.u size)) (h.new (.row el cs (some size)))) e w' := by
  subst he
  obtain ⟨hlen, hown⟩ := hown
  rcases hown with ⟨_, h0⟩ | ⟨gb, cap, cur, rfl, hge, hh, hnc, _, hsz, htk⟩
  · omega
  have hsub : Sub φ (upd φ h.nxt ⟨gb, 0, cur.size, size, undef⟩) := upd_sub _ (hR.fresh _ (Nat.le_refl _))
  have hle : xs.length ≤ cur.size := by rw [← htk, List.length_take, Array.length_toList]; omega
  obtain ⟨h1, h2⟩ := fresh_step hR hb ⟨gb, 0, cur.size, size, undef⟩ (ob := .row el cs (some size)) (by show w.heap.size ≤ gb; omega) ⟨cur, 0, 0, xs, hh, gL_sub hsub hcs, by show 0 + cur.size ≤ cur.size; omega, hle, (fun hx => by cases hx), (fun m hm => by cases hm; exact .inl ⟨rfl, hs⟩), fun i hi => by
    show cur[0 + i]? = xs[i]?
    rw [← htk] at hi
    rw [← htk, List.getElem?_take, if_pos (by rw [List.length_take] at hi; omega), Nat.zero_add, Array.getElem?_toList], .inl rfl⟩
  refine ⟨_, ?_, h1, h2⟩
  have hd : (cur.size - 0) / size = cap := by rw [hsz, Nat.sub_zero, Nat.mul_div_cancel _ hs]
  have hc : gCap (upd φ h.nxt ⟨gb, 0, cur.size, size, undef⟩) size n (.own h.nxt, 0) = some cap := by
    simp only [gCap, upd_self, Option.bind_some]
    rw [if_pos ⟨trivial, by show n ≤ (cur.size - 0) / size; omega, Nat.zero_le _⟩]
    exact congrArg some hd
  simp only [g, gA, upd_self, Option.map_some, Option.bind_some, hc, Nat.add_zero]
end
end Ax
namespace Ax
open Go
variable [Sy]

/-! ## The operations -/

noncomputable def a32 (x y : Int) : Int := wr .u32 (x + y)
noncomputable def s32 (x y : Int) : Int := wr .u32 (x - y)
noncomputable def m32 (x y : Int) : Int := wr .u32 (x * y)
noncomputable def and32 (x y : Int) : Int := IntKind.wrap .u32 ((BitVec.ofInt (IntKind.bits .u32) x &&& BitVec.ofInt (IntKind.bits .u32) y).toNat)
noncomputable def or32 (x y : Int) : Int := IntKind.wrap .u32 ((BitVec.ofInt (IntKind.bits .u32) x ||| BitVec.ofInt (IntKind.bits .u32) y).toNat)
noncomputable def xor32 (x y : Int) : Int := IntKind.wrap .u32 ((BitVec.ofInt (IntKind.bits .u32) x ^^^ BitVec.ofInt (IntKind.bits .u32) y).toNat)
noncomputable def shl32 (x : Int) (m : Nat) : Int := wr .u32 (x * 2 ^ (min m (IntKind.bits .u32)))
noncomputable def shr32 (x : Int) (m : Nat) : Int := x.fdiv (2 ^ (min m (IntKind.bits .u32)))
/-- The program's turn to the right; the reference's. -/
noncomputable def rotP (x : Int) (r : Nat) : Int := or32 (shl32 x (32 - r)) (shr32 x r)
noncomputable def rotR (x : Int) (r : Nat) : Int := a32 (shr32 x r) (shl32 x (32 - r))

noncomputable def aN (x y : Nat) : Nat := Nat.mod (Nat.add x y) 4294967296
noncomputable def mN (x y : Nat) : Nat := Nat.mod (Nat.mul x y) 4294967296
noncomputable def andN (x y : Nat) : Nat := Nat.mod (Nat.land x y) 4294967296
noncomputable def orN (x y : Nat) : Nat := Nat.mod (Nat.lor x y) 4294967296
noncomputable def xorN (x y : Nat) : Nat := Nat.mod (Nat.xor x y) 4294967296
noncomputable def shlN (x m : Nat) : Nat := Nat.mod (Nat.mul x m) 4294967296
noncomputable def shrN (x m : Nat) : Nat := Nat.div x m

noncomputable def notN (x : Nat) : Nat := Nat.mod (Nat.sub 8589934591 (Nat.mod x 4294967296)) 4294967296

theorem bits32 : IntKind.bits .u32 = 32 := rfl
theorem wrap32 (n : Nat) : IntKind.wrap .u32 (n : Int) = ((n % 4294967296 : Nat) : Int) := by
  simp [IntKind.wrap, IntKind.bits, IntKind.signed]
theorem wr32 (n : Nat) : wr .u32 (n : Int) = ((n % 4294967296 : Nat) : Int) := by
  show (bif Nat.blt n (roof .u32) then (Int.ofNat n) else IntKind.wrap .u32 (Int.ofNat n)) = _
  rw [Bool.cond_eq_ite]
  split
  · rename_i h
    have : n < 4294967296 := by simpa [Nat.blt_eq, roof] using h
    rw [Nat.mod_eq_of_lt this]; rfl
  · exact wrap32 n
theorem a32N (x y : Nat) : a32 (x : Int) (y : Int) = (aN x y : Nat) := by
  show wr .u32 ((x : Int) + (y : Int)) = _
  rw [← Int.natCast_add, wr32]; rfl
theorem m32N (x y : Nat) : m32 (x : Int) (y : Int) = (mN x y : Nat) := by
  show wr .u32 ((x : Int) * (y : Int)) = _
  rw [← Int.natCast_mul, wr32]; rfl
theorem and32N (x y : Nat) : and32 (x : Int) (y : Int) = (andN x y : Nat) := by
  show IntKind.wrap .u32 _ = _
  rw [wrap32]; simp only [BitVec.ofInt_natCast, bits32]
  congr 1
  show ((x % 2 ^ 32) &&& (y % 2 ^ 32)) % 4294967296 = (x &&& y) % 4294967296
  rw [show (4294967296 : Nat) = 2 ^ 32 from rfl, ← Nat.and_mod_two_pow, Nat.mod_mod]
theorem or32N (x y : Nat) : or32 (x : Int) (y : Int) = (orN x y : Nat) := by
  show IntKind.wrap .u32 _ = _
  rw [wrap32]; simp only [BitVec.ofInt_natCast, bits32]
  congr 1
  show ((x % 2 ^ 32) ||| (y % 2 ^ 32)) % 4294967296 = (x ||| y) % 4294967296
  rw [show (4294967296 : Nat) = 2 ^ 32 from rfl, ← Nat.or_mod_two_pow, Nat.mod_mod]
theorem xor32N (x y : Nat) : xor32 (x : Int) (y : Int) = (xorN x y : Nat) := by
  show IntKind.wrap .u32 _ = _
  rw [wrap32]; simp only [BitVec.ofInt_natCast, bits32]
  congr 1
  show ((x % 2 ^ 32) ^^^ (y % 2 ^ 32)) % 4294967296 = (x ^^^ y) % 4294967296
  rw [show (4294967296 : Nat) = 2 ^ 32 from rfl, ← Nat.xor_mod_two_pow, Nat.mod_mod]
theorem shl32N (x m q : Nat) (hq : q = 2 ^ (min m 32)) : shl32 (x : Int) m = (shlN x q : Nat) := by
  show wr .u32 ((x : Int) * 2 ^ (min m 32)) = _
  have : ((x : Int) * 2 ^ (min m 32)) = ((x * 2 ^ (min m 32) : Nat) : Int) := by simp
  rw [this, wr32, hq]; rfl
theorem shr32N (x m q : Nat) (hq : q = 2 ^ (min m 32)) : shr32 (x : Int) m = (shrN x q : Nat) := by
  show Int.fdiv (x : Int) (2 ^ (min m 32)) = _
  have : ((2 : Int) ^ (min m 32)) = ((2 ^ (min m 32) : Nat) : Int) := by simp
  rw [this, Int.fdiv_eq_ediv_of_nonneg _ (Int.natCast_nonneg _), ← Int.natCast_ediv, hq]; rfl

/-! ## The rounds -/

noncomputable def consts : List Int := [1116352408, 1899447441, 3049323471, 3921009573, 961987163, 1508970993, 2453635748, 2870763221, 3624381080, 310598401, 607225278, 1426881987, 1925078388, 2162078206, 2614888103, 3248222580, 3835390401, 4022224774, 264347078, 604807628, 770255983, 1249150122, 1555081692, 1996064986, 2554220882, 2821834349, 2952996808, 3210313671, 3336571891, 3584528711, 113926993, 338241895, 666307205, 773529912, 1294757372, 1396182291, 1695183700, 1986661051, 2177026350, 2456956037, 2730485921, 2820302411, 3259730800, 3345764771, 3516065817, 3600352804, 4094571909, 275423344, 430227734, 506948616, 659060556, 883997877, 958139571, 1322822218, 1537002063, 1747873779, 1955562222, 2024104815, 2227730452, 2361852424, 2428436474, 2756734187, 3204031479, 3329325298]
noncomputable def constsN : List Nat := [1116352408, 1899447441, 3049323471, 3921009573, 961987163, 1508970993, 2453635748, 2870763221, 3624381080, 310598401, 607225278, 1426881987, 1925078388, 2162078206, 2614888103, 3248222580, 3835390401, 4022224774, 264347078, 604807628, 770255983, 1249150122, 1555081692, 1996064986, 2554220882, 2821834349, 2952996808, 3210313671, 3336571891, 3584528711, 113926993, 338241895, 666307205, 773529912, 1294757372, 1396182291, 1695183700, 1986661051, 2177026350, 2456956037, 2730485921, 2820302411, 3259730800, 3345764771, 3516065817, 3600352804, 4094571909, 275423344, 430227734, 506948616, 659060556, 883997877, 958139571, 1322822218, 1537002063, 1747873779, 1955562222, 2024104815, 2227730452, 2361852424, 2428436474, 2756734187, 3204031479, 3329325298]
noncomputable def t1P (e f g h k w0 : Int) : Int := (a32 (a32 (a32 (a32 h (xor32 (xor32 (rotP e 6) (rotP e 11)) (rotP e 25))) (xor32 (and32 e f) (and32 (xor32 (IntKind.max .u32) e) g))) k) w0)
noncomputable def t2P (a b c : Int) : Int := (a32 (xor32 (xor32 (rotP a 2) (rotP a 13)) (rotP a 22)) (xor32 (xor32 (and32 a b) (and32 a c)) (and32 b c)))
noncomputable def wnP (w0 w1 w9 w14 : Int) : Int := (a32 (a32 (a32 (xor32 (xor32 (rotP w14 17) (rotP w14 19)) (shr32 w14 10)) w9) (xor32 (xor32 (rotP w1 7) (rotP w1 18)) (shr32 w1 3))) w0)
/-- The program's rounds: the words left in a window of sixteen. -/
noncomputable def rndP (ks : List Int) (fin : Int → Int → Int → Int → Int → Int → Int → Int → List Int) : Int → Int → Int → Int → Int → Int → Int → Int → Int → Int → Int → Int → Int → Int → Int → Int → Int → Int → Int → Int → Int → Int → Int → Int → List Int :=
  List.rec (motive := fun _ => Int → Int → Int → Int → Int → Int → Int → Int → Int → Int → Int → Int → Int → Int → Int → Int → Int → Int → Int → Int → Int → Int → Int → Int → List Int) (fun a b c d e f g h _ _ _ _ _ _ _ _ _ _ _ _ _ _ _ _ => fin a b c d e f g h)
    (fun k _ ih a b c d e f g h w0 w1 w2 w3 w4 w5 w6 w7 w8 w9 w10 w11 w12 w13 w14 w15 => (fun t1 t2 wn => ih (a32 t1 t2) a b c (a32 d t1) e f g w1 w2 w3 w4 w5 w6 w7 w8 w9 w10 w11 w12 w13 w14 w15 wn) (t1P e f g h k w0) (t2P a b c) (wnP w0 w1 w9 w14)) ks
theorem rndP_cons (k : Int) (ks : List Int) (fin : Int → Int → Int → Int → Int → Int → Int → Int → List Int) (a b c d e f g h w0 w1 w2 w3 w4 w5 w6 w7 w8 w9 w10 w11 w12 w13 w14 w15 : Int) : rndP (k :: ks) fin a b c d e f g h w0 w1 w2 w3 w4 w5 w6 w7 w8 w9 w10 w11 w12 w13 w14 w15 = rndP ks fin (a32 (t1P e f g h k w0) (t2P a b c)) a b c (a32 d (t1P e f g h k w0)) e f g w1 w2 w3 w4 w5 w6 w7 w8 w9 w10 w11 w12 w13 w14 w15 (wnP w0 w1 w9 w14) := by
  delta rndP; kernel_rfl
noncomputable def t1R (e f g h k w0 : Int) : Int := (a32 (a32 (a32 (a32 h (xor32 (xor32 (rotR e 6) (rotR e 11)) (rotR e 25))) (or32 (and32 e f) (and32 (s32 4294967295 e) g))) k) w0)
noncomputable def t2R (a b c : Int) : Int := (a32 (xor32 (xor32 (rotR a 2) (rotR a 13)) (rotR a 22)) (or32 (or32 (and32 a b) (and32 a c)) (and32 b c)))
noncomputable def wnR (w0 w1 w9 w14 : Int) : Int := (a32 (a32 (a32 (xor32 (xor32 (rotR w14 17) (rotR w14 19)) (shr32 w14 10)) w9) (xor32 (xor32 (rotR w1 7) (rotR w1 18)) (shr32 w1 3))) w0)
/-- The reference's. -/
noncomputable def rndR (ks : List Int) (fin : Int → Int → Int → Int → Int → Int → Int → Int → List Int) : Int → Int → Int → Int → Int → Int → Int → Int → Int → Int → Int → Int → Int → Int → Int → Int → Int → Int → Int → Int → Int → Int → Int → Int → List Int :=
  List.rec (motive := fun _ => Int → Int → Int → Int → Int → Int → Int → Int → Int → Int → Int → Int → Int → Int → Int → Int → Int → Int → Int → Int → Int → Int → Int → Int → List Int) (fun a b c d e f g h _ _ _ _ _ _ _ _ _ _ _ _ _ _ _ _ => fin a b c d e f g h)
    (fun k _ ih a b c d e f g h w0 w1 w2 w3 w4 w5 w6 w7 w8 w9 w10 w11 w12 w13 w14 w15 => (fun t1 t2 wn => ih (a32 t1 t2) a b c (a32 d t1) e f g w1 w2 w3 w4 w5 w6 w7 w8 w9 w10 w11 w12 w13 w14 w15 wn) (t1R e f g h k w0) (t2R a b c) (wnR w0 w1 w9 w14)) ks
theorem rndR_cons (k : Int) (ks : List Int) (fin : Int → Int → Int → Int → Int → Int → Int → Int → List Int) (a b c d e f g h w0 w1 w2 w3 w4 w5 w6 w7 w8 w9 w10 w11 w12 w13 w14 w15 : Int) : rndR (k :: ks) fin a b c d e f g h w0 w1 w2 w3 w4 w5 w6 w7 w8 w9 w10 w11 w12 w13 w14 w15 = rndR ks fin (a32 (t1R e f g h k w0) (t2R a b c)) a b c (a32 d (t1R e f g h k w0)) e f g w1 w2 w3 w4 w5 w6 w7 w8 w9 w10 w11 w12 w13 w14 w15 (wnR w0 w1 w9 w14) := by
  delta rndR; kernel_rfl
noncomputable def t1PN (e f g h k w0 : Nat) : Nat := (aN (aN (aN (aN h (xorN (xorN (orN (shlN e 67108864) (shrN e 64)) (orN (shlN e 2097152) (shrN e 2048))) (orN (shlN e 128) (shrN e 33554432)))) (xorN (andN e f) (andN (xorN 4294967295 e) g))) k) w0)
noncomputable def t2PN (a b c : Nat) : Nat := (aN (xorN (xorN (orN (shlN a 1073741824) (shrN a 4)) (orN (shlN a 524288) (shrN a 8192))) (orN (shlN a 1024) (shrN a 4194304))) (xorN (xorN (andN a b) (andN a c)) (andN b c)))
noncomputable def wnPN (w0 w1 w9 w14 : Nat) : Nat := (aN (aN (aN (xorN (xorN (orN (shlN w14 32768) (shrN w14 131072)) (orN (shlN w14 8192) (shrN w14 524288))) (shrN w14 1024)) w9) (xorN (xorN (orN (shlN w1 33554432) (shrN w1 128)) (orN (shlN w1 16384) (shrN w1 262144))) (shrN w1 8))) w0)
/-- Over numbers. -/
noncomputable def rndPN (ks : List Nat) (fin : Nat → Nat → Nat → Nat → Nat → Nat → Nat → Nat → List Nat) : Nat → Nat → Nat → Nat → Nat → Nat → Nat → Nat → Nat → Nat → Nat → Nat → Nat → Nat → Nat → Nat → Nat → Nat → Nat → Nat → Nat → Nat → Nat → Nat → List Nat :=
  List.rec (motive := fun _ => Nat → Nat → Nat → Nat → Nat → Nat → Nat → Nat → Nat → Nat → Nat → Nat → Nat → Nat → Nat → Nat → Nat → Nat → Nat → Nat → Nat → Nat → Nat → Nat → List Nat) (fun a b c d e f g h _ _ _ _ _ _ _ _ _ _ _ _ _ _ _ _ => fin a b c d e f g h)
    (fun k _ ih a b c d e f g h w0 w1 w2 w3 w4 w5 w6 w7 w8 w9 w10 w11 w12 w13 w14 w15 => (fun t1 t2 wn => ih (aN t1 t2) a b c (aN d t1) e f g w1 w2 w3 w4 w5 w6 w7 w8 w9 w10 w11 w12 w13 w14 w15 wn) (t1PN e f g h k w0) (t2PN a b c) (wnPN w0 w1 w9 w14)) ks
theorem rndPN_cons (k : Nat) (ks : List Nat) (fin : Nat → Nat → Nat → Nat → Nat → Nat → Nat → Nat → List Nat) (a b c d e f g h w0 w1 w2 w3 w4 w5 w6 w7 w8 w9 w10 w11 w12 w13 w14 w15 : Nat) : rndPN (k :: ks) fin a b c d e f g h w0 w1 w2 w3 w4 w5 w6 w7 w8 w9 w10 w11 w12 w13 w14 w15 = rndPN ks fin (aN (t1PN e f g h k w0) (t2PN a b c)) a b c (aN d (t1PN e f g h k w0)) e f g w1 w2 w3 w4 w5 w6 w7 w8 w9 w10 w11 w12 w13 w14 w15 (wnPN w0 w1 w9 w14) := by
  delta rndPN; kernel_rfl
noncomputable def t1RN (e f g h k w0 : Nat) : Nat := (aN (aN (aN (aN h (xorN (xorN (aN (shrN e 64) (shlN e 67108864)) (aN (shrN e 2048) (shlN e 2097152))) (aN (shrN e 33554432) (shlN e 128)))) (orN (andN e f) (andN (notN e) g))) k) w0)
noncomputable def t2RN (a b c : Nat) : Nat := (aN (xorN (xorN (aN (shrN a 4) (shlN a 1073741824)) (aN (shrN a 8192) (shlN a 524288))) (aN (shrN a 4194304) (shlN a 1024))) (orN (orN (andN a b) (andN a c)) (andN b c)))
noncomputable def wnRN (w0 w1 w9 w14 : Nat) : Nat := (aN (aN (aN (xorN (xorN (aN (shrN w14 131072) (shlN w14 32768)) (aN (shrN w14 524288) (shlN w14 8192))) (shrN w14 1024)) w9) (xorN (xorN (aN (shrN w1 128) (shlN w1 33554432)) (aN (shrN w1 262144) (shlN w1 16384))) (shrN w1 8))) w0)
noncomputable def rndRN (ks : List Nat) (fin : Nat → Nat → Nat → Nat → Nat → Nat → Nat → Nat → List Nat) : Nat → Nat → Nat → Nat → Nat → Nat → Nat → Nat → Nat → Nat → Nat → Nat → Nat → Nat → Nat → Nat → Nat → Nat → Nat → Nat → Nat → Nat → Nat → Nat → List Nat :=
  List.rec (motive := fun _ => Nat → Nat → Nat → Nat → Nat → Nat → Nat → Nat → Nat → Nat → Nat → Nat → Nat → Nat → Nat → Nat → Nat → Nat → Nat → Nat → Nat → Nat → Nat → Nat → List Nat) (fun a b c d e f g h _ _ _ _ _ _ _ _ _ _ _ _ _ _ _ _ => fin a b c d e f g h)
    (fun k _ ih a b c d e f g h w0 w1 w2 w3 w4 w5 w6 w7 w8 w9 w10 w11 w12 w13 w14 w15 => (fun t1 t2 wn => ih (aN t1 t2) a b c (aN d t1) e f g w1 w2 w3 w4 w5 w6 w7 w8 w9 w10 w11 w12 w13 w14 w15 wn) (t1RN e f g h k w0) (t2RN a b c) (wnRN w0 w1 w9 w14)) ks
theorem rndRN_cons (k : Nat) (ks : List Nat) (fin : Nat → Nat → Nat → Nat → Nat → Nat → Nat → Nat → List Nat) (a b c d e f g h w0 w1 w2 w3 w4 w5 w6 w7 w8 w9 w10 w11 w12 w13 w14 w15 : Nat) : rndRN (k :: ks) fin a b c d e f g h w0 w1 w2 w3 w4 w5 w6 w7 w8 w9 w10 w11 w12 w13 w14 w15 = rndRN ks fin (aN (t1RN e f g h k w0) (t2RN a b c)) a b c (aN d (t1RN e f g h k w0)) e f g w1 w2 w3 w4 w5 w6 w7 w8 w9 w10 w11 w12 w13 w14 w15 (wnRN w0 w1 w9 w14) := by
  delta rndRN; kernel_rfl
noncomputable def mixP (x y : Nat → Int) : List Int := rndP consts (fun a b c d e f g h => [a32 (x 0) a, a32 (x 1) b, a32 (x 2) c, a32 (x 3) d, a32 (x 4) e, a32 (x 5) f, a32 (x 6) g, a32 (x 7) h]) (x 0) (x 1) (x 2) (x 3) (x 4) (x 5) (x 6) (x 7)
    (or32 (shl32 (or32 (shl32 (or32 (shl32 (or32 (shl32 (0 : Int) 8) (wr .u32 (y 0))) 8) (wr .u32 (y 1))) 8) (wr .u32 (y 2))) 8) (wr .u32 (y 3)))
    (or32 (shl32 (or32 (shl32 (or32 (shl32 (or32 (shl32 (0 : Int) 8) (wr .u32 (y 4))) 8) (wr .u32 (y 5))) 8) (wr .u32 (y 6))) 8) (wr .u32 (y 7)))
    (or32 (shl32 (or32 (shl32 (or32 (shl32 (or32 (shl32 (0 : Int) 8) (wr .u32 (y 8))) 8) (wr .u32 (y 9))) 8) (wr .u32 (y 10))) 8) (wr .u32 (y 11)))
    (or32 (shl32 (or32 (shl32 (or32 (shl32 (or32 (shl32 (0 : Int) 8) (wr .u32 (y 12))) 8) (wr .u32 (y 13))) 8) (wr .u32 (y 14))) 8) (wr .u32 (y 15)))
    (or32 (shl32 (or32 (shl32 (or32 (shl32 (or32 (shl32 (0 : Int) 8) (wr .u32 (y 16))) 8) (wr .u32 (y 17))) 8) (wr .u32 (y 18))) 8) (wr .u32 (y 19)))
    (or32 (shl32 (or32 (shl32 (or32 (shl32 (or32 (shl32 (0 : Int) 8) (wr .u32 (y 20))) 8) (wr .u32 (y 21))) 8) (wr .u32 (y 22))) 8) (wr .u32 (y 23)))
    (or32 (shl32 (or32 (shl32 (or32 (shl32 (or32 (shl32 (0 : Int) 8) (wr .u32 (y 24))) 8) (wr .u32 (y 25))) 8) (wr .u32 (y 26))) 8) (wr .u32 (y 27)))
    (or32 (shl32 (or32 (shl32 (or32 (shl32 (or32 (shl32 (0 : Int) 8) (wr .u32 (y 28))) 8) (wr .u32 (y 29))) 8) (wr .u32 (y 30))) 8) (wr .u32 (y 31)))
    (or32 (shl32 (or32 (shl32 (or32 (shl32 (or32 (shl32 (0 : Int) 8) (wr .u32 (y 32))) 8) (wr .u32 (y 33))) 8) (wr .u32 (y 34))) 8) (wr .u32 (y 35)))
    (or32 (shl32 (or32 (shl32 (or32 (shl32 (or32 (shl32 (0 : Int) 8) (wr .u32 (y 36))) 8) (wr .u32 (y 37))) 8) (wr .u32 (y 38))) 8) (wr .u32 (y 39)))
    (or32 (shl32 (or32 (shl32 (or32 (shl32 (or32 (shl32 (0 : Int) 8) (wr .u32 (y 40))) 8) (wr .u32 (y 41))) 8) (wr .u32 (y 42))) 8) (wr .u32 (y 43)))
    (or32 (shl32 (or32 (shl32 (or32 (shl32 (or32 (shl32 (0 : Int) 8) (wr .u32 (y 44))) 8) (wr .u32 (y 45))) 8) (wr .u32 (y 46))) 8) (wr .u32 (y 47)))
    (or32 (shl32 (or32 (shl32 (or32 (shl32 (or32 (shl32 (0 : Int) 8) (wr .u32 (y 48))) 8) (wr .u32 (y 49))) 8) (wr .u32 (y 50))) 8) (wr .u32 (y 51)))
    (or32 (shl32 (or32 (shl32 (or32 (shl32 (or32 (shl32 (0 : Int) 8) (wr .u32 (y 52))) 8) (wr .u32 (y 53))) 8) (wr .u32 (y 54))) 8) (wr .u32 (y 55)))
    (or32 (shl32 (or32 (shl32 (or32 (shl32 (or32 (shl32 (0 : Int) 8) (wr .u32 (y 56))) 8) (wr .u32 (y 57))) 8) (wr .u32 (y 58))) 8) (wr .u32 (y 59)))
    (or32 (shl32 (or32 (shl32 (or32 (shl32 (or32 (shl32 (0 : Int) 8) (wr .u32 (y 60))) 8) (wr .u32 (y 61))) 8) (wr .u32 (y 62))) 8) (wr .u32 (y 63)))
noncomputable def mixR (x y : Nat → Int) : List Int := rndR consts (fun a b c d e f g h => [a32 (x 0) a, a32 (x 1) b, a32 (x 2) c, a32 (x 3) d, a32 (x 4) e, a32 (x 5) f, a32 (x 6) g, a32 (x 7) h]) (x 0) (x 1) (x 2) (x 3) (x 4) (x 5) (x 6) (x 7)
    (a32 (a32 (a32 (m32 (wr .u32 (y 0)) 16777216) (m32 (wr .u32 (y 1)) 65536)) (m32 (wr .u32 (y 2)) 256)) (wr .u32 (y 3)))
    (a32 (a32 (a32 (m32 (wr .u32 (y 4)) 16777216) (m32 (wr .u32 (y 5)) 65536)) (m32 (wr .u32 (y 6)) 256)) (wr .u32 (y 7)))
    (a32 (a32 (a32 (m32 (wr .u32 (y 8)) 16777216) (m32 (wr .u32 (y 9)) 65536)) (m32 (wr .u32 (y 10)) 256)) (wr .u32 (y 11)))
    (a32 (a32 (a32 (m32 (wr .u32 (y 12)) 16777216) (m32 (wr .u32 (y 13)) 65536)) (m32 (wr .u32 (y 14)) 256)) (wr .u32 (y 15)))
    (a32 (a32 (a32 (m32 (wr .u32 (y 16)) 16777216) (m32 (wr .u32 (y 17)) 65536)) (m32 (wr .u32 (y 18)) 256)) (wr .u32 (y 19)))
    (a32 (a32 (a32 (m32 (wr .u32 (y 20)) 16777216) (m32 (wr .u32 (y 21)) 65536)) (m32 (wr .u32 (y 22)) 256)) (wr .u32 (y 23)))
    (a32 (a32 (a32 (m32 (wr .u32 (y 24)) 16777216) (m32 (wr .u32 (y 25)) 65536)) (m32 (wr .u32 (y 26)) 256)) (wr .u32 (y 27)))
    (a32 (a32 (a32 (m32 (wr .u32 (y 28)) 16777216) (m32 (wr .u32 (y 29)) 65536)) (m32 (wr .u32 (y 30)) 256)) (wr .u32 (y 31)))
    (a32 (a32 (a32 (m32 (wr .u32 (y 32)) 16777216) (m32 (wr .u32 (y 33)) 65536)) (m32 (wr .u32 (y 34)) 256)) (wr .u32 (y 35)))
    (a32 (a32 (a32 (m32 (wr .u32 (y 36)) 16777216) (m32 (wr .u32 (y 37)) 65536)) (m32 (wr .u32 (y 38)) 256)) (wr .u32 (y 39)))
    (a32 (a32 (a32 (m32 (wr .u32 (y 40)) 16777216) (m32 (wr .u32 (y 41)) 65536)) (m32 (wr .u32 (y 42)) 256)) (wr .u32 (y 43)))
    (a32 (a32 (a32 (m32 (wr .u32 (y 44)) 16777216) (m32 (wr .u32 (y 45)) 65536)) (m32 (wr .u32 (y 46)) 256)) (wr .u32 (y 47)))
    (a32 (a32 (a32 (m32 (wr .u32 (y 48)) 16777216) (m32 (wr .u32 (y 49)) 65536)) (m32 (wr .u32 (y 50)) 256)) (wr .u32 (y 51)))
    (a32 (a32 (a32 (m32 (wr .u32 (y 52)) 16777216) (m32 (wr .u32 (y 53)) 65536)) (m32 (wr .u32 (y 54)) 256)) (wr .u32 (y 55)))
    (a32 (a32 (a32 (m32 (wr .u32 (y 56)) 16777216) (m32 (wr .u32 (y 57)) 65536)) (m32 (wr .u32 (y 58)) 256)) (wr .u32 (y 59)))
    (a32 (a32 (a32 (m32 (wr .u32 (y 60)) 16777216) (m32 (wr .u32 (y 61)) 65536)) (m32 (wr .u32 (y 62)) 256)) (wr .u32 (y 63)))
noncomputable def mixPN (x y : Nat → Nat) : List Nat := rndPN constsN (fun a b c d e f g h => [aN (x 0) a, aN (x 1) b, aN (x 2) c, aN (x 3) d, aN (x 4) e, aN (x 5) f, aN (x 6) g, aN (x 7) h]) (x 0) (x 1) (x 2) (x 3) (x 4) (x 5) (x 6) (x 7)
    (orN (shlN (orN (shlN (orN (shlN (orN (shlN 0 256) (Nat.mod (y 0) 4294967296)) 256) (Nat.mod (y 1) 4294967296)) 256) (Nat.mod (y 2) 4294967296)) 256) (Nat.mod (y 3) 4294967296))
    (orN (shlN (orN (shlN (orN (shlN (orN (shlN 0 256) (Nat.mod (y 4) 4294967296)) 256) (Nat.mod (y 5) 4294967296)) 256) (Nat.mod (y 6) 4294967296)) 256) (Nat.mod (y 7) 4294967296))
    (orN (shlN (orN (shlN (orN (shlN (orN (shlN 0 256) (Nat.mod (y 8) 4294967296)) 256) (Nat.mod (y 9) 4294967296)) 256) (Nat.mod (y 10) 4294967296)) 256) (Nat.mod (y 11) 4294967296))
    (orN (shlN (orN (shlN (orN (shlN (orN (shlN 0 256) (Nat.mod (y 12) 4294967296)) 256) (Nat.mod (y 13) 4294967296)) 256) (Nat.mod (y 14) 4294967296)) 256) (Nat.mod (y 15) 4294967296))
    (orN (shlN (orN (shlN (orN (shlN (orN (shlN 0 256) (Nat.mod (y 16) 4294967296)) 256) (Nat.mod (y 17) 4294967296)) 256) (Nat.mod (y 18) 4294967296)) 256) (Nat.mod (y 19) 4294967296))
    (orN (shlN (orN (shlN (orN (shlN (orN (shlN 0 256) (Nat.mod (y 20) 4294967296)) 256) (Nat.mod (y 21) 4294967296)) 256) (Nat.mod (y 22) 4294967296)) 256) (Nat.mod (y 23) 4294967296))
    (orN (shlN (orN (shlN (orN (shlN (orN (shlN 0 256) (Nat.mod (y 24) 4294967296)) 256) (Nat.mod (y 25) 4294967296)) 256) (Nat.mod (y 26) 4294967296)) 256) (Nat.mod (y 27) 4294967296))
    (orN (shlN (orN (shlN (orN (shlN (orN (shlN 0 256) (Nat.mod (y 28) 4294967296)) 256) (Nat.mod (y 29) 4294967296)) 256) (Nat.mod (y 30) 4294967296)) 256) (Nat.mod (y 31) 4294967296))
    (orN (shlN (orN (shlN (orN (shlN (orN (shlN 0 256) (Nat.mod (y 32) 4294967296)) 256) (Nat.mod (y 33) 4294967296)) 256) (Nat.mod (y 34) 4294967296)) 256) (Nat.mod (y 35) 4294967296))
    (orN (shlN (orN (shlN (orN (shlN (orN (shlN 0 256) (Nat.mod (y 36) 4294967296)) 256) (Nat.mod (y 37) 4294967296)) 256) (Nat.mod (y 38) 4294967296)) 256) (Nat.mod (y 39) 4294967296))
    (orN (shlN (orN (shlN (orN (shlN (orN (shlN 0 256) (Nat.mod (y 40) 4294967296)) 256) (Nat.mod (y 41) 4294967296)) 256) (Nat.mod (y 42) 4294967296)) 256) (Nat.mod (y 43) 4294967296))
    (orN (shlN (orN (shlN (orN (shlN (orN (shlN 0 256) (Nat.mod (y 44) 4294967296)) 256) (Nat.mod (y 45) 4294967296)) 256) (Nat.mod (y 46) 4294967296)) 256) (Nat.mod (y 47) 4294967296))
    (orN (shlN (orN (shlN (orN (shlN (orN (shlN 0 256) (Nat.mod (y 48) 4294967296)) 256) (Nat.mod (y 49) 4294967296)) 256) (Nat.mod (y 50) 4294967296)) 256) (Nat.mod (y 51) 4294967296))
    (orN (shlN (orN (shlN (orN (shlN (orN (shlN 0 256) (Nat.mod (y 52) 4294967296)) 256) (Nat.mod (y 53) 4294967296)) 256) (Nat.mod (y 54) 4294967296)) 256) (Nat.mod (y 55) 4294967296))
    (orN (shlN (orN (shlN (orN (shlN (orN (shlN 0 256) (Nat.mod (y 56) 4294967296)) 256) (Nat.mod (y 57) 4294967296)) 256) (Nat.mod (y 58) 4294967296)) 256) (Nat.mod (y 59) 4294967296))
    (orN (shlN (orN (shlN (orN (shlN (orN (shlN 0 256) (Nat.mod (y 60) 4294967296)) 256) (Nat.mod (y 61) 4294967296)) 256) (Nat.mod (y 62) 4294967296)) 256) (Nat.mod (y 63) 4294967296))
noncomputable def mixRN (x y : Nat → Nat) : List Nat := rndRN constsN (fun a b c d e f g h => [aN (x 0) a, aN (x 1) b, aN (x 2) c, aN (x 3) d, aN (x 4) e, aN (x 5) f, aN (x 6) g, aN (x 7) h]) (x 0) (x 1) (x 2) (x 3) (x 4) (x 5) (x 6) (x 7)
    (aN (aN (aN (mN (Nat.mod (y 0) 4294967296) 16777216) (mN (Nat.mod (y 1) 4294967296) 65536)) (mN (Nat.mod (y 2) 4294967296) 256)) (Nat.mod (y 3) 4294967296))
    (aN (aN (aN (mN (Nat.mod (y 4) 4294967296) 16777216) (mN (Nat.mod (y 5) 4294967296) 65536)) (mN (Nat.mod (y 6) 4294967296) 256)) (Nat.mod (y 7) 4294967296))
    (aN (aN (aN (mN (Nat.mod (y 8) 4294967296) 16777216) (mN (Nat.mod (y 9) 4294967296) 65536)) (mN (Nat.mod (y 10) 4294967296) 256)) (Nat.mod (y 11) 4294967296))
    (aN (aN (aN (mN (Nat.mod (y 12) 4294967296) 16777216) (mN (Nat.mod (y 13) 4294967296) 65536)) (mN (Nat.mod (y 14) 4294967296) 256)) (Nat.mod (y 15) 4294967296))
    (aN (aN (aN (mN (Nat.mod (y 16) 4294967296) 16777216) (mN (Nat.mod (y 17) 4294967296) 65536)) (mN (Nat.mod (y 18) 4294967296) 256)) (Nat.mod (y 19) 4294967296))
    (aN (aN (aN (mN (Nat.mod (y 20) 4294967296) 16777216) (mN (Nat.mod (y 21) 4294967296) 65536)) (mN (Nat.mod (y 22) 4294967296) 256)) (Nat.mod (y 23) 4294967296))
    (aN (aN (aN (mN (Nat.mod (y 24) 4294967296) 16777216) (mN (Nat.mod (y 25) 4294967296) 65536)) (mN (Nat.mod (y 26) 4294967296) 256)) (Nat.mod (y 27) 4294967296))
    (aN (aN (aN (mN (Nat.mod (y 28) 4294967296) 16777216) (mN (Nat.mod (y 29) 4294967296) 65536)) (mN (Nat.mod (y 30) 4294967296) 256)) (Nat.mod (y 31) 4294967296))
    (aN (aN (aN (mN (Nat.mod (y 32) 4294967296) 16777216) (mN (Nat.mod (y 33) 4294967296) 65536)) (mN (Nat.mod (y 34) 4294967296) 256)) (Nat.mod (y 35) 4294967296))
    (aN (aN (aN (mN (Nat.mod (y 36) 4294967296) 16777216) (mN (Nat.mod (y 37) 4294967296) 65536)) (mN (Nat.mod (y 38) 4294967296) 256)) (Nat.mod (y 39) 4294967296))
    (aN (aN (aN (mN (Nat.mod (y 40) 4294967296) 16777216) (mN (Nat.mod (y 41) 4294967296) 65536)) (mN (Nat.mod (y 42) 4294967296) 256)) (Nat.mod (y 43) 4294967296))
    (aN (aN (aN (mN (Nat.mod (y 44) 4294967296) 16777216) (mN (Nat.mod (y 45) 4294967296) 65536)) (mN (Nat.mod (y 46) 4294967296) 256)) (Nat.mod (y 47) 4294967296))
    (aN (aN (aN (mN (Nat.mod (y 48) 4294967296) 16777216) (mN (Nat.mod (y 49) 4294967296) 65536)) (mN (Nat.mod (y 50) 4294967296) 256)) (Nat.mod (y 51) 4294967296))
    (aN (aN (aN (mN (Nat.mod (y 52) 4294967296) 16777216) (mN (Nat.mod (y 53) 4294967296) 65536)) (mN (Nat.mod (y 54) 4294967296) 256)) (Nat.mod (y 55) 4294967296))
    (aN (aN (aN (mN (Nat.mod (y 56) 4294967296) 16777216) (mN (Nat.mod (y 57) 4294967296) 65536)) (mN (Nat.mod (y 58) 4294967296) 256)) (Nat.mod (y 59) 4294967296))
    (aN (aN (aN (mN (Nat.mod (y 60) 4294967296) 16777216) (mN (Nat.mod (y 61) 4294967296) 65536)) (mN (Nat.mod (y 62) 4294967296) 256)) (Nat.mod (y 63) 4294967296))

theorem not32N (x : Nat) : xor32 (IntKind.max .u32) (x : Int) = (xorN 4294967295 x : Nat) := xor32N 4294967295 x
theorem wrap32i (z : Int) : wr .u32 z = z % 4294967296 := by
  cases z with
  | ofNat n => rw [show Int.ofNat n = (n : Int) from rfl, wr32]; omega
  | negSucc n =>
    show IntKind.wrap .u32 _ = _
    simp [IntKind.wrap, IntKind.bits, IntKind.signed]
theorem neg32N (x : Nat) : s32 4294967295 (x : Int) = (notN x : Nat) := by
  show wr .u32 (4294967295 - (x : Int)) = ((((8589934591 - x % 4294967296) % 4294967296 : Nat)) : Int)
  rw [wrap32i]; omega
theorem mulA (x : Nat) : m32 (x : Int) 16777216 = (mN x 16777216 : Nat) := m32N x 16777216
theorem mulB (x : Nat) : m32 (x : Int) 65536 = (mN x 65536 : Nat) := m32N x 65536
theorem mulC (x : Nat) : m32 (x : Int) 256 = (mN x 256 : Nat) := m32N x 256
theorem zero32 : shl32 (0 : Int) 8 = ((shlN 0 256 : Nat) : Int) := shl32N 0 8 256 rfl
theorem rotPN_2 (x : Nat) : rotP (x : Int) 2 = (orN (shlN x 1073741824) (shrN x 4) : Nat) := by
  show or32 (shl32 x (32 - 2)) (shr32 x 2) = _
  rw [shl32N x (32 - 2) 1073741824 rfl, shr32N x 2 4 rfl, or32N]
theorem rotRN_2 (x : Nat) : rotR (x : Int) 2 = (aN (shrN x 4) (shlN x 1073741824) : Nat) := by
  show a32 (shr32 x 2) (shl32 x (32 - 2)) = _
  rw [shl32N x (32 - 2) 1073741824 rfl, shr32N x 2 4 rfl, a32N]
theorem rotPN_6 (x : Nat) : rotP (x : Int) 6 = (orN (shlN x 67108864) (shrN x 64) : Nat) := by
  show or32 (shl32 x (32 - 6)) (shr32 x 6) = _
  rw [shl32N x (32 - 6) 67108864 rfl, shr32N x 6 64 rfl, or32N]
theorem rotRN_6 (x : Nat) : rotR (x : Int) 6 = (aN (shrN x 64) (shlN x 67108864) : Nat) := by
  show a32 (shr32 x 6) (shl32 x (32 - 6)) = _
  rw [shl32N x (32 - 6) 67108864 rfl, shr32N x 6 64 rfl, a32N]
theorem rotPN_7 (x : Nat) : rotP (x : Int) 7 = (orN (shlN x 33554432) (shrN x 128) : Nat) := by
  show or32 (shl32 x (32 - 7)) (shr32 x 7) = _
  rw [shl32N x (32 - 7) 33554432 rfl, shr32N x 7 128 rfl, or32N]
theorem rotRN_7 (x : Nat) : rotR (x : Int) 7 = (aN (shrN x 128) (shlN x 33554432) : Nat) := by
  show a32 (shr32 x 7) (shl32 x (32 - 7)) = _
  rw [shl32N x (32 - 7) 33554432 rfl, shr32N x 7 128 rfl, a32N]
theorem rotPN_11 (x : Nat) : rotP (x : Int) 11 = (orN (shlN x 2097152) (shrN x 2048) : Nat) := by
  show or32 (shl32 x (32 - 11)) (shr32 x 11) = _
  rw [shl32N x (32 - 11) 2097152 rfl, shr32N x 11 2048 rfl, or32N]
theorem rotRN_11 (x : Nat) : rotR (x : Int) 11 = (aN (shrN x 2048) (shlN x 2097152) : Nat) := by
  show a32 (shr32 x 11) (shl32 x (32 - 11)) = _
  rw [shl32N x (32 - 11) 2097152 rfl, shr32N x 11 2048 rfl, a32N]
theorem rotPN_13 (x : Nat) : rotP (x : Int) 13 = (orN (shlN x 524288) (shrN x 8192) : Nat) := by
  show or32 (shl32 x (32 - 13)) (shr32 x 13) = _
  rw [shl32N x (32 - 13) 524288 rfl, shr32N x 13 8192 rfl, or32N]
theorem rotRN_13 (x : Nat) : rotR (x : Int) 13 = (aN (shrN x 8192) (shlN x 524288) : Nat) := by
  show a32 (shr32 x 13) (shl32 x (32 - 13)) = _
  rw [shl32N x (32 - 13) 524288 rfl, shr32N x 13 8192 rfl, a32N]
theorem rotPN_17 (x : Nat) : rotP (x : Int) 17 = (orN (shlN x 32768) (shrN x 131072) : Nat) := by
  show or32 (shl32 x (32 - 17)) (shr32 x 17) = _
  rw [shl32N x (32 - 17) 32768 rfl, shr32N x 17 131072 rfl, or32N]
theorem rotRN_17 (x : Nat) : rotR (x : Int) 17 = (aN (shrN x 131072) (shlN x 32768) : Nat) := by
  show a32 (shr32 x 17) (shl32 x (32 - 17)) = _
  rw [shl32N x (32 - 17) 32768 rfl, shr32N x 17 131072 rfl, a32N]
theorem rotPN_18 (x : Nat) : rotP (x : Int) 18 = (orN (shlN x 16384) (shrN x 262144) : Nat) := by
  show or32 (shl32 x (32 - 18)) (shr32 x 18) = _
  rw [shl32N x (32 - 18) 16384 rfl, shr32N x 18 262144 rfl, or32N]
theorem rotRN_18 (x : Nat) : rotR (x : Int) 18 = (aN (shrN x 262144) (shlN x 16384) : Nat) := by
  show a32 (shr32 x 18) (shl32 x (32 - 18)) = _
  rw [shl32N x (32 - 18) 16384 rfl, shr32N x 18 262144 rfl, a32N]
theorem rotPN_19 (x : Nat) : rotP (x : Int) 19 = (orN (shlN x 8192) (shrN x 524288) : Nat) := by
  show or32 (shl32 x (32 - 19)) (shr32 x 19) = _
  rw [shl32N x (32 - 19) 8192 rfl, shr32N x 19 524288 rfl, or32N]
theorem rotRN_19 (x : Nat) : rotR (x : Int) 19 = (aN (shrN x 524288) (shlN x 8192) : Nat) := by
  show a32 (shr32 x 19) (shl32 x (32 - 19)) = _
  rw [shl32N x (32 - 19) 8192 rfl, shr32N x 19 524288 rfl, a32N]
theorem rotPN_22 (x : Nat) : rotP (x : Int) 22 = (orN (shlN x 1024) (shrN x 4194304) : Nat) := by
  show or32 (shl32 x (32 - 22)) (shr32 x 22) = _
  rw [shl32N x (32 - 22) 1024 rfl, shr32N x 22 4194304 rfl, or32N]
theorem rotRN_22 (x : Nat) : rotR (x : Int) 22 = (aN (shrN x 4194304) (shlN x 1024) : Nat) := by
  show a32 (shr32 x 22) (shl32 x (32 - 22)) = _
  rw [shl32N x (32 - 22) 1024 rfl, shr32N x 22 4194304 rfl, a32N]
theorem rotPN_25 (x : Nat) : rotP (x : Int) 25 = (orN (shlN x 128) (shrN x 33554432) : Nat) := by
  show or32 (shl32 x (32 - 25)) (shr32 x 25) = _
  rw [shl32N x (32 - 25) 128 rfl, shr32N x 25 33554432 rfl, or32N]
theorem rotRN_25 (x : Nat) : rotR (x : Int) 25 = (aN (shrN x 33554432) (shlN x 128) : Nat) := by
  show a32 (shr32 x 25) (shl32 x (32 - 25)) = _
  rw [shl32N x (32 - 25) 128 rfl, shr32N x 25 33554432 rfl, a32N]
theorem shr32N_3 (x : Nat) : shr32 (x : Int) 3 = (shrN x 8 : Nat) := shr32N x 3 8 rfl
theorem shr32N_10 (x : Nat) : shr32 (x : Int) 10 = (shrN x 1024 : Nat) := shr32N x 10 1024 rfl
theorem shl32N_8 (x : Nat) : shl32 (x : Int) 8 = (shlN x 256 : Nat) := shl32N x 8 256 rfl

theorem t1P_cast (e f g h k w0 : Nat) : t1P (e : Int) f g h k w0 = (t1PN e f g h k w0 : Nat) := by
  unfold t1P t1PN; simp only [a32N, xor32N, and32N, not32N, rotPN_6, rotPN_11, rotPN_25]
theorem t2P_cast (a b c : Nat) : t2P (a : Int) b c = (t2PN a b c : Nat) := by
  unfold t2P t2PN; simp only [a32N, xor32N, and32N, rotPN_2, rotPN_13, rotPN_22]
theorem wnP_cast (w0 w1 w9 w14 : Nat) : wnP (w0 : Int) w1 w9 w14 = (wnPN w0 w1 w9 w14 : Nat) := by
  unfold wnP wnPN; simp only [a32N, xor32N, rotPN_7, rotPN_18, rotPN_17, rotPN_19, shr32N_3, shr32N_10]
theorem rndP_cast (fin : Int → Int → Int → Int → Int → Int → Int → Int → List Int) (finN : Nat → Nat → Nat → Nat → Nat → Nat → Nat → Nat → List Nat) (hf : ∀ a b c d e f g h : Nat, fin a b c d e f g h = (finN a b c d e f g h).map Nat.cast) :
    ∀ (ks : List Nat) (a b c d e f g h w0 w1 w2 w3 w4 w5 w6 w7 w8 w9 w10 w11 w12 w13 w14 w15 : Nat), rndP (ks.map Nat.cast) fin a b c d e f g h w0 w1 w2 w3 w4 w5 w6 w7 w8 w9 w10 w11 w12 w13 w14 w15 = (rndPN ks finN a b c d e f g h w0 w1 w2 w3 w4 w5 w6 w7 w8 w9 w10 w11 w12 w13 w14 w15).map Nat.cast := by
  intro ks
  induction ks with
  | nil => intro a b c d e f g h w0 w1 w2 w3 w4 w5 w6 w7 w8 w9 w10 w11 w12 w13 w14 w15; exact hf a b c d e f g h
  | cons k ks ih =>
    intro a b c d e f g h w0 w1 w2 w3 w4 w5 w6 w7 w8 w9 w10 w11 w12 w13 w14 w15
    rw [List.map_cons, rndP_cons, rndPN_cons, t1P_cast, t2P_cast, wnP_cast, a32N, a32N]
    exact ih _ _ _ _ _ _ _ _ _ _ _ _ _ _ _ _ _ _ _ _ _ _ _ _

theorem t1R_cast (e f g h k w0 : Nat) : t1R (e : Int) f g h k w0 = (t1RN e f g h k w0 : Nat) := by
  unfold t1R t1RN; simp only [a32N, xor32N, and32N, or32N, neg32N, rotRN_6, rotRN_11, rotRN_25]
theorem t2R_cast (a b c : Nat) : t2R (a : Int) b c = (t2RN a b c : Nat) := by
  unfold t2R t2RN; simp only [a32N, xor32N, and32N, or32N, rotRN_2, rotRN_13, rotRN_22]
theorem wnR_cast (w0 w1 w9 w14 : Nat) : wnR (w0 : Int) w1 w9 w14 = (wnRN w0 w1 w9 w14 : Nat) := by
  unfold wnR wnRN; simp only [a32N, xor32N, rotRN_7, rotRN_18, rotRN_17, rotRN_19, shr32N_3, shr32N_10]
theorem rndR_cast (fin : Int → Int → Int → Int → Int → Int → Int → Int → List Int) (finN : Nat → Nat → Nat → Nat → Nat → Nat → Nat → Nat → List Nat) (hf : ∀ a b c d e f g h : Nat, fin a b c d e f g h = (finN a b c d e f g h).map Nat.cast) :
    ∀ (ks : List Nat) (a b c d e f g h w0 w1 w2 w3 w4 w5 w6 w7 w8 w9 w10 w11 w12 w13 w14 w15 : Nat), rndR (ks.map Nat.cast) fin a b c d e f g h w0 w1 w2 w3 w4 w5 w6 w7 w8 w9 w10 w11 w12 w13 w14 w15 = (rndRN ks finN a b c d e f g h w0 w1 w2 w3 w4 w5 w6 w7 w8 w9 w10 w11 w12 w13 w14 w15).map Nat.cast := by
  intro ks
  induction ks with
  | nil => intro a b c d e f g h w0 w1 w2 w3 w4 w5 w6 w7 w8 w9 w10 w11 w12 w13 w14 w15; exact hf a b c d e f g h
  | cons k ks ih =>
    intro a b c d e f g h w0 w1 w2 w3 w4 w5 w6 w7 w8 w9 w10 w11 w12 w13 w14 w15
    rw [List.map_cons, rndR_cons, rndRN_cons, t1R_cast, t2R_cast, wnR_cast, a32N, a32N]
    exact ih _ _ _ _ _ _ _ _ _ _ _ _ _ _ _ _ _ _ _ _ _ _ _ _

theorem consts_cast : consts = constsN.map Nat.cast := rfl
theorem mixP_cast (x y : Nat → Nat) : mixP (fun i => (x i : Int)) (fun i => (y i : Int)) = (mixPN x y).map Nat.cast := by
  unfold mixP mixPN
  rw [consts_cast]
  simp only [or32N, shl32N_8, zero32, wr32]
  exact rndP_cast _ _ (fun a b c d e f g h => by simp only [List.map_cons, List.map_nil, a32N]) constsN _ _ _ _ _ _ _ _ _ _ _ _ _ _ _ _ _ _ _ _ _ _ _ _

theorem mixR_cast (x y : Nat → Nat) : mixR (fun i => (x i : Int)) (fun i => (y i : Int)) = (mixRN x y).map Nat.cast := by
  unfold mixR mixRN
  rw [consts_cast]
  simp only [a32N, mulA, mulB, mulC, wr32]
  exact rndR_cast _ _ (fun a b c d e f g h => by simp only [List.map_cons, List.map_nil, a32N]) constsN _ _ _ _ _ _ _ _ _ _ _ _ _ _ _ _ _ _ _ _ _ _ _ _


/-! ## As oracles -/

noncomputable def nth : List Nat → Nat → Nat
  | [], _ => 0
  | x :: _, 0 => x
  | _ :: l, n + 1 => nth l n
theorem nth_tab : ∀ (l : List Nat) (s : Nat), l = (List.range' s l.length).map fun i => nth l (i - s)
  | [], _ => rfl
  | x :: l, s => by
    rw [List.length_cons, List.range'_succ, List.map_cons, Nat.sub_self]
    refine congrArg (x :: ·) ?_
    have := nth_tab l (s + 1)
    refine this.trans (List.map_congr_left fun i hi => ?_)
    have h1 := (List.mem_range'_1.1 hi).1
    obtain ⟨k, rfl⟩ := Nat.exists_eq_add_of_le h1
    have e1 : s + 1 + k - (s + 1) = k := by omega
    have e2 : s + 1 + k - s = k + 1 := by omega
    rw [e1, e2]; rfl
noncomputable def u32L : List AV → Option (List Nat)
  | [] => some []
  | .int .u32 (.ofNat n) :: l => (match u32L l with | some r => some (n :: r) | none => none)
  | _ :: _ => none
noncomputable def u8L : List AV → Option (List Nat)
  | [] => some []
  | .int .u8 (.ofNat n) :: l => (match u8L l with | some r => some (n :: r) | none => none)
  | _ :: _ => none
theorem u32L_ok : ∀ {l : List AV} {ns : List Nat}, u32L l = some ns → l = ns.map (fun n => AV.int .u32 (Int.ofNat n))
  | [], ns, h => by simp only [u32L, Option.some.injEq] at h; subst h; rfl
  | x :: l, ns, h => by
    unfold u32L at h
    split at h
    · rename_i heq; cases heq
    · rename_i n l' heq
      simp only [List.cons.injEq] at heq
      obtain ⟨rfl, rfl⟩ := heq
      split at h
      · rename_i r hr
        simp only [Option.some.injEq] at h; subst h
        rw [u32L_ok hr]; rfl
      · cases h
    · cases h
theorem u8L_ok : ∀ {l : List AV} {ns : List Nat}, u8L l = some ns → l = ns.map (fun n => AV.int .u8 (Int.ofNat n))
  | [], ns, h => by simp only [u8L, Option.some.injEq] at h; subst h; rfl
  | x :: l, ns, h => by
    unfold u8L at h
    split at h
    · rename_i heq; cases heq
    · rename_i n l' heq
      simp only [List.cons.injEq] at heq
      obtain ⟨rfl, rfl⟩ := heq
      split at h
      · rename_i r hr
        simp only [Option.some.injEq] at h; subst h
        rw [u8L_ok hr]; rfl
      · cases h
    · cases h
theorem gL_ints (k : IntKind) : ∀ (ns : List Nat), gL (fun _ => none) (ns.map fun n => AV.int k (Int.ofNat n)) = some (ns.map fun n => Value.int k (Int.ofNat n))
  | [] => rfl
  | n :: ns => by
    have := gL_ints k ns
    simp only [List.map_cons, gL, g, this, Option.bind_some, Option.map_some]

/-- The row's eight words; the block's bytes. -/
noncomputable def tabI (k : IntKind) (n : Nat) (x : Nat → Int) : List AV := (List.range' 0 n).map fun i => .int k (x i)
theorem tabI_nth (k : IntKind) (ns : List Nat) : ns.map (fun n => AV.int k (Int.ofNat n)) = tabI k ns.length fun i => Int.ofNat (nth ns i) := by
  unfold tabI
  conv => lhs; rw [nth_tab ns 0]
  rw [List.map_map]
  exact List.map_congr_left fun i _ => by simp

/-- What a run comes to: the row that it gives, and the row 0. -/
noncomputable def summ (r : CR) : Option (List AV) := match r with
  | .ret (.agg l) _ => some l
  | _ => none
noncomputable def summ2 (r : CR) : Option (List AV × Option AO) := match r with
  | .ret (.agg l) h => some (l, h.get 0)
  | _ => none
theorem summ_ok {r : CR} {l : List AV} {o : AO} (h1 : summ2 r = some (l, some o)) : ∃ h', r = .ret (.agg l) h' ∧ h'.get 0 = some o := by
  cases r with
  | ret v h =>
    cases v <;> simp [summ2] at h1
    obtain ⟨rfl, h2⟩ := h1
    exact ⟨h, rfl, h2⟩
  | _ => cases h1
theorem summ_ret {r : CR} {l : List AV} (h1 : summ r = some l) : ∃ h', r = .ret (.agg l) h' := by
  cases r with
  | ret v h =>
    cases v <;> simp [summ] at h1
    subst h1; exact ⟨h, rfl⟩
  | _ => cases h1

noncomputable def fMix (a : AV) (bs : List AV) : Option AV := match a with
  | .agg l => (match u32L l, u8L bs with
    | some hs, some ys => bif Nat.beq hs.length 8 && Nat.beq ys.length 64 then some (.agg ((mixPN (nth hs) (nth ys)).map fun n => .int .u32 (Int.ofNat n))) else none
    | _, _ => none)
  | _ => none
noncomputable def fBlk (as : List AV) : Option AV := match as with
  | [.agg l, .str s] => (match u32L l with
    | some hs => bif Nat.beq hs.length 8 && Nat.beq s.len 64 then some (.agg ((mixRN (nth hs) (nth (s.list.map UInt8.toNat))).map fun n => .int .u32 (Int.ofNat n))) else none
    | _ => none)
  | _ => none

section
variable {ng : Nat} {f : FuncId}
theorem oMix_ok {E : Env} (hp : Plain E.gl) {cal : FuncId → List AV → Hp → CR} (hc : CalOk E.P ng E.gl cal) {el : TypeId}
    (hrun : ∀ (x y : Nat → Int) (c : Nat), summ2 (cal f [.agg (tabI .u32 8 x), .slc (some (.own 0, 0)) 64 (.k (c + 64))] (mini el (tabI .u8 64 y))) = some ((mixP x y).map fun n => .int .u32 n, some (.row el (.gen (tabI .u8 64 y)) none))) :
    OOk E.P ng E.gl f (oPre el fMix) := by
  refine oPre_ok hp hc fun a bs v hF => ?_
  unfold fMix at hF
  split at hF
  · rename_i l
    split at hF
    · rename_i hs ys h1 h2
      rw [Bool.cond_eq_ite] at hF
      split at hF
      · rename_i hl
        simp only [Bool.and_eq_true, Nat.beq_eq] at hl
        simp only [Option.some.injEq] at hF; subst hF
        obtain rfl := u32L_ok h1
        obtain rfl := u8L_ok h2
        refine ⟨⟨_, by rw [g, gL_ints]; rfl⟩, ⟨_, gL_ints _ _⟩, ⟨_, by rw [g, gL_ints]; rfl⟩, fun c hc64 => ?_⟩
        have e1 := tabI_nth .u32 hs
        have e2 := tabI_nth .u8 ys
        rw [hl.1] at e1; rw [hl.2] at e2
        rw [e1, e2, show (tabI .u8 64 fun i => Int.ofNat (nth ys i)).length = 64 by simp [tabI]]
        have r1 := hrun (fun i => Int.ofNat (nth hs i)) (fun i => Int.ofNat (nth ys i)) (c - 64)
        have hc64 : c - 64 + 64 = c := by rw [List.length_map, hl.2] at hc64; omega
        rw [hc64] at r1
        have e3 := mixP_cast (nth hs) (nth ys)
        have e4 : ((mixP (fun i => Int.ofNat (nth hs i)) (fun i => Int.ofNat (nth ys i))).map fun n => AV.int .u32 n) = (mixPN (nth hs) (nth ys)).map fun n => AV.int .u32 (Int.ofNat n) := by
          refine (congrArg (List.map fun n => AV.int .u32 n) e3).trans ?_
          rw [List.map_map]; rfl
        rw [e4] at r1
        exact summ_ok r1
      · cases hF
    · cases hF
  · cases hF

theorem oBlk_ok {E : Env} (hp : Plain E.gl) {cal : FuncId → List AV → Hp → CR} (hc : CalOk E.P ng E.gl cal)
    (hrun : ∀ (x : Nat → Int) (y : Nat → UInt8), summ (cal f [.agg (tabI .u32 8 x), .str (.lst ((List.range' 0 64).map y))] Hp.empty) = some ((mixR x fun i => ((y i).toNat : Int)).map fun n => .int .u32 n)) :
    OOk E.P ng E.gl f (oClo fBlk) := by
  refine oClo_ok hp hc fun as v hF => ?_
  unfold fBlk at hF
  split at hF
  · rename_i l s
    split at hF
    · rename_i hs h1
      rw [Bool.cond_eq_ite] at hF
      split at hF
      · rename_i hl
        simp only [Bool.and_eq_true, Nat.beq_eq] at hl
        simp only [Option.some.injEq] at hF; subst hF
        obtain rfl := u32L_ok h1
        have hsl : s.list.length = 64 := by rw [BS.list_len]; exact hl.2
        have e1 := tabI_nth .u32 hs
        rw [hl.1] at e1
        have e2 : s.list = (List.range' 0 64).map fun i => s.list.getD i 0 := by
          refine List.ext_getElem (by simp [hsl]) fun i h1 h2 => ?_
          simp [List.getD, h1]
        have e3 : ∀ i, nth (s.list.map UInt8.toNat) i = (s.list.getD i 0).toNat := by
          have : ∀ (l : List UInt8) (i : Nat), nth (l.map UInt8.toNat) i = (l.getD i 0).toNat := by
            intro l
            induction l with
            | nil => intro i; rfl
            | cons a l ih => intro i; cases i with
              | zero => rfl
              | succ i => simpa [nth] using ih i
          exact this s.list
        have r1 := hrun (fun i => Int.ofNat (nth hs i)) (fun i => s.list.getD i 0)
        rw [← e2] at r1
        have e4 : (mixR (fun i => Int.ofNat (nth hs i)) fun i => ((s.list.getD i 0).toNat : Int)) = (mixRN (nth hs) (nth (s.list.map UInt8.toNat))).map Nat.cast := by
          rw [← mixR_cast]
          congr 1
          funext i; rw [e3 i]
        rw [e4, List.map_map, ← e1] at r1
        obtain ⟨h', r2⟩ := summ_ret r1
        refine ⟨_, by simp only [gL, g, gL_ints, Option.map_some, Option.bind_some]; rfl, ⟨_, by rw [g, gL_ints]; rfl⟩, _, h', ?_, r2⟩
        simp only [gL, g, gL_ints, Option.map_some, Option.bind_some]; rfl
      · cases hF
    · cases hF
  · cases hF
end
end Ax
namespace Ax
open Go Go.Maps
variable [Sy]

/-! ## Texts in order -/

noncomputable def insS (x : List UInt8) : List (List UInt8) → List (List UInt8)
  | [] => [x]
  | y :: l => bif sLt y x then y :: insS x l else x :: y :: l
noncomputable def sortS : List (List UInt8) → List (List UInt8)
  | [] => []
  | x :: l => insS x (sortS l)
noncomputable def ltH (x : List UInt8) : List (List UInt8) → Bool
  | [] => true
  | y :: _ => sLt x y
noncomputable def strictS : List (List UInt8) → Bool
  | [] => true
  | x :: l => bif ltH x l then strictS l else false

theorem sLt_lt : ∀ (a b : List UInt8), sLt a b = true ↔ a < b
  | [], [] => by simp [sLt]
  | _ :: _, [] => by simp [sLt]
  | [], _ :: _ => by simp [sLt]
  | a :: x, b :: y => by
    have ih := sLt_lt x y
    rw [List.cons_lt_cons_iff]
    simp only [sLt, Bool.cond_eq_ite, bEq]
    have hl : Nat.blt a.toNat b.toNat = true ↔ a < b := by rw [Nat.blt_eq]; exact UInt8.lt_iff_toNat_lt.symm
    have he : Nat.beq a.toNat b.toNat = true ↔ a = b := by rw [Nat.beq_eq]; exact ⟨fun h => UInt8.toNat_inj.1 h, fun h => by rw [h]⟩
    by_cases h1 : a < b
    · simp [hl.2 h1, h1]
    · have : Nat.blt a.toNat b.toNat = false := by rw [Bool.eq_false_iff]; exact fun h => h1 (hl.1 h)
      rw [this]
      by_cases h2 : a = b
      · simp [he.2 h2, h1, h2, ih]
      · have : Nat.beq a.toNat b.toNat = false := by rw [Bool.eq_false_iff]; exact fun h => h2 (he.1 h)
        simp [this, h1, h2]

theorem insS_perm (x : List UInt8) : ∀ l, (insS x l).Perm (x :: l)
  | [] => List.Perm.refl _
  | y :: l => by
    simp only [insS, Bool.cond_eq_ite]
    split
    · exact ((insS_perm x l).cons y).trans (List.Perm.swap x y l)
    · exact List.Perm.refl _
theorem sortS_perm : ∀ l, (sortS l).Perm l
  | [] => List.Perm.refl _
  | x :: l => (insS_perm x _).trans ((sortS_perm l).cons x)
theorem strictS_ok : ∀ {l : List (List UInt8)}, strictS l = true → l.Pairwise (· < ·)
  | [], _ => List.Pairwise.nil
  | x :: l, h => by
    simp only [strictS, Bool.cond_eq_ite] at h
    split at h
    · rename_i hx
      have ih := strictS_ok h
      refine List.pairwise_cons.2 ⟨fun y hy => ?_, ih⟩
      cases l with
      | nil => cases hy
      | cons z l =>
        have hz : x < z := (sLt_lt x z).1 hx
        rcases List.mem_cons.1 hy with rfl | hy
        · exact hz
        · exact List.lt_trans hz ((List.pairwise_cons.1 ih).1 y hy)
    · cases h
theorem strict_nodup {l : List (List UInt8)} (h : l.Pairwise (· < ·)) : l.Nodup :=
  h.imp fun hab e => by subst e; exact List.lt_irrefl _ hab
theorem strict_merge {l ss : List (List UInt8)} (h : l.Pairwise (· < ·)) (hp : ss.Perm l) : ss.mergeSort leB = l := by
  rw [mergeSort_of_perm hp]
  exact List.mergeSort_of_pairwise (h.imp fun hab => by simp only [leB, decide_eq_true_eq]; exact List.le_of_lt hab)

/-! ## The keys of a map -/

noncomputable def keysStr : List (AV × AV) → Option (List (List UInt8))
  | [] => some []
  | (.str s, _) :: l => (match keysStr l with | some r => some (s.list :: r) | none => none)
  | _ :: _ => none
noncomputable def lens (n : Nat) : List (List UInt8) → Bool
  | [] => true
  | s :: l => bif lenLe s n then lens n l else false

section
variable {P : Program} {ng : Nat} {gl : T (List AV)} {φ : Mp} {h : Hp} {w w' : World} {f : FuncId}

theorem keysStr_ok : ∀ {es : List (AV × AV)} {ks : List (List UInt8)} {E : List (Value × Value)}, keysStr es = some ks → gP φ es = some E → E.map (·.1) = ks.map fun s => Value.string ⟨s.toArray⟩
  | [], ks, E, h, hE => by
    simp only [keysStr, Option.some.injEq] at h; subst h
    simp only [gP, Option.some.injEq] at hE; subst hE; rfl
  | (k, v) :: l, ks, E, h, hE => by
    simp only [gP, Option.bind_eq_some_iff, Option.map_eq_some_iff] at hE
    obtain ⟨x, hx, y, _, r, hr, rfl⟩ := hE
    unfold keysStr at h
    split at h
    · rename_i heq; cases heq
    · rename_i s v' l' heq
      simp only [List.cons.injEq, Prod.mk.injEq] at heq
      obtain ⟨⟨rfl, rfl⟩, rfl⟩ := heq
      split at h
      · rename_i q hq
        simp only [Option.some.injEq] at h; subst h
        simp only [g, Option.some.injEq] at hx; subst hx
        simp [keysStr_ok hq hr]
      · cases h
    · cases h

/-- A map that the abstract heap knows of, as the kit's contracts ask for it: its values read as nothing. -/
noncomputable def RU : Value → Option (DataW Unit × List MemPlace) := fun _ => some (.nil, [])

theorem lens_ok {n : Nat} : ∀ {l : List (List UInt8)}, lens n l = true → ∀ s ∈ l, s.length ≤ n
  | [], _, _, hs => by cases hs
  | x :: l, h, s, hs => by
    simp only [lens, Bool.cond_eq_ite] at h
    split at h
    · rename_i hx
      rcases List.mem_cons.1 hs with rfl | hs
      · simpa [lenLe, Nat.ble_eq] using hx
      · exact lens_ok h s hs
    · cases h

theorem gP_len : ∀ {es : List (AV × AV)} {E : List (Value × Value)}, gP φ es = some E → E.length = es.length
  | [], _, h => by simp only [gP, Option.some.injEq] at h; subst h; rfl
  | (k, v) :: l, E, h => by
    simp only [gP, Option.bind_eq_some_iff, Option.map_eq_some_iff] at h
    obtain ⟨x, _, y, _, r, hr, rfl⟩ := h
    simp [gP_len hr]

/-- A map of the heap, at keys that read. -/
theorem map_owns {k : TypeId} {L : Lc} {es : List (AV × AV)} (hat : At φ L (.mp es) w) (hlen : es.length ≤ maxLen) {kv : List Value} (hkv : ∀ E, gP φ es = some E → E.map (·.1) = kv) (hnd : kv.Nodup)
    (hrd : ∀ v ∈ kv, ∃ s, keyOf P k v = some (.string s)) :
    ∃ D0 : DataW Unit, w.ownsMap P k RU L.blk es.length D0 ∧ Maps.size D0 = es.length ∧ ∀ ks : List (List UInt8), kv.map (keyOf P k) = ks.map (fun s => some (.string s)) → (strKeys D0).Perm ks := by
  obtain ⟨ents, clock, hh, hg, hb, hp⟩ := hat
  have hk : ents.toList.map (·.key) = kv := by
    have := hkv _ hg
    rwa [List.map_map] at this
  have hsz : ents.size = es.length := by have := gP_len hg; simpa using this
  have hrdx : ∀ x ∈ ents.toList, ∃ s, keyOf P k x.key = some (.string s) := fun x hx => hrd _ (by rw [← hk]; exact List.mem_map.2 ⟨x, hx, rfl⟩)
  refine ⟨_, ⟨ents, clock, hh, ⟨by omega, ⟨hb, hp.imp (fun h => Nat.ne_of_lt h), by rw [hk]; exact hnd⟩, fun x hx => ?_⟩, by omega, rfl⟩, ?_, ?_⟩
  · obtain ⟨s, hs⟩ := hrdx x hx
    exact ⟨_, WideElems.rd_mk (born := x.born) hs (yv := (.nil, [])) rfl⟩
  · show (List.foldr DataW.insert [] _).length = _
    rw [(WideShapes.sorted_perm _).length_eq, List.length_map, Array.length_toList, hsz]
  · intro ks hks
    have h1 : (strKeys (.map ((ents.toList.map (WideElems.rg P k RU)).foldr DataW.insert []))).Perm ((ents.toList.map (WideElems.rg P k RU)).map fun p => strOf p.1) := (WideShapes.sorted_perm _).map _
    refine h1.trans (List.Perm.of_eq ?_)
    rw [List.map_map]
    rw [← hk, List.map_map] at hks
    have : ∀ (l : List MapEntry) (ks : List (List UInt8)), (∀ x ∈ l, ∃ s, keyOf P k x.key = some (.string s)) → l.map (keyOf P k ∘ fun x => x.key) = ks.map (fun s => some (Lit.string s)) → l.map ((fun p => strOf p.1) ∘ WideElems.rg P k RU) = ks := by
      intro l
      induction l with
      | nil => intro ks _ h; cases ks <;> simp at h ⊢
      | cons x l ih =>
        intro ks hx h
        cases ks with
        | nil => simp at h
        | cons s ks =>
          simp only [List.map_cons, List.cons.injEq, Function.comp] at h ⊢
          refine ⟨?_, ih ks (fun y hy => hx y (List.mem_cons_of_mem _ hy)) h.2⟩
          have hrd : WideElems.rd P k RU x = some (.string s, .nil) := WideElems.rd_mk (born := x.born) h.1 (yv := (.nil, [])) rfl
          rw [WideElems.rg_of hrd]; rfl
    exact this _ _ hrdx hks

/-- What lies in a row's cell. -/
theorem row_cell {L : Lc} {el : TypeId} {cs : Cl} {tail : Option Nat} (hat : At φ L (.row el cs tail) w) {i : Nat} {v : AV} (hv : cs.nth i = some v) : ∃ V, g φ v = some V ∧ w.cell? ⟨L.blk, L.base + i, none⟩ = some V := by
  obtain ⟨c, lo, hi, xs, hh, hxs, _, _, _, _, hget, _⟩ := hat
  rw [Cl.nth_eq] at hv
  obtain ⟨V, h1, h2⟩ := gL_get hxs i v hv
  refine ⟨V, h2, ?_⟩
  have hlt : i < xs.length := (List.getElem?_eq_some_iff.1 h1).1
  simp only [World.cell?, hh, Option.isSome_none, Bool.false_eq_true, if_false]
  rw [hget i hlt, h1]

/-- slices.Sorted(maps.Keys(m)), the keys texts: 'fi' is the iterator, 'k' the keys' type. -/
noncomputable def oSort (k fi : Nat) : Oc
  | [.fn (.func f) [] [.ptr (some (.own bm, of))]], h => bif Nat.beq f fi then (match h.get bm with
    | some (.row _ cs _) => (match cs.nth of with
      | some (.map (some m)) => (match h.get m with
        | some (.mp es) => (match keysStr es with
          | some ks => (match sortS ks with
            | r => bif strictS r && Nat.ble es.length 1000000 && lens 1000000 ks then (match r with
                | [] => some (.ret (.slc none 0 (.k 0)) h)
                | _ :: _ => some (.ret (.slc (some (.own h.nxt, 0)) r.length (.u 1)) (h.new (.row k (.gen (r.map fun s => .str (BS.ofList s))) (some 1))))) else none)
          | none => none)
        | _ => none)
      | _ => none)
    | _ => none) else none
  | _, _ => none

theorem gL_strs : ∀ (r : List (List UInt8)), gL φ (r.map fun s => AV.str (BS.ofList s)) = some (r.map fun s => Value.string ⟨s.toArray⟩)
  | [] => rfl
  | s :: r => by simp [gL, g, gL_strs r, BS.ofList_list]

theorem oSort_ok {k fi : Nat} (hk : P.underlying k = some .string)
    (law : ∀ (Bm of b nn : Nat) (D0 : DataW Unit) (w : World), Bm < w.heap.size → w.cell? ⟨Bm, of, none⟩ = some (.map (some b)) → w.ownsMap P k RU b nn D0 → Maps.size D0 ≤ maxLen → Maps.size D0 * 16 ≤ 140737488355328 →
      Calls P f #[.func (.func fi) #[] #[.pointer (some ⟨Bm, of, none⟩)]] w fun e w' => ∃ (v : Value) (ss : List (List UInt8)), e = .returned v ∧ ss.Perm (strKeys D0) ∧
        w'.ownsRow w.heap.size k 1 v ss.length ((ss.mergeSort (fun x y => decide (x ≤ y))).map Go.Proofs.encStr) ∧ (v = .slice none 0 0 ↔ ss = []) ∧ RowKit.Below w.heap.size w w') :
    OOk P ng gl f (oSort k fi) := by
  intro as h r hr _ φ w A hA hR
  unfold oSort at hr
  split at hr
  · rename_i f0 bm of
    rw [Bool.cond_eq_ite] at hr
    split at hr
    · rename_i hf0
      have hf0 := Nat.eq_of_beq_eq_true hf0
      subst hf0
      split at hr
      · rename_i el cs tl hgb
        split at hr
        · rename_i m hcs
          split at hr
          · rename_i es hgm
            split at hr
            · rename_i ks hks
              generalize hq : sortS ks = q at hr
              simp only [Bool.cond_eq_ite] at hr
              split at hr
              · rename_i hc
                simp only [Bool.and_eq_true, Nat.ble_eq] at hc
                obtain ⟨⟨hst, hle⟩, hln⟩ := hc
                have hperm : q.Perm ks := hq ▸ sortS_perm ks
                have hpw := strictS_ok hst
                obtain ⟨X, rfl, hX⟩ := gL1 hA
                obtain ⟨xs0, ys0, hx0, hy0, rfl⟩ := g_fn hX
                simp only [gL, Option.some.injEq] at hx0; subst hx0
                obtain ⟨Y0, rfl, hY0⟩ := gL1 hy0
                simp only [g, gA, Option.map_eq_some_iff] at hY0
                obtain ⟨_, ⟨L, hL, rfl⟩, rfl⟩ := hY0
                obtain ⟨L', hL', _, hat⟩ := hR.at_ bm _ hgb
                rw [hL] at hL'; simp only [Option.some.injEq] at hL'; subst hL'
                obtain ⟨V, hV, hcell⟩ := row_cell hat hcs
                simp only [g, Option.map_eq_some_iff] at hV
                obtain ⟨M, hM, rfl⟩ := hV
                obtain ⟨M', hM', _, hatm⟩ := hR.at_ m _ hgm
                rw [hM] at hM'; simp only [Option.some.injEq] at hM'; subst hM'
                have hlen := lens_ok hln
                have hml : (1000000 : Nat) ≤ maxLen := by decide
                have hnd : (ks.map fun s => Value.string ⟨s.toArray⟩).Nodup := by
                  refine List.Pairwise.map _ (R := (· ≠ ·)) (fun a b hab e => hab ?_) (hperm.nodup_iff.1 (strict_nodup hpw))
                  simpa using e
                have hkey : ∀ s ∈ ks, keyOf P k (Value.string ⟨s.toArray⟩) = some (.string s) := fun s hs => by
                  have := Go.WideMaps.keyOf_string_mk (s := ⟨s.toArray⟩) hk (by show s.toArray.size ≤ _; have := hlen s hs; simp; omega)
                  simpa using this
                obtain ⟨D0, hown, hsz, hkeys⟩ := map_owns (P := P) (k := k) hatm (by omega) (kv := ks.map fun s => Value.string ⟨s.toArray⟩) (fun E hE => keysStr_ok hks hE) hnd (fun v hv => by
                  obtain ⟨s, hs, rfl⟩ := List.mem_map.1 hv
                  exact ⟨s, hkey s hs⟩)
                have hkp : (strKeys D0).Perm ks := hkeys ks (by
                  rw [List.map_map]
                  exact List.map_congr_left fun s hs => hkey s hs)
                refine (law L.blk (L.base + of) M.blk es.length D0 w hat.lt hcell hown (by omega) (by omega)).mono ?_
                rintro e w' ⟨v, ss, rfl, hss, hrow, hnil, hb⟩
                have hss2 : ss.Perm q := hss.trans (hkp.trans hperm.symm)
                have hms : ss.mergeSort (fun x y => decide (x ≤ y)) = q := strict_merge hpw hss2
                rw [hms] at hrow
                cases q with
                | nil =>
                  have : ss = [] := List.Perm.eq_nil hss2
                  subst this
                  have hr := Option.some.inj hr; subst hr
                  have := hnil.2 rfl
                  subst this
                  exact post_below hR rfl hb rfl
                | cons a q =>
                  have hr := Option.some.inj hr; subst hr
                  have hsl : ss.length = (a :: q).length := hss2.length_eq
                  rw [hsl] at hrow
                  exact post_row hR hb (by decide) (Nat.succ_pos _) (Nat.le_refl _) hrow (gL_strs (a :: q)) rfl
              · cases hr
            · cases hr
          · cases hr
        · cases hr
      · cases hr
    · cases hr
  · cases hr

/-! ## Keys that are names: 32 bytes -/

noncomputable def byteL : List AV → Option (List Nat)
  | [] => some []
  | .int .u8 (.ofNat n) :: l => bif Nat.blt n 256 then (match byteL l with | some r => some (n :: r) | none => none) else none
  | _ :: _ => none
theorem byteL_ok : ∀ {l : List AV} {ns : List Nat}, byteL l = some ns → l = ns.map (fun n => AV.int .u8 (Int.ofNat n)) ∧ ∀ n ∈ ns, n < 256
  | [], ns, h => by simp only [byteL, Option.some.injEq] at h; subst h; exact ⟨rfl, fun _ h => by cases h⟩
  | x :: l, ns, h => by
    unfold byteL at h
    split at h
    · rename_i heq; cases heq
    · rename_i n l' heq
      simp only [List.cons.injEq] at heq
      obtain ⟨rfl, rfl⟩ := heq
      rw [Bool.cond_eq_ite] at h
      split at h
      · rename_i hn
        split at h
        · rename_i r hr
          simp only [Option.some.injEq] at h; subst h
          obtain ⟨h1, h2⟩ := byteL_ok hr
          refine ⟨by rw [h1]; rfl, fun m hm => ?_⟩
          rcases List.mem_cons.1 hm with rfl | hm
          · simpa [Nat.blt_eq] using hn
          · exact h2 m hm
        · cases h
      · cases h
    · cases h
noncomputable def idVal (ns : List Nat) : Value := .agg (ns.map fun n => Value.int .u8 (Int.ofNat n)).toArray
theorem gL_bytes : ∀ (ns : List Nat), gL φ (ns.map fun n => AV.int .u8 (Int.ofNat n)) = some (ns.map fun n => Value.int .u8 (Int.ofNat n))
  | [] => rfl
  | n :: ns => by
    have := gL_bytes ns
    simp only [List.map_cons, gL, g, this, Option.bind_some, Option.map_some]

/-- What a contract on slices.Collect(maps.Keys(m)) says. -/
noncomputable def CollLaw (P : Program) (f fi k : Nat) : Prop :=
  ∀ (Bm of b nn : Nat) (D0 : DataW Unit) (w : World), Bm < w.heap.size → w.cell? ⟨Bm, of, none⟩ = some (.map (some b)) → w.ownsMap P k RU b nn D0 → Maps.size D0 ≤ maxLen → Maps.size D0 * 32 ≤ 140737488355328 →
    Calls P f #[.func (.func fi) #[] #[.pointer (some ⟨Bm, of, none⟩)]] w fun e w' => ∃ (v : Value) (vs : List (List Value)) (ss : List (List UInt8)), e = .returned v ∧ ss.Perm (strKeys D0) ∧
      vs.map (fun l => keyOf P k (.agg l.toArray)) = ss.map (fun s => some (Lit.string s)) ∧ w'.ownsRow w.heap.size k 32 v vs.length vs.flatten ∧ (v = .slice none 0 0 ↔ vs = []) ∧ RowKit.Below w.heap.size w w'

/-- slices.Collect(maps.Keys(m)), the keys names, one at most. -/
noncomputable def oColl (k fi : Nat) : Oc
  | [.fn (.func f) [] [.ptr (some (.own bm, of))]], h => bif Nat.beq f fi then (match h.get bm with
    | some (.row _ cs _) => (match cs.nth of with
      | some (.map (some m)) => (match h.get m with
        | some (.mp []) => some (.ret (.slc none 0 (.k 0)) h)
        | some (.mp [(.agg l, _)]) => (match byteL l with
          | some ns => bif Nat.beq ns.length 32 then some (.ret (.slc (some (.own h.nxt, 0)) 1 (.u 32)) (h.new (.row k (.gen l) (some 32)))) else none
          | none => none)
        | _ => none)
      | _ => none)
    | _ => none) else none
  | _, _ => none

theorem oColl_ok {k fi : Nat} (hkey : ∀ ns : List Nat, ns.length = 32 → (∀ n ∈ ns, n < 256) → ∃ s, keyOf P k (idVal ns) = some (.string s))
    (hinj : ∀ {a b : Value} {l : Lit}, keyOf P k a = some l → keyOf P k b = some l → a = b) (law : CollLaw P f fi k) : OOk P ng gl f (oColl k fi) := by
  intro as h r hr _ φ w A hA hR
  unfold oColl at hr
  split at hr
  · rename_i f0 bm of
    rw [Bool.cond_eq_ite] at hr
    split at hr
    · rename_i hf0
      have hf0 := Nat.eq_of_beq_eq_true hf0
      subst hf0
      split at hr
      · rename_i el cs tl hgb
        split at hr
        · rename_i m hcs
          obtain ⟨X, rfl, hX⟩ := gL1 hA
          obtain ⟨xs0, ys0, hx0, hy0, rfl⟩ := g_fn hX
          simp only [gL, Option.some.injEq] at hx0; subst hx0
          obtain ⟨Y0, rfl, hY0⟩ := gL1 hy0
          simp only [g, gA, Option.map_eq_some_iff] at hY0
          obtain ⟨_, ⟨L, hL, rfl⟩, rfl⟩ := hY0
          obtain ⟨L', hL', _, hat⟩ := hR.at_ bm _ hgb
          rw [hL] at hL'; simp only [Option.some.injEq] at hL'; subst hL'
          obtain ⟨V, hV, hcell⟩ := row_cell hat hcs
          simp only [g, Option.map_eq_some_iff] at hV
          obtain ⟨M, hM, rfl⟩ := hV
          split at hr
          · rename_i hgm
            simp only [Option.some.injEq] at hr; subst hr
            obtain ⟨M', hM', _, hatm⟩ := hR.at_ m _ hgm
            rw [hM] at hM'; simp only [Option.some.injEq] at hM'; subst hM'
            obtain ⟨D0, hown, hsz, hkeys⟩ := map_owns (P := P) (k := k) hatm (Nat.zero_le _) (kv := []) (fun E hE => by simp only [gP, Option.some.injEq] at hE; subst hE; rfl) List.nodup_nil (fun v hv => by cases hv)
            refine (law L.blk (L.base + of) M.blk _ D0 w hat.lt hcell hown (by rw [hsz]; exact Nat.zero_le _) (by rw [hsz]; exact Nat.zero_le _)).mono ?_
            rintro e w' ⟨v, vs, ss, rfl, hss, hvs, hrow, hnil, hb⟩
            have h0 : ss = [] := List.Perm.eq_nil (hss.trans (hkeys [] rfl))
            subst h0
            have : vs = [] := by simpa using hvs
            have := hnil.2 this
            subst this
            exact post_below hR rfl hb rfl
          · rename_i l v0 hgm
            split at hr
            · rename_i ns hns
              rw [Bool.cond_eq_ite] at hr
              split at hr
              · rename_i h32
                have h32 := Nat.eq_of_beq_eq_true h32
                simp only [Option.some.injEq] at hr; subst hr
                obtain ⟨rfl, hlt⟩ := byteL_ok hns
                obtain ⟨s, hs⟩ := hkey ns h32 hlt
                obtain ⟨M', hM', _, hatm⟩ := hR.at_ m _ hgm
                rw [hM] at hM'; simp only [Option.some.injEq] at hM'; subst hM'
                have hml : (1 : Nat) ≤ maxLen := by decide
                obtain ⟨D0, hown, hsz, hkeys⟩ := map_owns (P := P) (k := k) hatm hml (kv := [idVal ns]) (fun E hE => by
                  simp only [gP, Option.bind_eq_some_iff, Option.map_eq_some_iff] at hE
                  obtain ⟨x, hx, y, _, r, hr, rfl⟩ := hE
                  simp only [Option.some.injEq] at hr; subst hr
                  simp only [g, gL_bytes, Option.map_some, Option.some.injEq] at hx; subst hx
                  rfl) (by simp) (fun v hv => by simp only [List.mem_singleton] at hv; subst hv; exact ⟨s, hs⟩)
                refine (law L.blk (L.base + of) M.blk _ D0 w hat.lt hcell hown (by rw [hsz]; exact hml) (by rw [hsz]; show 1 * 32 ≤ 140737488355328; decide)).mono ?_
                rintro e w' ⟨v, vs, ss, rfl, hss, hvs, hrow, hnil, hb⟩
                have h1 : ss = [s] := List.perm_singleton.1 (hss.trans (hkeys [s] (by simp [hs])))
                subst h1
                obtain ⟨l1, rfl⟩ : ∃ l1, vs = [l1] := by
                  cases vs with
                  | nil => simp at hvs
                  | cons a vs => cases vs with
                    | nil => exact ⟨a, rfl⟩
                    | cons b vs => simp at hvs
                have h2 : keyOf P k (.agg l1.toArray) = some (.string s) := by simpa using hvs
                have h3 := hinj h2 hs
                have h4 : l1 = ns.map fun n => Value.int .u8 (Int.ofNat n) := by
                  simp only [idVal, Value.agg.injEq] at h3
                  simpa using congrArg Array.toList h3
                subst h4
                simp only [List.flatten_cons, List.flatten_nil, List.append_nil] at hrow
                exact post_row hR hb (by decide) (Nat.succ_pos 0) (Nat.le_refl _) hrow (gL_bytes ns) rfl
              · cases hr
            · cases hr
          · cases hr
        · cases hr
      · cases hr
    · cases hr
  · cases hr
end
end Ax
namespace Ax
open Go
variable [Sy]

/-! ## Values under other names -/

mutual
/-- A value under other names. -/
noncomputable def rel (ρ : Nat → Option Nat) : AV → Option AV
  | .ptr (some (.own a, i)) => (ρ a).map fun b => .ptr (some (.own b, i))
  | .slc (some (.own a, i)) n c => (ρ a).map fun b => .slc (some (.own b, i)) n c
  | .map (some a) => (ρ a).map fun b => .map (some b)
  | .fn f a b => (relL ρ a).bind fun x => (relL ρ b).map fun y => .fn f x y
  | .ifc t v => (rel ρ v).map (.ifc t)
  | .agg l => (relL ρ l).map .agg
  | .tup l => (relL ρ l).map .tup
  | .any _ => none
  | v => some v
noncomputable def relL (ρ : Nat → Option Nat) : List AV → Option (List AV)
  | [] => some []
  | v :: l => (rel ρ v).bind fun x => (relL ρ l).map fun y => x :: y
end
noncomputable def relP (ρ : Nat → Option Nat) : List (AV × AV) → Option (List (AV × AV))
  | [] => some []
  | (k, v) :: l => (rel ρ k).bind fun x => (rel ρ v).bind fun y => (relP ρ l).map fun z => (x, y) :: z
noncomputable def relC (ρ : Nat → Option Nat) : Cl → Option Cl
  | .gen l => (relL ρ l).map .gen
  | .byt b => some (.byt b)
noncomputable def relO (ρ : Nat → Option Nat) : AO → Option AO
  | .row el cs t => (relC ρ cs).map fun cs => .row el cs t
  | .mp es => (relP ρ es).map .mp
  | .sit s p => some (.sit s p)
  | .perm _ _ _ => none
  | .fmp _ _ => none

section
variable {ρ ρ' : Nat → Option Nat} {φ0 φ' : Mp}

mutual
theorem rel_mono (h : ∀ a b, ρ a = some b → ρ' a = some b) : ∀ {v u : AV}, rel ρ v = some u → rel ρ' v = some u
  | .ptr (some (.own a, i)), u, e => by
    simp only [rel, Option.map_eq_some_iff] at e ⊢; obtain ⟨b, hb, rfl⟩ := e; exact ⟨b, h _ _ hb, rfl⟩
  | .slc (some (.own a, i)) n c, u, e => by
    simp only [rel, Option.map_eq_some_iff] at e ⊢; obtain ⟨b, hb, rfl⟩ := e; exact ⟨b, h _ _ hb, rfl⟩
  | .map (some a), u, e => by
    simp only [rel, Option.map_eq_some_iff] at e ⊢; obtain ⟨b, hb, rfl⟩ := e; exact ⟨b, h _ _ hb, rfl⟩
  | .fn f a b, u, e => by
    simp only [rel, Option.map_eq_some_iff, Option.bind_eq_some_iff] at e ⊢
    obtain ⟨x, hx, y, hy, rfl⟩ := e
    exact ⟨x, relL_mono h hx, y, relL_mono h hy, rfl⟩
  | .ifc t v, u, e => by
    simp only [rel, Option.map_eq_some_iff] at e ⊢; obtain ⟨x, hx, rfl⟩ := e; exact ⟨x, rel_mono h hx, rfl⟩
  | .agg l, u, e => by
    simp only [rel, Option.map_eq_some_iff] at e ⊢; obtain ⟨x, hx, rfl⟩ := e; exact ⟨x, relL_mono h hx, rfl⟩
  | .tup l, u, e => by
    simp only [rel, Option.map_eq_some_iff] at e ⊢; obtain ⟨x, hx, rfl⟩ := e; exact ⟨x, relL_mono h hx, rfl⟩
  | .bool _, _, e => e
  | .int _ _, _, e => e
  | .flt _ _, _, e => e
  | .str _, _, e => e
  | .ptr none, _, e => e
  | .ptr (some (.glob _, _)), _, e => e
  | .slc none _ _, _, e => e
  | .slc (some (.glob _, _)) _ _, _, e => e
  | .map none, _, e => e
  | .nilFn, _, e => e
  | .nilIfc, _, e => e
  | .sint _ _ _, _, e => e
  | .tstr _, _, e => e
  | .sbit _ _, _, e => e
  | .sflt _ _, _, e => e
  | .any _, _, e => by cases e
theorem relL_mono (h : ∀ a b, ρ a = some b → ρ' a = some b) : ∀ {v u : List AV}, relL ρ v = some u → relL ρ' v = some u
  | [], _, e => e
  | v :: l, u, e => by
    simp only [relL, Option.map_eq_some_iff, Option.bind_eq_some_iff] at e ⊢
    obtain ⟨x, hx, y, hy, rfl⟩ := e
    exact ⟨x, rel_mono h hx, y, relL_mono h hy, rfl⟩
end
theorem relP_mono (h : ∀ a b, ρ a = some b → ρ' a = some b) : ∀ {v u : List (AV × AV)}, relP ρ v = some u → relP ρ' v = some u
  | [], _, e => e
  | (k, v) :: l, u, e => by
    simp only [relP, Option.map_eq_some_iff, Option.bind_eq_some_iff] at e ⊢
    obtain ⟨x, hx, y, hy, z, hz, rfl⟩ := e
    exact ⟨x, rel_mono h hx, y, rel_mono h hy, z, relP_mono h hz, rfl⟩
theorem relC_mono (h : ∀ a b, ρ a = some b → ρ' a = some b) {c d : Cl} (e : relC ρ c = some d) : relC ρ' c = some d := by
  cases c with
  | gen l => simp only [relC, Option.map_eq_some_iff] at e ⊢; obtain ⟨x, hx, rfl⟩ := e; exact ⟨x, relL_mono h hx, rfl⟩
  | byt b => exact e
theorem relO_mono (h : ∀ a b, ρ a = some b → ρ' a = some b) {o u : AO} (e : relO ρ o = some u) : relO ρ' o = some u := by
  cases o with
  | row el cs t => simp only [relO, Option.map_eq_some_iff] at e ⊢; obtain ⟨x, hx, rfl⟩ := e; exact ⟨x, relC_mono h hx, rfl⟩
  | mp es => simp only [relO, Option.map_eq_some_iff] at e ⊢; obtain ⟨x, hx, rfl⟩ := e; exact ⟨x, relP_mono h hx, rfl⟩
  | sit s p => exact e
  | perm el sz es => cases e
  | fmp es j => cases e

theorem gA_rel (h : ∀ a b, ρ a = some b → φ' b = φ0 a) {a b i : Nat} (hb : ρ a = some b) : gA φ' (.own b, i) = gA φ0 (.own a, i) := by simp only [gA, h _ _ hb]
theorem gCap_rel (h : ∀ a b, ρ a = some b → φ' b = φ0 a) {a b i e n : Nat} (hb : ρ a = some b) : gCap φ' e n (.own b, i) = gCap φ0 e n (.own a, i) := by simp only [gCap, h _ _ hb]

mutual
/-- A value under other names means the same. -/
theorem g_rel (h : ∀ a b, ρ a = some b → φ' b = φ0 a) : ∀ {v u : AV}, rel ρ v = some u → g φ' u = g φ0 v
  | .ptr (some (.own a, i)), u, e => by
    simp only [rel, Option.map_eq_some_iff] at e; obtain ⟨b, hb, rfl⟩ := e; simp only [g, gA_rel h hb]
  | .slc (some (.own a, i)) n (.k c), u, e => by
    simp only [rel, Option.map_eq_some_iff] at e; obtain ⟨b, hb, rfl⟩ := e; simp only [g, gA_rel h hb]
  | .slc (some (.own a, i)) n (.u c), u, e => by
    simp only [rel, Option.map_eq_some_iff] at e; obtain ⟨b, hb, rfl⟩ := e; simp only [g, gA_rel h hb, gCap_rel h hb]
  | .map (some a), u, e => by
    simp only [rel, Option.map_eq_some_iff] at e; obtain ⟨b, hb, rfl⟩ := e; simp only [g, h _ _ hb]
  | .fn f a b, u, e => by
    simp only [rel, Option.map_eq_some_iff, Option.bind_eq_some_iff] at e
    obtain ⟨x, hx, y, hy, rfl⟩ := e
    simp only [g, gL_rel h hx, gL_rel h hy]
  | .ifc t v, u, e => by
    simp only [rel, Option.map_eq_some_iff] at e; obtain ⟨x, hx, rfl⟩ := e; simp only [g, g_rel h hx]
  | .agg l, u, e => by
    simp only [rel, Option.map_eq_some_iff] at e; obtain ⟨x, hx, rfl⟩ := e; simp only [g, gL_rel h hx]
  | .tup l, u, e => by
    simp only [rel, Option.map_eq_some_iff] at e; obtain ⟨x, hx, rfl⟩ := e; simp only [g, gL_rel h hx]
  | .bool _, _, e => by simp only [rel, Option.some.injEq] at e; subst e; rfl
  | .int _ _, _, e => by simp only [rel, Option.some.injEq] at e; subst e; rfl
  | .flt _ _, _, e => by simp only [rel, Option.some.injEq] at e; subst e; rfl
  | .str _, _, e => by simp only [rel, Option.some.injEq] at e; subst e; rfl
  | .ptr none, _, e => by simp only [rel, Option.some.injEq] at e; subst e; rfl
  | .ptr (some (.glob _, _)), _, e => by simp only [rel, Option.some.injEq] at e; subst e; rfl
  | .slc none _ c, _, e => by simp only [rel, Option.some.injEq] at e; subst e; cases c <;> rfl
  | .slc (some (.glob _, _)) _ c, _, e => by simp only [rel, Option.some.injEq] at e; subst e; cases c <;> rfl
  | .map none, _, e => by simp only [rel, Option.some.injEq] at e; subst e; rfl
  | .nilFn, _, e => by simp only [rel, Option.some.injEq] at e; subst e; rfl
  | .nilIfc, _, e => by simp only [rel, Option.some.injEq] at e; subst e; rfl
  | .sint _ _ _, _, e => by simp only [rel, Option.some.injEq] at e; subst e; rfl
  | .tstr _, _, e => by simp only [rel, Option.some.injEq] at e; subst e; rfl
  | .sbit _ _, _, e => by simp only [rel, Option.some.injEq] at e; subst e; rfl
  | .sflt _ _, _, e => by simp only [rel, Option.some.injEq] at e; subst e; rfl
  | .any _, _, e => by cases e
theorem gL_rel (h : ∀ a b, ρ a = some b → φ' b = φ0 a) : ∀ {v u : List AV}, relL ρ v = some u → gL φ' u = gL φ0 v
  | [], _, e => by simp only [relL, Option.some.injEq] at e; subst e; rfl
  | v :: l, u, e => by
    simp only [relL, Option.map_eq_some_iff, Option.bind_eq_some_iff] at e
    obtain ⟨x, hx, y, hy, rfl⟩ := e
    simp only [gL, g_rel h hx, gL_rel h hy]
end
theorem gP_rel (h : ∀ a b, ρ a = some b → φ' b = φ0 a) : ∀ {v u : List (AV × AV)}, relP ρ v = some u → gP φ' u = gP φ0 v
  | [], _, e => by simp only [relP, Option.some.injEq] at e; subst e; rfl
  | (k, v) :: l, u, e => by
    simp only [relP, Option.map_eq_some_iff, Option.bind_eq_some_iff] at e
    obtain ⟨x, hx, y, hy, z, hz, rfl⟩ := e
    simp only [gP, g_rel h hx, g_rel h hy, gP_rel h hz]
theorem gC_rel (h : ∀ a b, ρ a = some b → φ' b = φ0 a) {c d : Cl} (e : relC ρ c = some d) : gL φ' d.list = gL φ0 c.list := by
  cases c with
  | gen l => simp only [relC, Option.map_eq_some_iff] at e; obtain ⟨x, hx, rfl⟩ := e; exact gL_rel h hx
  | byt b =>
    simp only [relC, Option.some.injEq] at e; subst e
    rw [Cl.list_byt]
    generalize b.list = l
    induction l with
    | nil => rfl
    | cons x l ih => simp only [List.map_cons, gL, g, ih]
theorem At_rel (h : ∀ a b, ρ a = some b → φ' b = φ0 a) {o u : AO} (e : relO ρ o = some u) {L : Lc} {w : World} : At φ' L u w ↔ At φ0 L o w := by
  cases o with
  | row el cs t => simp only [relO, Option.map_eq_some_iff] at e; obtain ⟨x, hx, rfl⟩ := e; simp only [At, gC_rel h hx]
  | mp es => simp only [relO, Option.map_eq_some_iff] at e; obtain ⟨x, hx, rfl⟩ := e; simp only [At, gP_rel h hx]
  | sit s p => simp only [relO, Option.some.injEq] at e; subst e; exact Iff.rfl
  | perm el sz es => cases e
  | fmp es j => cases e
end

/-! ## A call over some objects alone -/

section
variable {E : Env} {ng : Nat} {gl : T (List AV)} {φ : Mp} {h : Hp} {w w' : World} {f : FuncId}

/-- Old names as they lie, new ones behind the others. -/
noncomputable def over (ρ : Nat → Option Nat) (n0 n : Nat) (a : Nat) : Option Nat := if a < n0 then ρ a else some (n + (a - n0))

theorem rel_emb (hp : Plain gl) (hR : Rel ng (glF gl) φ h w) {ρ : Nat → Option Nat} {H0 : Hp} (inj : ∀ a a' b, ρ a = some b → ρ a' = some b → a = a') (low : ∀ a b, ρ a = some b → a < H0.nxt)
    (hH0 : ∀ a o, H0.get a = some o → ∃ b u, ρ a = some b ∧ relO ρ o = some u ∧ h.get b = some u) : Rel ng (glF gl) (fun a => (ρ a).bind φ) H0 w := by
  have hφ : ∀ a b, ρ a = some b → φ b = (fun a => (ρ a).bind φ) a := fun a b hb => by simp only [hb, Option.bind_some]
  refine ⟨fun a o ho => ?_, fun i j o u L M hi hj hL hM hb => ?_, fun a ha => ?_, hR.ngle, fun n cs hc => ?_⟩
  · obtain ⟨b, u, hb, hu, hg⟩ := hH0 a o ho
    obtain ⟨L, hL, hng, hat⟩ := hR.at_ b u hg
    exact ⟨L, by simp only [hb, Option.bind_some, hL], hng, (At_rel hφ hu).1 hat⟩
  · obtain ⟨b, u', hb', hu, hg⟩ := hH0 i o hi
    obtain ⟨b2, u2, hb2, hu2, hg2⟩ := hH0 j u hj
    simp only [hb', Option.bind_some] at hL
    simp only [hb2, Option.bind_some] at hM
    have := hR.inj b b2 _ _ L M hg hg2 hL hM hb
    subst this
    exact inj _ _ _ hb' hb2
  · cases hr : ρ a with
    | none => simp only [hr, Option.bind_none]
    | some b => have := low a b hr; omega
  · obtain ⟨hlt, c, el, fz, xs, h1, h2, h3⟩ := hR.gl_ n cs hc
    obtain ⟨ys, hys⟩ := hp n cs hc
    have := gL_sub (sub_none φ) hys
    rw [h2] at this; simp only [Option.some.injEq] at this; subst this
    exact ⟨hlt, c, el, fz, xs, h1, gL_sub (sub_none _) hys, h3⟩

/-- A CALL OVER SOME OBJECTS ALONE IS THE SAME IN ANY HEAP THAT HOLDS THEM. -/
theorem frag_ok (hp : Plain gl) {P : Program} {cal : FuncId → List AV → Hp → CR} (hc : CalOk P ng gl cal) (hR : Rel ng (glF gl) φ h w) {ρ : Nat → Option Nat} {H0 H1 h' : Hp} (inj : ∀ a a' b, ρ a = some b → ρ a' = some b → a = a') (low : ∀ a b, ρ a = some b → a < H0.nxt)
    (high : ∀ a b, ρ a = some b → b < h.nxt) (hH0 : ∀ a o, H0.get a = some o → ∃ b u, ρ a = some b ∧ relO ρ o = some u ∧ h.get b = some u)
    {as0 as : List AV} (has : relL ρ as0 = some as) {H2 : Hp} {v0 v : AV} (hrun : cal f as0 H0 = .ret v0 H2) (hless : ∀ a o, H1.get a = some o → H2.get a = some o) (hn2 : H2.nxt ≤ H1.nxt) (hv : rel (over ρ H0.nxt h.nxt) v0 = some v) (hn : h'.nxt = h.nxt + (H1.nxt - H0.nxt))
    (hget : ∀ b u, h'.get b = some u → (∃ a o, over ρ H0.nxt h.nxt a = some b ∧ H1.get a = some o ∧ relO (over ρ H0.nxt h.nxt) o = some u) ∨ (h.get b = some u ∧ ∀ a, ρ a = some b → H0.get a = none))
    {A : List Value} (hA : gL φ as = some A) : Calls P f A.toArray w (CPost ng gl φ h w (.ret v h')) := by
  have hφ : ∀ a b, ρ a = some b → φ b = (fun a => (ρ a).bind φ) a := fun a b hb => by simp only [hb, Option.bind_some]
  have hRe := rel_emb hp hR inj low hH0
  have hA0 : gL (fun a => (ρ a).bind φ) as0 = some A := by rw [← gL_rel hφ has]; exact hA
  have := hc f as0 H0 (by rw [hrun]; trivial) _ w A hA0 hRe
  rw [hrun] at this
  refine this.mono fun e w' he => ?_
  cases e with
  | panicked ch => exact he.elim
  | outgrown => exact he.elim
  | returned V =>
    obtain ⟨φ1, hv1, hR2, hS2⟩ := he
    have hR1 := hR2.less hless hn2
    have hS1 := hS2.trans (Stp.less (φ := φ1) (w := w') hless hn2)
    clear hR2 hS2
    have old : ∀ a, a < H0.nxt → φ1 a = (ρ a).bind φ := hS1.old
    generalize hφd : (fun id => if id < h.nxt then φ id else φ1 (id - h.nxt + H0.nxt) : Mp) = φ'
    have hlo : ∀ id, id < h.nxt → φ' id = φ id := fun id hid => by rw [← hφd]; simp only [hid, if_true]
    have hhi : ∀ id, h.nxt ≤ id → φ' id = φ1 (id - h.nxt + H0.nxt) := fun id hid => by rw [← hφd]; simp only [Nat.not_lt.2 hid, if_false]
    have hsub : Sub φ φ' := fun id L hL => by
      by_cases hid : id < h.nxt
      · rw [hlo id hid]; exact hL
      · rw [hR.fresh id (by omega)] at hL; cases hL
    have hov : ∀ a b, over ρ H0.nxt h.nxt a = some b → φ' b = φ1 a := fun a b hb => by
      unfold over at hb
      split at hb
      · rename_i ha
        rw [hlo b (high _ _ hb), old a ha, hb, Option.bind_some]
      · rename_i ha
        simp only [Option.some.injEq] at hb; subst hb
        rw [hhi _ (Nat.le_add_right _ _)]
        congr 1; omega
    have ovinj : ∀ a a' b, over ρ H0.nxt h.nxt a = some b → over ρ H0.nxt h.nxt a' = some b → a = a' := fun a a' b h1 h2 => by
      unfold over at h1 h2
      split at h1 <;> split at h2
      · exact inj _ _ _ h1 h2
      · have := high _ _ h1; simp only [Option.some.injEq] at h2; omega
      · have := high _ _ h2; simp only [Option.some.injEq] at h1; omega
      · simp only [Option.some.injEq] at h1 h2; omega
    -- what lies untouched
    have apart : ∀ b u M, h.get b = some u → φ b = some M → (∀ a, ρ a = some b → H0.get a = none) → ¬ Dom (fun a => (ρ a).bind φ) H0 M.blk := by
      rintro b u M hb hM hno ⟨a, o, L, h1, h2, h3⟩
      obtain ⟨b2, u2, hb2, _, hg2⟩ := hH0 a o h1
      simp only [hb2, Option.bind_some] at h2
      have := hR.inj b2 b _ _ L M hg2 hb h2 hM h3
      subst this
      rw [hno a hb2] at h1; cases h1
    have domH : ∀ b, Dom (fun a => (ρ a).bind φ) H0 b → Dom φ h b := by
      rintro b ⟨a, o, L, h1, h2, h3⟩
      obtain ⟨b2, u2, hb2, _, hg2⟩ := hH0 a o h1
      simp only [hb2, Option.bind_some] at h2
      exact ⟨b2, u2, L, hg2, h2, h3⟩
    have seenH : ∀ b o, Seen (fun a => (ρ a).bind φ) H0 b o → Seen φ h b o := by
      rintro b o ⟨a, ob, L, h1, h2, h3⟩
      obtain ⟨b2, u2, hb2, _, hg2⟩ := hH0 a ob h1
      simp only [hb2, Option.bind_some] at h2
      exact ⟨b2, u2, L, hg2, h2, h3⟩
    have hnx := hS1.nx
    refine ⟨φ', by rw [g_rel hov hv]; exact hv1, ⟨?_, ?_, ?_, Nat.le_trans hR.ngle hS1.size, ?_⟩, ⟨⟨hsub, hS1.os, hS1.tape, hS1.output, hS1.size, fun b hb hd => hS1.block b hb fun hd' => hd (domH b hd'), ?_, ?_, ?_⟩, hlo, by omega⟩⟩
    · intro b u hb
      rcases hget b u hb with ⟨a, o, hab, ho, hu⟩ | ⟨hb', hno⟩
      · obtain ⟨L, hL, hng, hat⟩ := hR1.at_ a o ho
        exact ⟨L, by rw [hov a b hab]; exact hL, hng, (At_rel hov hu).2 hat⟩
      · obtain ⟨L, hL, hng, hat⟩ := hR.at_ b u hb'
        exact ⟨L, hsub _ _ hL, hng, (hat.sub hsub).frame (hS1.block _ hat.lt (apart b u L hb' hL hno))⟩
    · intro i j o u L M hi hj hL hM hbk
      have mixed : ∀ i j o u L M, φ' i = some L → φ' j = some M → L.blk = M.blk → (∃ a ob, over ρ H0.nxt h.nxt a = some i ∧ H1.get a = some ob ∧ relO (over ρ H0.nxt h.nxt) ob = some o) → h.get j = some u → (∀ a, ρ a = some j → H0.get a = none) → False := by
        rintro i j o u L M hL hM hbk ⟨a, ob, ha, hob, _⟩ hj hno
        obtain ⟨M', hM', _, hatM⟩ := hR.at_ j u hj
        have e := hsub _ _ hM'
        rw [hM] at e; simp only [Option.some.injEq] at e; subst e
        rw [hov a i ha] at hL
        rcases hS1.dom L.blk ⟨a, ob, L, hob, hL, rfl⟩ with hd | hd
        · rw [hbk] at hd; exact apart j u M hj hM' hno hd
        · have := hatM.lt; omega
      rcases hget i o hi with h1 | ⟨h1, n1⟩ <;> rcases hget j u hj with h2 | ⟨h2, n2⟩
      · obtain ⟨a, ob, ha, hob, _⟩ := h1
        obtain ⟨a2, ob2, ha2, hob2, _⟩ := h2
        rw [hov a i ha] at hL; rw [hov a2 j ha2] at hM
        have := hR1.inj a a2 _ _ L M hob hob2 hL hM hbk
        subst this
        rw [ha] at ha2; simpa using ha2
      · exact (mixed i j o u L M hL hM hbk h1 h2 n2).elim
      · exact (mixed j i u o M L hM hL hbk.symm h2 h1 n1).elim
      · obtain ⟨L', hL', _, _⟩ := hR.at_ i o h1
        obtain ⟨M', hM', _, _⟩ := hR.at_ j u h2
        have e1 := hsub _ _ hL'
        have e2 := hsub _ _ hM'
        rw [hL] at e1; rw [hM] at e2
        simp only [Option.some.injEq] at e1 e2; subst e1; subst e2
        exact hR.inj i j o u _ _ h1 h2 hL' hM' hbk
    · intro id hid
      rw [hhi id (by omega)]
      exact hR1.fresh _ (by omega)
    · intro n cs hcs
      obtain ⟨hlt, c, el, fz, xs, h1, h2, h3⟩ := hR1.gl_ n cs hcs
      obtain ⟨ys, hys⟩ := hp n cs hcs
      have := gL_sub (sub_none φ1) hys
      rw [h2] at this; simp only [Option.some.injEq] at this; subst this
      exact ⟨hlt, c, el, fz, xs, h1, gL_sub (sub_none _) hys, h3⟩
    · rintro b ⟨i, o, L, hi, hL, rfl⟩
      rcases hget i o hi with ⟨a, ob, ha, hob, _⟩ | ⟨h1, n1⟩
      · rw [hov a i ha] at hL
        rcases hS1.dom L.blk ⟨a, ob, L, hob, hL, rfl⟩ with hd | hd
        · exact .inl (domH _ hd)
        · exact .inr hd
      · obtain ⟨L', hL', _, _⟩ := hR.at_ i o h1
        have e1 := hsub _ _ hL'
        rw [hL] at e1; simp only [Option.some.injEq] at e1; subst e1
        exact .inl ⟨i, o, L, h1, hL', rfl⟩
    · intro b c el fz hb hcb
      obtain ⟨c', fz', h1, h2, h3⟩ := hS1.cells b c el fz hb hcb
      exact ⟨c', fz', h1, h2, fun o ho => h3 o fun hs => ho (seenH b o hs)⟩
    · intro i o L hi hL hlt
      rcases hget i o hi with ⟨a, ob, ha, hob, _⟩ | ⟨h1, n1⟩
      · rw [hov a i ha] at hL
        obtain ⟨a2, o2, L2, k1, k2, k3⟩ := hS1.view a ob L hob hL hlt
        obtain ⟨b2, u2, hb2, _, hg2⟩ := hH0 a2 o2 k1
        simp only [hb2, Option.bind_some] at k2
        exact ⟨b2, u2, L2, hg2, k2, k3⟩
      · obtain ⟨L', hL', _, _⟩ := hR.at_ i o h1
        have e1 := hsub _ _ hL'
        rw [hL] at e1; simp only [Option.some.injEq] at e1; subst e1
        exact ⟨i, o, L, h1, hL', rfl, Nat.le_refl _, Nat.le_refl _⟩
end
end Ax
namespace Ax
open Go
variable [Sy]

/-! ## One heap found in another -/

/-- Where names go, and whence. -/
structure Re where
  to : T Nat
  fro : T Nat
noncomputable def Re.nil : Re := ⟨.nil, .nil⟩
noncomputable def Re.at (r : Re) (a : Nat) : Option Nat := r.to.get (Ps.key a)
noncomputable def Re.add (n0 hn : Nat) (r : Re) (a b : Nat) : Option Re :=
  match r.to.get (Ps.key a) with
  | some b' => bif Nat.beq b' b then some r else none
  | none => match r.fro.get (Ps.key b) with
    | some _ => none
    | none => bif Nat.blt a n0 && Nat.blt b hn then some ⟨r.to.put (some b) (Ps.key a), r.fro.put (some a) (Ps.key b)⟩ else none

structure ReOk (n0 hn : Nat) (r : Re) : Prop where
  back : ∀ a b, r.at a = some b → r.fro.get (Ps.key b) = some a
  low : ∀ a b, r.at a = some b → a < n0
  high : ∀ a b, r.at a = some b → b < hn
theorem reOk_nil {n0 hn : Nat} : ReOk n0 hn Re.nil := ⟨fun a b h => by simp [Re.at, Re.nil, T.get_nil] at h, fun a b h => by simp [Re.at, Re.nil, T.get_nil] at h, fun a b h => by simp [Re.at, Re.nil, T.get_nil] at h⟩
theorem ReOk.inj {n0 hn : Nat} {r : Re} (h : ReOk n0 hn r) (a a' b : Nat) (h1 : r.at a = some b) (h2 : r.at a' = some b) : a = a' := by
  have e1 := h.back a b h1
  have e2 := h.back a' b h2
  rw [e1] at e2; simpa using e2

/-- What it comes to, that two things were found to fit. -/
noncomputable def Fits (n0 hn : Nat) (r r' : Re) (X : Prop) : Prop := ReOk n0 hn r → ReOk n0 hn r' ∧ (∀ a b, r.at a = some b → r'.at a = some b) ∧ X

theorem add_ok {n0 hn : Nat} {r r' : Re} {a b : Nat} (h : r.add n0 hn a b = some r') : Fits n0 hn r r' (r'.at a = some b) := by
  intro hr
  unfold Re.add at h
  split at h
  · rename_i b' hb
    rw [Bool.cond_eq_ite] at h
    split at h
    · rename_i he
      have he := Nat.eq_of_beq_eq_true he
      simp only [Option.some.injEq] at h; subst h; subst he
      exact ⟨hr, fun _ _ h => h, hb⟩
    · cases h
  · rename_i hno
    split at h
    · cases h
    · rename_i hno2
      rw [Bool.cond_eq_ite] at h
      split at h
      · rename_i hlt
        rw [Bool.and_eq_true, blt_iff, blt_iff] at hlt
        simp only [Option.some.injEq] at h; subst h
        have key : ∀ x y, (⟨r.to.put (some b) (Ps.key a), r.fro.put (some a) (Ps.key b)⟩ : Re).at x = some y → (x = a ∧ y = b) ∨ (x ≠ a ∧ r.at x = some y) := by
          intro x y hx
          simp only [Re.at, T.get_put, Ps.key_eq] at hx
          split at hx
          · rename_i hxa; simp only [Option.some.injEq] at hx; exact .inl ⟨hxa, hx.symm⟩
          · rename_i hxa; exact .inr ⟨hxa, hx⟩
        refine ⟨⟨fun x y hx => ?_, fun x y hx => ?_, fun x y hx => ?_⟩, fun x y hx => ?_, ?_⟩
        · rcases key x y hx with ⟨rfl, rfl⟩ | ⟨hne, hx⟩
          · simp only [T.get_put, if_true]
          · have := hr.back x y hx
            simp only [T.get_put, Ps.key_eq]
            split
            · rename_i hyb; subst hyb; rw [hno2] at this; cases this
            · exact this
        · rcases key x y hx with ⟨rfl, rfl⟩ | ⟨hne, hx⟩
          · exact hlt.1
          · exact hr.low x y hx
        · rcases key x y hx with ⟨rfl, rfl⟩ | ⟨hne, hx⟩
          · exact hlt.2
          · exact hr.high x y hx
        · simp only [Re.at, T.get_put, Ps.key_eq] at hx ⊢
          split
          · rename_i hxa; subst hxa; rw [hno] at hx; cases hx
          · exact hx
        · simp only [Re.at, T.get_put, if_true]
      · cases h

noncomputable def uniBool (a : Bool) (v : AV) (r : Re) : Option Re := match v with | .bool b => bif a then (bif b then some r else none) else (bif b then none else some r) | _ => none
noncomputable def uniInt (k : IntKind) (a : Int) (v : AV) (r : Re) : Option Re := match v with | .int k' b => bif kEq k k' && iEq a b then some r else none | _ => none
noncomputable def uniFlt (k : FloatKind) (a : Nat) (v : AV) (r : Re) : Option Re := match k, v with | .f64, .flt .f64 b => bif Nat.beq a b then some r else none | _, _ => none
noncomputable def uniStr (a : BS) (v : AV) (r : Re) : Option Re := match v with | .str b => bif a.same b then some r else none | _ => none
noncomputable def uniAd (n0 hn : Nat) (a b : Option (Ad × Nat)) (r : Re) : Option Re := match a with
  | none => (match b with | none => some r | some _ => none)
  | some (.own x, i) => (match b with | some (.own y, j) => bif Nat.beq i j then r.add n0 hn x y else none | _ => none)
  | some (.glob x, i) => (match b with | some (.glob y, j) => bif Nat.beq i j && Nat.beq x y then some r else none | _ => none)
noncomputable def cpEq : Cp → Cp → Bool
  | .k a, .k b => Nat.beq a b
  | .u a, .u b => Nat.beq a b
  | _, _ => false
noncomputable def uniPtr (n0 hn : Nat) (a : Option (Ad × Nat)) (v : AV) (r : Re) : Option Re := match v with | .ptr b => uniAd n0 hn a b r | _ => none
noncomputable def uniSlc (n0 hn : Nat) (a : Option (Ad × Nat)) (n : Nat) (c : Cp) (v : AV) (r : Re) : Option Re := match v with | .slc b n' c' => bif Nat.beq n n' && cpEq c c' then uniAd n0 hn a b r else none | _ => none
noncomputable def uniMap (n0 hn : Nat) (a : Option Nat) (v : AV) (r : Re) : Option Re := match a with
  | none => (match v with | .map none => some r | _ => none)
  | some a => (match v with | .map (some b) => r.add n0 hn a b | _ => none)
noncomputable def uniNilF (v : AV) (r : Re) : Option Re := match v with | .nilFn => some r | _ => none
noncomputable def uniNilI (v : AV) (r : Re) : Option Re := match v with | .nilIfc => some r | _ => none
noncomputable def uniTstr (i : Nat) (v : AV) (r : Re) : Option Re := match v with | .tstr j => bif Nat.beq i j then some r else none | _ => none
noncomputable def fnEq : Fn → Fn → Bool
  | .func a, .func b => Nat.beq a b
  | _, _ => false
noncomputable def asFn (v : AV) : Option (Fn × List AV × List AV) := match v with | .fn f a b => some (f, a, b) | _ => none
noncomputable def asIfc (v : AV) : Option (TypeId × AV) := match v with | .ifc t x => some (t, x) | _ => none
noncomputable def asAgg (v : AV) : Option (List AV) := match v with | .agg l => some l | _ => none
noncomputable def asTup (v : AV) : Option (List AV) := match v with | .tup l => some l | _ => none
noncomputable def thenR (o : Option Re) (k : Re → Option Re) : Option Re := match o with | some r => k r | none => none
mutual
noncomputable def uni (n0 hn : Nat) : AV → AV → Re → Option Re
  | .bool a, v, r => uniBool a v r
  | .int k a, v, r => uniInt k a v r
  | .flt k a, v, r => uniFlt k a v r
  | .str a, v, r => uniStr a v r
  | .ptr a, v, r => uniPtr n0 hn a v r
  | .slc a n c, v, r => uniSlc n0 hn a n c v r
  | .map a, v, r => uniMap n0 hn a v r
  | .fn f a c, v, r => (match asFn v with | some (f', b, d) => bif fnEq f f' then thenR (uniL n0 hn a b r) (fun r => uniL n0 hn c d r) else none | none => none)
  | .nilFn, v, r => uniNilF v r
  | .ifc t x, v, r => (match asIfc v with | some (t', y) => bif Nat.beq t t' then uni n0 hn x y r else none | none => none)
  | .nilIfc, v, r => uniNilI v r
  | .agg l, v, r => (match asAgg v with | some m => uniL n0 hn l m r | none => none)
  | .tup l, v, r => (match asTup v with | some m => uniL n0 hn l m r | none => none)
  | .tstr i, v, r => uniTstr i v r
  | .sint _ _ _, _, _ => none
  | .sbit _ _, _, _ => none
  | .sflt _ _, _, _ => none
  | .any _, _, _ => none
noncomputable def uniL (n0 hn : Nat) : List AV → List AV → Re → Option Re
  | [], v, r => (match v with | [] => some r | _ :: _ => none)
  | x :: l, v, r => (match v with | y :: m => thenR (uni n0 hn x y r) (fun r => uniL n0 hn l m r) | [] => none)
end
noncomputable def uniP (n0 hn : Nat) : List (AV × AV) → List (AV × AV) → Re → Option Re
  | [], v, r => match v with | [] => some r | _ :: _ => none
  | (k, x) :: l, v, r => match v with
    | (k', y) :: m => (match uni n0 hn k k' r with | some r => (match uni n0 hn x y r with | some r => uniP n0 hn l m r | none => none) | none => none)
    | [] => none
noncomputable def tlEq : Option Nat → Option Nat → Bool
  | none, none => true
  | some a, some b => Nat.beq a b
  | _, _ => false
theorem tlEq_ok {a b : Option Nat} (h : tlEq a b = true) : a = b := by
  cases a <;> cases b <;> simp_all [tlEq]
noncomputable def uniC (n0 hn : Nat) (c d : Cl) (r : Re) : Option Re := match c with
  | .gen l => (match d with | .gen m => uniL n0 hn l m r | .byt _ => none)
  | .byt a => (match d with | .byt b => bif a.same b then some r else none | .gen _ => none)
noncomputable def uniO (n0 hn : Nat) (o u : AO) (r : Re) : Option Re := match o with
  | .row el cs t => (match u with | .row el' cs' t' => bif Nat.beq el el' && tlEq t t' then uniC n0 hn cs cs' r else none | _ => none)
  | .mp es => (match u with | .mp es' => uniP n0 hn es es' r | _ => none)
  | .sit s p => (match u with | .sit s' p' => bif sEq s s' && Nat.beq p p' then some r else none | _ => none)
  | .perm _ _ _ => none
  | .fmp _ _ => none
noncomputable def uniH (n0 hn : Nat) (h : Hp) : List (Nat × AO) → Re → Option Re
  | [], r => some r
  | (a, o) :: l, r => match r.to.get (Ps.key a) with
    | some b => (match h.get b with
      | some u => (match uniO n0 hn o u r with | some r => uniH n0 hn h l r | none => none)
      | none => none)
    | none => none

section
variable {n0 hn : Nat}
theorem Fits.leaf {r : Re} {X : Prop} (hX : X) : Fits n0 hn r r X := fun h => ⟨h, fun _ _ h => h, hX⟩
theorem Fits.two {r r1 r2 : Re} {X Y Z : Prop} (h1 : Fits n0 hn r r1 X) (h2 : Fits n0 hn r1 r2 Y) (hz : (∀ a b, r1.at a = some b → r2.at a = some b) → X → Y → Z) : Fits n0 hn r r2 Z := fun h => by
  obtain ⟨a1, a2, a3⟩ := h1 h
  obtain ⟨b1, b2, b3⟩ := h2 a1
  exact ⟨b1, fun x y h => b2 x y (a2 x y h), hz b2 a3 b3⟩
theorem Fits.one {r r1 : Re} {X Z : Prop} (h1 : Fits n0 hn r r1 X) (hz : X → Z) : Fits n0 hn r r1 Z := fun h => by
  obtain ⟨a1, a2, a3⟩ := h1 h
  exact ⟨a1, a2, hz a3⟩

theorem sEq_ok {a b : List UInt8} (h : sEq a b = true) : a = b := by rw [sEq_eq] at h; simpa using h
theorem iEq_ok {a b : Int} (h : iEq a b = true) : a = b := by rw [iEq_eq] at h; simpa using h
theorem kEq_ok {a b : IntKind} (h : kEq a b = true) : a = b := by rw [kEq_eq] at h; simpa using h

theorem uniAd_ok {a b : Option (Ad × Nat)} {r r' : Re} (h : uniAd n0 hn a b r = some r') : Fits n0 hn r r' (rel r'.at (.ptr a) = some (.ptr b) ∧ ∀ n c, rel r'.at (.slc a n c) = some (.slc b n c)) := by
  unfold uniAd at h
  split at h
  · split at h
    · simp only [Option.some.injEq] at h; subst h; exact .leaf ⟨rfl, fun _ _ => rfl⟩
    · cases h
  · split at h
    · rw [Bool.cond_eq_ite] at h
      split at h
      · rename_i hb
        have hb := Nat.eq_of_beq_eq_true hb
        subst hb
        exact (add_ok h).one fun e => ⟨by simp only [rel, e, Option.map_some], fun _ _ => by simp only [rel, e, Option.map_some]⟩
      · cases h
    · cases h
  · split at h
    · rw [Bool.cond_eq_ite] at h
      split at h
      · rename_i hb
        rw [Bool.and_eq_true] at hb
        obtain ⟨h1, h2⟩ := hb
        have h1 := Nat.eq_of_beq_eq_true h1
        have h2 := Nat.eq_of_beq_eq_true h2
        subst h1; subst h2
        simp only [Option.some.injEq] at h; subst h
        exact .leaf ⟨rfl, fun _ _ => rfl⟩
      · cases h
    · cases h
theorem cpEq_ok {a b : Cp} (h : cpEq a b = true) : a = b := by
  cases a <;> cases b <;> simp only [cpEq, Bool.false_eq_true] at h
  · rw [Nat.eq_of_beq_eq_true h]
  · rw [Nat.eq_of_beq_eq_true h]
theorem fnEq_ok {a b : Fn} (h : fnEq a b = true) : a = b := by
  unfold fnEq at h
  split at h
  · rw [Nat.eq_of_beq_eq_true h]
  · cases h
theorem uniBool_ok {a : Bool} {u : AV} {r r' : Re} (h : uniBool a u r = some r') : Fits n0 hn r r' (rel r'.at (.bool a) = some u) := by
  unfold uniBool at h
  split at h
  · rename_i b
    cases a <;> cases b <;> simp at h <;> (subst h; exact .leaf rfl)
  · cases h
theorem uniInt_ok {k : IntKind} {a : Int} {u : AV} {r r' : Re} (h : uniInt k a u r = some r') : Fits n0 hn r r' (rel r'.at (.int k a) = some u) := by
  unfold uniInt at h
  split at h
  · rw [Bool.cond_eq_ite] at h
    split at h
    · rename_i hb
      rw [Bool.and_eq_true] at hb
      simp only [Option.some.injEq] at h; subst h
      rw [kEq_ok hb.1, iEq_ok hb.2]; exact .leaf rfl
    · cases h
  · cases h
theorem uniFlt_ok {k : FloatKind} {a : Nat} {u : AV} {r r' : Re} (h : uniFlt k a u r = some r') : Fits n0 hn r r' (rel r'.at (.flt k a) = some u) := by
  unfold uniFlt at h
  split at h
  · rw [Bool.cond_eq_ite] at h
    split at h
    · rename_i hb
      simp only [Option.some.injEq] at h; subst h
      rw [Nat.eq_of_beq_eq_true hb]; exact .leaf rfl
    · cases h
  · cases h
theorem uniStr_ok {a : BS} {u : AV} {r r' : Re} (h : uniStr a u r = some r') : Fits n0 hn r r' (rel r'.at (.str a) = some u) := by
  unfold uniStr at h
  split at h
  · rw [Bool.cond_eq_ite] at h
    split at h
    · rename_i hb
      simp only [Option.some.injEq] at h; subst h
      rw [BS.same_ok hb]; exact .leaf rfl
    · cases h
  · cases h
theorem uniPtr_ok {a : Option (Ad × Nat)} {u : AV} {r r' : Re} (h : uniPtr n0 hn a u r = some r') : Fits n0 hn r r' (rel r'.at (.ptr a) = some u) := by
  unfold uniPtr at h
  split at h
  · exact (uniAd_ok h).one fun e => e.1
  · cases h
theorem uniSlc_ok {a : Option (Ad × Nat)} {n : Nat} {c : Cp} {u : AV} {r r' : Re} (h : uniSlc n0 hn a n c u r = some r') : Fits n0 hn r r' (rel r'.at (.slc a n c) = some u) := by
  unfold uniSlc at h
  split at h
  · rw [Bool.cond_eq_ite] at h
    split at h
    · rename_i hb
      rw [Bool.and_eq_true] at hb
      have h1 := Nat.eq_of_beq_eq_true hb.1
      have h2 := cpEq_ok hb.2
      subst h1; subst h2
      exact (uniAd_ok h).one fun e => e.2 _ _
    · cases h
  · cases h
theorem uniMap_ok {a : Option Nat} {u : AV} {r r' : Re} (h : uniMap n0 hn a u r = some r') : Fits n0 hn r r' (rel r'.at (.map a) = some u) := by
  unfold uniMap at h
  split at h
  · split at h
    · simp only [Option.some.injEq] at h; subst h; exact .leaf rfl
    · cases h
  · split at h
    · exact (add_ok h).one fun e => by simp only [rel, e, Option.map_some]
    · cases h
theorem uniNilF_ok {u : AV} {r r' : Re} (h : uniNilF u r = some r') : Fits n0 hn r r' (rel r'.at .nilFn = some u) := by
  unfold uniNilF at h
  split at h
  · simp only [Option.some.injEq] at h; subst h; exact .leaf rfl
  · cases h
theorem uniNilI_ok {u : AV} {r r' : Re} (h : uniNilI u r = some r') : Fits n0 hn r r' (rel r'.at .nilIfc = some u) := by
  unfold uniNilI at h
  split at h
  · simp only [Option.some.injEq] at h; subst h; exact .leaf rfl
  · cases h
theorem uniTstr_ok {i : Nat} {u : AV} {r r' : Re} (h : uniTstr i u r = some r') : Fits n0 hn r r' (rel r'.at (.tstr i) = some u) := by
  unfold uniTstr at h
  split at h
  · rw [Bool.cond_eq_ite] at h
    split at h
    · rename_i hb
      have hb := Nat.eq_of_beq_eq_true hb
      subst hb
      simp only [Option.some.injEq] at h; subst h
      exact .leaf rfl
    · cases h
  · cases h
theorem asFn_ok {v : AV} {f : Fn} {a b : List AV} (h : asFn v = some (f, a, b)) : v = .fn f a b := by
  unfold asFn at h
  split at h
  · simp only [Option.some.injEq, Prod.mk.injEq] at h; obtain ⟨rfl, rfl, rfl⟩ := h; rfl
  · cases h
theorem asIfc_ok {v x : AV} {t : TypeId} (h : asIfc v = some (t, x)) : v = .ifc t x := by
  unfold asIfc at h
  split at h
  · simp only [Option.some.injEq, Prod.mk.injEq] at h; obtain ⟨rfl, rfl⟩ := h; rfl
  · cases h
theorem asAgg_ok {v : AV} {l : List AV} (h : asAgg v = some l) : v = .agg l := by
  unfold asAgg at h
  split at h
  · simp only [Option.some.injEq] at h; subst h; rfl
  · cases h
theorem asTup_ok {v : AV} {l : List AV} (h : asTup v = some l) : v = .tup l := by
  unfold asTup at h
  split at h
  · simp only [Option.some.injEq] at h; subst h; rfl
  · cases h
theorem thenR_ok {o : Option Re} {k : Re → Option Re} {r : Re} (h : thenR o k = some r) : ∃ r1, o = some r1 ∧ k r1 = some r := by
  cases o with
  | none => cases h
  | some r1 => exact ⟨r1, rfl, h⟩
/-- What is to be shown of a value, and of values. -/
noncomputable def UV (n0 hn : Nat) (v : AV) : Prop := ∀ u r r', uni n0 hn v u r = some r' → Fits n0 hn r r' (rel r'.at v = some u)
noncomputable def UL (n0 hn : Nat) (v : List AV) : Prop := ∀ u r r', uniL n0 hn v u r = some r' → Fits n0 hn r r' (relL r'.at v = some u)
theorem uv_fn {f : Fn} {a c : List AV} (ha : UL n0 hn a) (hc : UL n0 hn c) : UV n0 hn (.fn f a c) := fun u r r' h => by
  have h : (match asFn u with | some (f', b, d) => bif fnEq f f' then thenR (uniL n0 hn a b r) (fun r => uniL n0 hn c d r) else none | none => none) = some r' := h
  split at h
  · rename_i f' b d hv
    rw [Bool.cond_eq_ite] at h
    split at h
    · rename_i hb
      have hb := fnEq_ok hb
      subst hb
      obtain ⟨r1, hr1, hr2⟩ := thenR_ok h
      rw [asFn_ok hv]
      exact (ha _ _ _ hr1).two (hc _ _ _ hr2) fun hm e1 e2 => by simp only [rel, relL_mono hm e1, e2, Option.bind_some, Option.map_some]
    · cases h
  · cases h
theorem uv_ifc {t : TypeId} {x : AV} (hx : UV n0 hn x) : UV n0 hn (.ifc t x) := fun u r r' h => by
  have h : (match asIfc u with | some (t', y) => bif Nat.beq t t' then uni n0 hn x y r else none | none => none) = some r' := h
  split at h
  · rename_i t' y hv
    rw [Bool.cond_eq_ite] at h
    split at h
    · rename_i hb
      have hb := Nat.eq_of_beq_eq_true hb
      subst hb
      rw [asIfc_ok hv]
      exact (hx _ _ _ h).one fun e => by simp only [rel, e, Option.map_some]
    · cases h
  · cases h
theorem uv_agg {l : List AV} (hl : UL n0 hn l) : UV n0 hn (.agg l) := fun u r r' h => by
  have h : (match asAgg u with | some m => uniL n0 hn l m r | none => none) = some r' := h
  split at h
  · rename_i m hv
    rw [asAgg_ok hv]
    exact (hl _ _ _ h).one fun e => by simp only [rel, e, Option.map_some]
  · cases h
theorem uv_tup {l : List AV} (hl : UL n0 hn l) : UV n0 hn (.tup l) := fun u r r' h => by
  have h : (match asTup u with | some m => uniL n0 hn l m r | none => none) = some r' := h
  split at h
  · rename_i m hv
    rw [asTup_ok hv]
    exact (hl _ _ _ h).one fun e => by simp only [rel, e, Option.map_some]
  · cases h
theorem ul_nil : UL n0 hn [] := fun u r r' h0 => by
  cases u with
  | nil =>
    have h : some r = some r' := h0
    simp only [Option.some.injEq] at h; subst h; exact .leaf rfl
  | cons y m =>
    have h : (none : Option Re) = some r' := h0
    cases h
theorem ul_cons {x : AV} {l : List AV} (hx : UV n0 hn x) (hl : UL n0 hn l) : UL n0 hn (x :: l) := fun u r r' h0 => by
  cases u with
  | nil =>
    have h : (none : Option Re) = some r' := h0
    cases h
  | cons y m =>
    have h : thenR (uni n0 hn x y r) (fun r => uniL n0 hn l m r) = some r' := h0
    obtain ⟨r1, hr1, hr2⟩ := thenR_ok h
    exact (hx _ _ _ hr1).two (hl _ _ _ hr2) fun hm e1 e2 => by simp only [relL, rel_mono hm e1, e2, Option.bind_some, Option.map_some]
theorem uv (v : AV) : UV n0 hn v :=
  @AV.rec (fun v => UV n0 hn v) (fun l => UL n0 hn l) (fun _ _ _ _ h => uniBool_ok h) (fun _ _ _ _ _ h => uniInt_ok h) (fun _ _ _ _ _ h => uniFlt_ok h) (fun _ _ _ _ h => uniStr_ok h) (fun _ _ _ _ h => uniPtr_ok h) (fun _ _ _ _ _ _ h => uniSlc_ok h)
    (fun _ _ _ _ h => uniMap_ok h) (fun _ _ _ ha hc => uv_fn ha hc) (fun _ _ _ h => uniNilF_ok h) (fun _ _ hx => uv_ifc hx) (fun _ _ _ h => uniNilI_ok h) (fun _ hl => uv_agg hl) (fun _ hl => uv_tup hl) (fun _ _ _ _ _ _ h => by cases h) (fun _ _ _ _ h => uniTstr_ok h) (fun _ _ _ _ _ h => by cases h) (fun _ _ _ _ h => by cases h)
    (fun _ _ _ _ _ h => by cases h)
    ul_nil (fun _ _ hx hl => ul_cons hx hl) v
theorem ul : ∀ (l : List AV), UL n0 hn l
  | [] => ul_nil
  | x :: l => ul_cons (uv x) (ul l)
theorem uni_ok {v u : AV} {r r' : Re} (h : uni n0 hn v u r = some r') : Fits n0 hn r r' (rel r'.at v = some u) := uv v u r r' h
theorem uniL_ok {v u : List AV} {r r' : Re} (h : uniL n0 hn v u r = some r') : Fits n0 hn r r' (relL r'.at v = some u) := ul v u r r' h
theorem uniP_ok : ∀ {v u : List (AV × AV)} {r r' : Re}, uniP n0 hn v u r = some r' → Fits n0 hn r r' (relP r'.at v = some u)
  | [], u, r, r', h => by
    unfold uniP at h
    split at h
    · simp only [Option.some.injEq] at h; subst h; exact .leaf rfl
    · cases h
  | (k, x) :: l, u, r, r', h => by
    unfold uniP at h
    split at h
    · split at h
      · rename_i r1 hr1
        split at h
        · rename_i r2 hr2
          exact ((uni_ok hr1).two (uni_ok hr2) (Z := rel r2.at k = _ ∧ rel r2.at x = _) fun hm e1 e2 => ⟨rel_mono hm e1, e2⟩).two (uniP_ok h) fun hm e1 e2 => by
            simp only [relP, rel_mono hm e1.1, rel_mono hm e1.2, e2, Option.bind_some, Option.map_some]
        · cases h
      · cases h
    · cases h
theorem uniC_ok {c d : Cl} {r r' : Re} (h : uniC n0 hn c d r = some r') : Fits n0 hn r r' (relC r'.at c = some d) := by
  unfold uniC at h
  split at h
  · split at h
    · exact (uniL_ok h).one fun e => by simp only [relC, e, Option.map_some]
    · cases h
  · split at h
    · rw [Bool.cond_eq_ite] at h
      split at h
      · rename_i hb
        simp only [Option.some.injEq] at h; subst h
        rw [BS.same_ok hb]; exact .leaf rfl
      · cases h
    · cases h
theorem uniO_ok {o u : AO} {r r' : Re} (h : uniO n0 hn o u r = some r') : Fits n0 hn r r' (relO r'.at o = some u) := by
  unfold uniO at h
  split at h
  · split at h
    · rw [Bool.cond_eq_ite] at h
      split at h
      · rename_i hb
        rw [Bool.and_eq_true] at hb
        obtain ⟨h1, h2⟩ := hb
        have h1 := Nat.eq_of_beq_eq_true h1
        have h2 := tlEq_ok h2
        subst h1; subst h2
        exact (uniC_ok h).one fun e => by simp only [relO, e, Option.map_some]
      · cases h
    · cases h
  · split at h
    · exact (uniP_ok h).one fun e => by simp only [relO, e, Option.map_some]
    · cases h
  · split at h
    · rw [Bool.cond_eq_ite] at h
      split at h
      · rename_i hb
        rw [Bool.and_eq_true] at hb
        obtain ⟨h1, h2⟩ := hb
        have h1 := sEq_ok h1
        have h2 := Nat.eq_of_beq_eq_true h2
        subst h1; subst h2
        simp only [Option.some.injEq] at h; subst h
        exact .leaf rfl
      · cases h
    · cases h
  · cases h
  · cases h
theorem uniH_ok {h : Hp} : ∀ {l : List (Nat × AO)} {r r' : Re}, uniH n0 hn h l r = some r' → Fits n0 hn r r' (∀ a o, (a, o) ∈ l → ∃ b u, r'.at a = some b ∧ relO r'.at o = some u ∧ h.get b = some u)
  | [], r, r', e => by
    unfold uniH at e
    simp only [Option.some.injEq] at e; subst e
    exact .leaf fun _ _ h => by cases h
  | (a, o) :: l, r, r', e => by
    unfold uniH at e
    split at e
    · rename_i b hb
      split at e
      · rename_i u hu
        split at e
        · rename_i r1 hr1
          intro hr
          obtain ⟨a1, a2, a3⟩ := uniO_ok hr1 hr
          obtain ⟨b1, b2, b3⟩ := uniH_ok e a1
          refine ⟨b1, fun x y h => b2 x y (a2 x y h), fun x ox hx => ?_⟩
          rcases List.mem_cons.1 hx with hx | hx
          · simp only [Prod.mk.injEq] at hx
            obtain ⟨rfl, rfl⟩ := hx
            exact ⟨b, u, b2 _ _ (a2 _ _ hb), relO_mono b2 a3, hu⟩
          · exact b3 x ox hx
        · cases e
      · cases e
    · cases e
end

/-! ## Heaps that are listed -/

noncomputable def mkH (l : List (Nat × AO)) : T AO := List.rec .nil (fun p _ t => t.put (some p.2) (Ps.key p.1)) l
noncomputable def hpOf (l : List (Nat × AO)) (n : Nat) : Hp := ⟨mkH l, n⟩
theorem mkH_mem : ∀ {l : List (Nat × AO)} {a : Nat} {o : AO}, (mkH l).get (Ps.key a) = some o → (a, o) ∈ l
  | [], a, o, h => by
    have : mkH [] = .nil := rfl
    rw [this, T.get_nil] at h; cases h
  | (b, u) :: l, a, o, h => by
    have e : mkH ((b, u) :: l) = (mkH l).put (some u) (Ps.key b) := rfl
    rw [e, T.get_put] at h
    simp only [Ps.key_eq] at h
    split at h
    · rename_i hab; simp only [Option.some.injEq] at h; subst hab; subst h; exact List.mem_cons_self ..
    · exact List.mem_cons_of_mem _ (mkH_mem h)
/-- What was turned, made, dropped. -/
noncomputable def mkC (l : List (Nat × Option AO)) (t : T AO) : T AO := List.rec t (fun p _ t => t.put p.2 (Ps.key p.1)) l
noncomputable def lookC : List (Nat × Option AO) → Nat → Option (Option AO)
  | [], _ => none
  | (b, x) :: l, a => bif Nat.beq b a then some x else lookC l a
theorem lookC_mem : ∀ {l : List (Nat × Option AO)} {a : Nat} {x : Option AO}, lookC l a = some x → (a, x) ∈ l
  | [], a, x, h => by cases h
  | (b, y) :: l, a, x, h => by
    simp only [lookC, Bool.cond_eq_ite] at h
    split at h
    · rename_i hb
      have hb := Nat.eq_of_beq_eq_true hb
      simp only [Option.some.injEq] at h; subst hb; subst h; exact List.mem_cons_self ..
    · exact List.mem_cons_of_mem _ (lookC_mem h)
theorem mkC_get (t : T AO) : ∀ (l : List (Nat × Option AO)) (a : Nat), (mkC l t).get (Ps.key a) = match lookC l a with | some x => x | none => t.get (Ps.key a)
  | [], a => rfl
  | (b, y) :: l, a => by
    have e : mkC ((b, y) :: l) t = (mkC l t).put y (Ps.key b) := rfl
    rw [e, T.get_put, mkC_get t l a]
    simp only [Ps.key_eq, lookC, Bool.cond_eq_ite]
    by_cases h : a = b
    · subst h; simp
    · have : ¬ (Nat.beq b a = true) := fun hb => h (Nat.eq_of_beq_eq_true hb).symm
      rw [if_neg h, if_neg this]

noncomputable def putC (σ : Nat → Option Nat) : List (Nat × Option AO) → Hp → Option Hp
  | [], h => some h
  | (a, x) :: l, h => match putC σ l h with
    | some h1 => (match σ a with
      | some b => (match x with
        | none => some (h1.del b)
        | some o => (match relO σ o with | some u => some (h1.set b u) | none => none))
      | none => none)
    | none => none
theorem putC_ok {σ : Nat → Option Nat} (inj : ∀ a a' b, σ a = some b → σ a' = some b → a = a') : ∀ {l : List (Nat × Option AO)} {h h1 : Hp}, putC σ l h = some h1 → ∀ b u, h1.get b = some u →
    (∃ a o, σ a = some b ∧ lookC l a = some (some o) ∧ relO σ o = some u) ∨ (h.get b = some u ∧ ∀ a, σ a = some b → lookC l a = none)
  | [], h, h1, e, b, u, hb => by
    simp only [putC, Option.some.injEq] at e; subst e
    exact .inr ⟨hb, fun _ _ => rfl⟩
  | (a, x) :: l, h, h1, e, b, u, hb => by
    unfold putC at e
    split at e
    · rename_i h2 hh2
      split at e
      · rename_i c hc
        have ih := putC_ok inj hh2 b u
        have skip : b ≠ c → ∀ a', σ a' = some b → lookC ((a, x) :: l) a' = lookC l a' := fun hne a' ha' => by
          simp only [lookC, Bool.cond_eq_ite]
          rw [if_neg]
          intro hb
          have := Nat.eq_of_beq_eq_true hb
          subst this
          rw [hc] at ha'; simp only [Option.some.injEq] at ha'; exact hne ha'.symm
        have other : b ≠ c → h2.get b = some u → (∃ a' o, σ a' = some b ∧ lookC ((a, x) :: l) a' = some (some o) ∧ relO σ o = some u) ∨ (h.get b = some u ∧ ∀ a', σ a' = some b → lookC ((a, x) :: l) a' = none) := fun hne hb2 => by
          rcases ih hb2 with ⟨a', o, k1, k2, k3⟩ | ⟨k1, k2⟩
          · exact .inl ⟨a', o, k1, by rw [skip hne a' k1]; exact k2, k3⟩
          · exact .inr ⟨k1, fun a' ha' => by rw [skip hne a' ha']; exact k2 a' ha'⟩
        split at e
        · simp only [Option.some.injEq] at e; subst e
          rw [Hp.get_del] at hb
          by_cases hbc : b = c
          · rw [if_pos hbc] at hb; cases hb
          · rw [if_neg hbc] at hb; exact other hbc hb
        · rename_i o
          split at e
          · rename_i u' hu'
            simp only [Option.some.injEq] at e; subst e
            rw [Hp.get_set] at hb
            by_cases hbc : b = c
            · rw [if_pos hbc] at hb
              simp only [Option.some.injEq] at hb; subst hb; subst hbc
              exact .inl ⟨a, o, hc, by simp [lookC], hu'⟩
            · rw [if_neg hbc] at hb; exact other hbc hb
          · cases e
      · cases e
    · cases e

/-! ## The oracle -/

/-- A call over some objects, and what it comes to: those that are turned, dropped, made. -/
structure Frag where
  as0 : List AV
  n0 : Nat
  H0 : List (Nat × AO)
  v0 : AV
  n1 : Nat
  chg : List (Nat × Option AO)

noncomputable def overK (r : Re) (n0 n : Nat) (a : Nat) : Option Nat := bif Nat.blt a n0 then r.to.get (Ps.key a) else some (n + (a - n0))
theorem overK_eq (r : Re) (n0 n : Nat) : overK r n0 n = over r.at n0 n := by
  funext a
  unfold overK over Re.at
  rw [Bool.cond_eq_ite]
  by_cases h : a < n0
  · rw [if_pos h, if_pos ((blt_iff _ _).2 h)]
  · rw [if_neg h, if_neg (fun hb => h ((blt_iff _ _).1 hb))]

noncomputable def oFrag (F : Frag) : Oc := fun as h =>
  match uniL F.n0 h.nxt F.as0 as Re.nil with
  | some r0 => (match uniH F.n0 h.nxt h F.H0 r0 with
    | some r => (match putC (overK r F.n0 h.nxt) F.chg h with
      | some h1 => (match rel (overK r F.n0 h.nxt) F.v0 with
        | some v => some (.ret v { tr := h1.tr, nxt := h.nxt + (F.n1 - F.n0) })
        | none => none)
      | none => none)
    | none => none)
  | none => none

mutual
/-- The same value: as `avEq`, with what is unknown too. -/
noncomputable def sameP : List (AV × AV) → List (AV × AV) → Bool
  | [], [] => true
  | (a, b) :: l, (c, d) :: m => avEq a c && (avEq b d && sameP l m)
  | _, _ => false
end
noncomputable def sameC : Cl → Cl → Bool
  | .gen l, .gen m => avEqL l m
  | .byt a, .byt b => a.same b
  | _, _ => false
theorem sameC_ok {c d : Cl} (h : sameC c d = true) : c = d := by
  unfold sameC at h
  split at h
  · rw [avEqL_ok _ _ h]
  · rw [BS.same_ok h]
  · cases h
noncomputable def sameO : AO → AO → Bool
  | .row el cs t, .row el' cs' t' => Nat.beq el el' && (tlEq t t' && sameC cs cs')
  | .mp es, .mp es' => sameP es es'
  | .sit s p, .sit s' p' => sEq s s' && Nat.beq p p'
  | _, _ => false
theorem sameP_ok : ∀ {a b : List (AV × AV)}, sameP a b = true → a = b
  | [], [], _ => rfl
  | (a, b) :: l, (c, d) :: m, h => by
    simp only [sameP, Bool.and_eq_true] at h
    rw [avEq_ok _ _ h.1, avEq_ok _ _ h.2.1, sameP_ok h.2.2]
  | [], _ :: _, h => by cases h
  | _ :: _, [], h => by cases h
theorem sameO_ok {o u : AO} (h : sameO o u = true) : o = u := by
  unfold sameO at h
  split at h
  · simp only [Bool.and_eq_true] at h
    rw [Nat.eq_of_beq_eq_true h.1, tlEq_ok h.2.1, sameC_ok h.2.2]
  · rw [sameP_ok h]
  · simp only [Bool.and_eq_true] at h
    rw [sEq_ok h.1, Nat.eq_of_beq_eq_true h.2]
  · cases h
noncomputable def hasO (h : Hp) (a : Nat) (o : AO) : Bool := match h.get a with
  | some u => sameO u o
  | none => false
theorem hasO_ok {h : Hp} {a : Nat} {o : AO} (e : hasO h a o = true) : h.get a = some o := by
  unfold hasO at e
  split at e
  · rename_i u hu; rw [hu, sameO_ok e]
  · cases e
noncomputable def allO (h : Hp) : List (Nat × Option AO) → Bool
  | [] => true
  | (_, none) :: l => allO h l
  | (a, some o) :: l => bif hasO h a o then allO h l else false
theorem allO_ok {h : Hp} : ∀ {l : List (Nat × Option AO)}, allO h l = true → ∀ a o, (a, some o) ∈ l → h.get a = some o
  | [], _, a, o, hm => by cases hm
  | (b, none) :: l, e, a, o, hm => by
    rcases List.mem_cons.1 hm with hm | hm
    · simp at hm
    · exact allO_ok (l := l) (by simpa [allO] using e) a o hm
  | (b, some u) :: l, e, a, o, hm => by
    simp only [allO, Bool.cond_eq_ite] at e
    split at e
    · rename_i hb
      rcases List.mem_cons.1 hm with hm | hm
      · simp only [Prod.mk.injEq, Option.some.injEq] at hm
        obtain ⟨rfl, rfl⟩ := hm
        exact hasO_ok hb
      · exact allO_ok e a o hm
    · cases e
noncomputable def restA (h : Hp) (c : List (Nat × Option AO)) (a : Nat) (o : AO) : Bool := match lookC c a with | some _ => true | none => hasO h a o
noncomputable def restO (h : Hp) (c : List (Nat × Option AO)) : List (Nat × AO) → Bool
  | [] => true
  | (a, o) :: l => bif restA h c a o then restO h c l else false
theorem restO_ok {h : Hp} {c : List (Nat × Option AO)} : ∀ {l : List (Nat × AO)}, restO h c l = true → ∀ a o, (a, o) ∈ l → lookC c a = none → h.get a = some o
  | [], _, a, o, hm => by cases hm
  | (b, u) :: l, e, a, o, hm => by
    intro hc
    simp only [restO, Bool.cond_eq_ite] at e
    split at e
    · rename_i hb
      rcases List.mem_cons.1 hm with hm | hm
      · simp only [Prod.mk.injEq] at hm
        obtain ⟨rfl, rfl⟩ := hm
        unfold restA at hb
        rw [hc] at hb
        exact hasO_ok hb
      · exact restO_ok e a o hm hc
    · cases e

/-- Does a run come to just this? -/
noncomputable def chkF (F : Frag) (r : CR) : Bool := match r with
  | .ret v h => avEq v F.v0 && (Nat.ble h.nxt F.n1 && (allO h F.chg && restO h F.chg F.H0))
  | _ => false

section
variable {P : Program} {ng : Nat} {gl : T (List AV)} {f : FuncId}
theorem oFrag_ok (hp : Plain gl) {cal : FuncId → List AV → Hp → CR} (hc : CalOk P ng gl cal) {F : Frag} (hrun : chkF F (cal f F.as0 (hpOf F.H0 F.n0)) = true) : OOk P ng gl f (oFrag F) := by
  intro as h r hr _ φ w A hA hR
  unfold chkF at hrun
  split at hrun
  case h_2 => cases hrun
  rename_i v2 H2 hcal
  simp only [Bool.and_eq_true, Nat.ble_eq] at hrun
  obtain ⟨hv2, hnx, hall, hrest⟩ := hrun
  have hv2 := avEq_ok _ _ hv2
  subst hv2
  unfold oFrag at hr
  split at hr
  case h_2 => cases hr
  rename_i r0 hr0
  split at hr
  case h_2 => cases hr
  rename_i re hre
  split at hr
  case h_2 => cases hr
  rename_i h1 hh1
  split at hr
  case h_2 => cases hr
  rename_i v hv
  simp only [Option.some.injEq] at hr; subst hr
  obtain ⟨k1, k2, k3⟩ := uniL_ok hr0 reOk_nil
  obtain ⟨m1, m2, m3⟩ := uniH_ok hre k1
  rw [overK_eq] at hh1 hv
  have hinj : ∀ a a' b, over re.at F.n0 h.nxt a = some b → over re.at F.n0 h.nxt a' = some b → a = a' := fun a a' b h1 h2 => by
    unfold over at h1 h2
    split at h1 <;> split at h2
    · exact m1.inj _ _ _ h1 h2
    · have := m1.high _ _ h1; simp only [Option.some.injEq] at h2; omega
    · have := m1.high _ _ h2; simp only [Option.some.injEq] at h1; omega
    · simp only [Option.some.injEq] at h1 h2; omega
  have hmono : ∀ a b, re.at a = some b → over re.at F.n0 h.nxt a = some b := fun a b hab => by
    unfold over; rw [if_pos (m1.low _ _ hab)]; exact hab
  refine frag_ok hp hc hR (ρ := re.at) (H0 := hpOf F.H0 F.n0) (H1 := ⟨mkC F.chg (mkH F.H0), F.n1⟩) (H2 := H2) m1.inj m1.low m1.high (fun a o ho => m3 a o (mkH_mem ho)) (relL_mono m2 k3) hcal ?_ hnx hv rfl ?_ hA
  · intro a o ho
    have e : (mkC F.chg (mkH F.H0)).get (Ps.key a) = some o := ho
    rw [mkC_get] at e
    split at e
    · rename_i x hx
      subst e
      exact allO_ok hall a o (lookC_mem hx)
    · rename_i hx
      exact restO_ok hrest a o (mkH_mem e) hx
  · intro b u hb
    have hb' : h1.get b = some u := hb
    have geq : ∀ a, (⟨mkC F.chg (mkH F.H0), F.n1⟩ : Hp).get a = match lookC F.chg a with | some x => x | none => (mkH F.H0).get (Ps.key a) := fun a => mkC_get _ _ _
    rcases putC_ok hinj hh1 b u hb' with ⟨a, o, e1, e2, e3⟩ | ⟨e1, e2⟩
    · exact .inl ⟨a, o, e1, by rw [geq, e2], e3⟩
    · by_cases hex : ∃ a o, re.at a = some b ∧ (mkH F.H0).get (Ps.key a) = some o
      · obtain ⟨a, o, ha, ho⟩ := hex
        obtain ⟨b', u', hb2, hu, hg⟩ := m3 a o (mkH_mem ho)
        rw [ha] at hb2; simp only [Option.some.injEq] at hb2; subst hb2
        rw [e1] at hg; simp only [Option.some.injEq] at hg; subst hg
        exact .inl ⟨a, o, hmono a b ha, by rw [geq, e2 a (hmono a b ha)]; exact ho, relO_mono hmono hu⟩
      · refine .inr ⟨e1, fun a ha => ?_⟩
        cases hg : (hpOf F.H0 F.n0).get a with
        | none => rfl
        | some o => exact (hex ⟨a, o, ha, hg⟩).elim

/-- One oracle, or else another. -/
noncomputable def oElse (o1 o2 : Oc) : Oc := fun as h => match o1 as h with
  | some r => some r
  | none => o2 as h
theorem oElse_ok {o1 o2 : Oc} (h1 : OOk P ng gl f o1) (h2 : OOk P ng gl f o2) : OOk P ng gl f (oElse o1 o2) := by
  intro as h r hr
  unfold oElse at hr
  split at hr
  · rename_i r' hr'
    simp only [Option.some.injEq] at hr; subst hr
    exact h1 as h r' hr'
  · exact h2 as h r hr
end
end Ax
