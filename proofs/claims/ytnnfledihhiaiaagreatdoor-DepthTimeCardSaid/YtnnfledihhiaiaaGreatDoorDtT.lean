/- The times that are asked for; what Norm and Abs give, as oracles; on no condition. -/
import Derived.Test.YtnnfledihhiaiaaGreatDoorZChn
import Derived.Test.YtnnfledihhiaiaaGreatDoorNrm
import Derived.Test.YtnnfledihhiaiaaGreatDoorFlt
set_option linter.unusedVariables false
set_option linter.unusedSimpArgs false
set_option linter.unusedSectionVars false
namespace Tz
open Go Ax
variable [Ax.Sy]
noncomputable section
def oNorm : Oc := fun vs h => match vs with
  | [.sflt _ hs] => (match fHintOf 2 0 .neq hs with
    | some (_, true) => some (.ret (.tup [.flt .f64 0, .bool false]) h)
    | _ => none)
  | [.flt .f64 b] => (match FloatKind.f64.format.sub b b with
    | none => some (.ret (.tup [.flt .f64 0, .bool false]) h)
    | some _ => none)
  | _ => none
theorem norm_ok (m : Int) (ng : Nat) : OOk Go.Proofs.Tryz.prog ng (gls m) 32 oNorm := by
  intro vs h r hr _ φ w A hA hR
  unfold oNorm at hr
  split at hr
  · rename_i i hs
    split at hr
    · rename_i c hq
      simp only [Option.some.injEq] at hr; subst hr
      simp only [gL, Option.bind_eq_some_iff, Option.map_some, Option.some.injEq] at hA
      obtain ⟨X, hX, rfl⟩ := hA
      obtain ⟨rfl, hok⟩ := g_sflt hX
      obtain ⟨o, h1, _, h3⟩ := fHintOf_ok hq hok
      rw [h3 (by decide)] at h1
      exact (norm_nan _ (nan_sub h1) w).mono fun e w' he => post_below hR he.1 he.2 rfl
    · cases hr
  · rename_i b
    split at hr
    · rename_i hb
      simp only [Option.some.injEq] at hr; subst hr
      simp only [gL, g, Option.bind_some, Option.map_some, Option.some.injEq] at hA
      subst hA
      exact (norm_nan _ hb w).mono fun e w' he => post_below hR he.1 he.2 rfl
    · cases hr
  · cases hr
theorem abs_max {r : Nat} (h1 : r < 9223372036854775808) (h2 : r ≠ 9218868437227405312) : ordB .gtr (FloatKind.f64.format.order r 9218868437227405311) = some false := by
  rcases word_cases r (by omega) with ⟨s, q, hr⟩ | rfl | rfl | rfl | rfl | ⟨s, m, p, hr, hp, h0, h3, h4⟩
  · have : FloatKind.f64.format.order r 9218868437227405311 = none := by unfold Ieee.Format.order; rw [hr]; rfl
    rw [this]; rfl
  · exact (h2 rfl).elim
  · omega
  · decide +kernel
  · omega
  · have := order_num hr rdM hp (by decide)
    rw [this, fvM, ordB_gtr]
    simp only [Option.some.injEq, decide_eq_false_iff_not]; omega
def oAbs : Oc := fun vs h => match vs with
  | [.sflt 0 hs] => (match fHintOf 0 9218868437227405311 .gtr hs, fHintOf 0 18442240474082181119 .lss hs with
    | some (_, false), some (_, false) => some (.ret (.sflt 1 [(0, 9218868437227405311, .gtr, false)]) h)
    | _, _ => none)
  | _ => none
theorem abs_ok (m : Int) (ng : Nat) (h1 : Sy.flt 1 = Sy.flt 0 % 9223372036854775808) (hb : Sy.flt 0 < 18446744073709551616) : OOk Go.Proofs.Tryz.prog ng (gls m) 156 oAbs := by
  intro vs h r hr _ φ w A hA hR
  unfold oAbs at hr
  split at hr
  · rename_i hs
    split at hr
    · rename_i c d hq1 hq2
      simp only [Option.some.injEq] at hr; subst hr
      simp only [gL, Option.bind_eq_some_iff, Option.map_some, Option.some.injEq] at hA
      obtain ⟨X, hX, rfl⟩ := hA
      obtain ⟨rfl, hok⟩ := g_sflt hX
      obtain ⟨o1, k1, k2, k3⟩ := fHintOf_ok hq1 hok
      obtain ⟨o2, l1, l2, l3⟩ := fHintOf_ok hq2 hok
      rw [k3 (by decide), k2 (by decide)] at k1
      rw [l3 (by decide), l2 (by decide)] at l1
      simp only [fHint1, decide_eq_true_eq] at k1 l1
      have hne : Sy.flt 0 % 9223372036854775808 ≠ 9218868437227405312 := by
        intro he
        rcases (by omega : Sy.flt 0 = 9218868437227405312 ∨ Sy.flt 0 = 18442240474082181120) with e | e
        · rw [e] at k1
          exact absurd k1 (by decide +kernel)
        · rw [e] at l1
          exact absurd l1 (by decide +kernel)
      have hm := abs_max (Nat.mod_lt _ (by decide)) hne
      refine (abs_law _ w).mono fun e w' he => post_below hR he.1 he.2 ?_
      have : fHintOk (Sy.flt 1) [(0, 9218868437227405311, .gtr, false)] = true := by
        simp only [fHintOk, fHint1, Bool.and_true, decide_eq_true_eq]
        rw [h1]; exact hm
      rw [h1] at this
      simp only [g, h1, this, if_true]
    · cases hr
  · cases hr
def orcTime (m : Int) : T Oc := ((orcChain m).put (some oNorm) (Ps.key 32)).put (some oAbs) (Ps.key 156)
theorem orcTime_ok (m : Int) (ng : Nat) (h1 : Sy.flt 1 = Sy.flt 0 % 9223372036854775808) (hb : Sy.flt 0 < 18446744073709551616) : OrcsOk Go.Proofs.Tryz.prog ng (gls m) (orcTime m) := orcs_put (orcs_put (orcChain_ok m ng) (norm_ok m ng)) (abs_ok m ng h1 hb)

def allV (l : List AV) (p : AV → Bool) : Bool := List.rec true (fun x _ ih => bif p x then ih else false) l
theorem allV_ok {p : AV → Bool} : ∀ {l : List AV}, allV l p = true → ∀ x ∈ l, p x = true
  | [], _, x, hx => by cases hx
  | y :: l, h, x, hx => by
    have e : allV (y :: l) p = bif p y then allV l p else false := rfl
    rw [e, Bool.cond_eq_ite] at h
    split at h
    · rename_i hp
      rcases List.mem_cons.1 hx with rfl | hx
      · exact hp
      · exact allV_ok h x hx
    · cases h
def ts0 : List AV := [.sflt 0 (fClass 0), .sflt 0 (fClass 1), .sflt 0 (fClass 2)]
def ts1 : List AV := [.sflt 0 (fClass 3), .sflt 0 (fClass 4), .sflt 0 (fClass 5)]
def ts2 : List AV := [.sflt 0 (fClass 6), .sflt 0 (fClass 7), .sflt 0 (fClass 8)]
def ts3 : List AV := [.sflt 0 (fClass 9), .sflt 0 fNan, .flt .f64 0]
def ts4 : List AV := [.flt .f64 9223372036854775808, .flt .f64 9218868437227405312, .flt .f64 18442240474082181120]
/-- Any time is one of these. -/
theorem time_av (b : Nat) (hb : b < 18446744073709551616) (hf : Sy.flt 0 = b) : ∃ a, (a ∈ ts0 ∨ a ∈ ts1 ∨ a ∈ ts2 ∨ a ∈ ts3 ∨ a ∈ ts4) ∧ g (fun _ => none) a = some (.float .f64 b) := by
  have sf : ∀ hs, fHintOk b hs = true → g (fun _ => none) (.sflt 0 hs) = some (.float .f64 b) := fun hs h => by simp only [g, hf, h, if_true]
  rcases word_cases b hb with ⟨s, r, hr⟩ | rfl | rfl | rfl | rfl | ⟨s, m, p, hr, hp, h0, h1, h2⟩
  · exact ⟨.sflt 0 fNan, by simp [ts3], sf _ (nan_class hr)⟩
  · exact ⟨.flt .f64 9218868437227405312, by simp [ts4], rfl⟩
  · exact ⟨.flt .f64 18442240474082181120, by simp [ts4], rfl⟩
  · exact ⟨.flt .f64 0, by simp [ts3], rfl⟩
  · exact ⟨.flt .f64 9223372036854775808, by simp [ts4], rfl⟩
  · obtain ⟨j, hj, hc⟩ := fin_class hr hp h0 h1 h2
    refine ⟨.sflt 0 (fClass j), ?_, sf _ hc⟩
    rcases (by omega : j = 0 ∨ j = 1 ∨ j = 2 ∨ j = 3 ∨ j = 4 ∨ j = 5 ∨ j = 6 ∨ j = 7 ∨ j = 8 ∨ j = 9) with rfl | rfl | rfl | rfl | rfl | rfl | rfl | rfl | rfl | rfl
    · exact .inl (by simp [ts0])
    · exact .inl (by simp [ts0])
    · exact .inl (by simp [ts0])
    · exact .inr (.inl (by simp [ts1]))
    · exact .inr (.inl (by simp [ts1]))
    · exact .inr (.inl (by simp [ts1]))
    · exact .inr (.inr (.inl (by simp [ts2])))
    · exact .inr (.inr (.inl (by simp [ts2])))
    · exact .inr (.inr (.inl (by simp [ts2])))
    · exact .inr (.inr (.inr (.inl (by simp [ts3]))))
end
end Tz
