/- Oracles for a builder of texts and for tables of calls that give several values; the conditions stand in each statement. -/
import Derived.Test.YtdimdhloklnkmaaGreatDoorAxF
set_option linter.unusedVariables false
set_option linter.unusedSimpArgs false
set_option linter.unusedSectionVars false
namespace Ax
open Go
variable [Sy]
section
variable {P : Program} {ng : Nat} {gl : T (List AV)} {φ : Mp} {h : Hp} {w w' : World} {f : FuncId}

/-- An object that is forgotten, whatever became of its block. -/
theorem del_step {id : Nat} {o0 : AO} {L : Lc} (hR : Rel ng (glF gl) φ h w) (hid : h.get id = some o0) (hL : φ id = some L)
    (os : w'.os = w.os) (tape : w'.tape = w.tape) (output : w'.output = w.output) (hsz : w'.heap.size = w.heap.size) (hold : ∀ b, b ≠ L.blk → w'.heap[b]? = w.heap[b]?)
    (hcells : ∀ c el fz, w.heap[L.blk]? = some (.cells c el fz) → ∃ c' fz', w'.heap[L.blk]? = some (.cells c' el fz') ∧ c'.size = c.size ∧ ∀ o, ¬ (L.base ≤ o ∧ o < L.base + L.tot) → c'[o]? = c[o]?) :
    Rel ng (glF gl) φ (h.del id) w' ∧ Stp φ h w φ (h.del id) w' := by
  obtain ⟨L', hL', hng, hat0⟩ := hR.at_ id o0 hid
  rw [hL] at hL'; simp only [Option.some.injEq] at hL'; subst hL'
  have other : ∀ j o M, h.get j = some o → φ j = some M → j ≠ id → M.blk ≠ L.blk := by
    intro j o M hj hM hne hb
    exact hne (hR.inj j id o o0 M L hj hid hM hL hb)
  have hget : ∀ j o, (h.del id).get j = some o → j ≠ id ∧ h.get j = some o := by
    intro j o hj
    rw [Hp.get_del] at hj
    by_cases hji : j = id
    · rw [if_pos hji] at hj; cases hj
    · rw [if_neg hji] at hj; exact ⟨hji, hj⟩
  refine ⟨⟨?_, ?_, ?_, by rw [hsz]; exact hR.ngle, ?_⟩, ⟨⟨Sub.refl _, os, tape, output, by omega, fun b _ hd => ?_, ?_, fun b c el fz _ hc => ?_, ?_⟩, fun _ _ => rfl, Nat.le_refl _⟩⟩
  · intro j o hj
    obtain ⟨hji, hj⟩ := hget j o hj
    obtain ⟨M, hM, hng', hAt⟩ := hR.at_ j o hj
    exact ⟨M, hM, hng', hAt.frame (hold _ (other j o M hj hM hji))⟩
  · intro i j o u M N hi hj hM hN hb
    exact hR.inj i j o u M N (hget i o hi).2 (hget j u hj).2 hM hN hb
  · intro j hj; exact hR.fresh j hj
  · intro n cs hg
    obtain ⟨hlt, c, el, fz, xs, h1, h2, h3⟩ := hR.gl_ n cs hg
    exact ⟨hlt, c, el, fz, xs, by rw [hold n (by omega), h1], h2, h3⟩
  · refine hold b (fun hbe => hd ⟨id, o0, L, hid, hL, hbe.symm⟩)
  · rintro b ⟨j, o, M, hj, hM, rfl⟩
    exact .inl ⟨j, o, M, (hget j o hj).2, hM, rfl⟩
  · by_cases hb : b = L.blk
    · subst hb
      obtain ⟨c', fz', h1, h2, h3⟩ := hcells c el fz hc
      exact ⟨c', fz', h1, h2, fun o ho => h3 o fun ⟨g1, g2⟩ => ho ⟨id, o0, L, hid, hL, rfl, g1, g2⟩⟩
    · exact ⟨c, fz, by rw [hold b hb]; exact hc, rfl, fun _ _ => rfl⟩
  · intro j o M hj hM _
    exact ⟨j, o, M, (hget j o hj).2, hM, rfl, Nat.le_refl _, Nat.le_refl _⟩

/-! ## copyCheck -/

noncomputable def oChk (T : Nat) : Oc
  | [.ptr (some (.own id, 0))], h => (match h.get id with
    | some (.row el cs (some 0)) => bif Nat.beq el T then (match cs.list with
      | [.ptr none, b] => some (.ret (.tup []) (h.set id (.row el (.gen [.ptr (some (.own id, 0)), b]) (some 0))))
      | [.ptr (some (.own j, 0)), _] => bif Nat.beq j id then some (.ret (.tup []) h) else none
      | _ => none) else none
    | _ => none)
  | _, _ => none

/-- What copyCheck does. -/
structure ChkLaw (P : Program) (f : FuncId) (T : Nat) : Prop where
  fresh : ∀ (b : Nat) (w : World), w.cell? ⟨b, 0, none⟩ = some (.pointer none) → w.shape? b = some (T, 2) → w.frozen? ⟨b, 0, none⟩ = false →
    Calls P f #[.pointer (some ⟨b, 0, none⟩)] w fun e w' => e = .returned (.tuple #[]) ∧ w' = w.setCell ⟨b, 0, none⟩ (.pointer (some ⟨b, 0, none⟩))
  used : ∀ (b : Nat) (w : World), w.cell? ⟨b, 0, none⟩ = some (.pointer (some ⟨b, 0, none⟩)) → Calls P f #[.pointer (some ⟨b, 0, none⟩)] w fun e w' => e = .returned (.tuple #[]) ∧ w' = w

theorem oChk_ok {T : Nat} (law : ChkLaw P f T) : OOk P ng gl f (oChk T) := by
  intro as h r hr _ φ w A hA hR
  unfold oChk at hr
  split at hr
  · rename_i id
    split at hr
    · rename_i el cs hg
      rw [Bool.cond_eq_ite] at hr
      split at hr
      · rename_i hel
        rw [Nat.beq_eq] at hel; subst hel
        obtain ⟨X, rfl, hX⟩ := gL1 hA
        obtain ⟨L, hL, hng, c, lo, hi, xs, hh, hxs, hbt, hxl, htail, hesz, hget, hfz⟩ := hR.at_ id _ hg
        obtain ⟨_, hb0, hct, hxt⟩ := (hesz 0 rfl).resolve_left (fun h => by omega)
        obtain ⟨blk, base, tot, esz, val⟩ := L
        simp only at hng hh hbt hxl hget hb0 hct hxt
        subst hb0
        simp only [g, gA, hL, Option.map_some, Nat.zero_add, Option.some.injEq] at hX
        subst hX
        simp only [Nat.zero_add] at hget
        split at hr
        · rename_i b hcs
          simp only [Option.some.injEq] at hr; subst hr
          rw [hcs] at hxs
          obtain ⟨X, Y, rfl, hX, hY⟩ := gL2 hxs
          simp only [g, Option.some.injEq] at hX; subst hX
          have h0 : c[0]? = some (.pointer none) := hget 0 (by simp)
          have h1 : c[1]? = some Y := hget 1 (by simp)
          simp only [List.length_cons, List.length_nil] at hxt
          have hsz : c.size = 2 := by omega
          have hlt : ¬ (lo ≤ 0 ∧ 0 < hi) := by omega
          have hfr : w.frozen? ⟨blk, 0, none⟩ = false := by
            simp only [World.frozen?, hh]
            cases hd : (decide (lo ≤ 0) && decide (0 < hi)) with
            | false => rfl
            | true => simp only [Bool.and_eq_true, decide_eq_true_eq] at hd; exact (hlt hd).elim
          refine (law.fresh blk w (by rw [cell_row hh]; exact h0) (by simp [World.shape?, hh, hsz]) hfr).mono ?_
          rintro e w' ⟨rfl, rfl⟩
          have hh' : (w.setCell ⟨blk, 0, none⟩ (.pointer (some ⟨blk, 0, none⟩))).heap[blk]? = some (.cells (c.setIfInBounds 0 (.pointer (some ⟨blk, 0, none⟩))) el (lo, hi)) := by
            simp only [World.setCell, Array.getElem?_modify, if_true, hh, Option.map_some, Option.isSome_none, Bool.false_eq_true, if_false]
          have hat2 : At φ ⟨blk, 0, tot, esz, val⟩ (.row el (.gen [.ptr (some (.own id, 0)), b]) (some 0)) (w.setCell ⟨blk, 0, none⟩ (.pointer (some ⟨blk, 0, none⟩))) := by
            refine ⟨_, lo, hi, [.pointer (some ⟨blk, 0, none⟩), Y], hh', ?_, ?_, ?_, (fun h => by cases h), ?_, fun i hi' => ?_, ?_⟩
            · simp [Cl.list, gL, g, gA, hL, hY]
            · simp only [Array.size_setIfInBounds]; omega
            · simp only [List.length_cons, List.length_nil]; omega
            · exact fun n hn => .inr ⟨by simpa using hn.symm, rfl, by simp only [Array.size_setIfInBounds]; omega, by simp only [List.length_cons, List.length_nil]; omega⟩
            · simp only [List.length_cons, List.length_nil] at hi'
              simp only [Nat.zero_add]
              match i, hi' with
              | 0, _ => rw [Array.getElem?_setIfInBounds, if_pos rfl, if_pos (by omega)]; rfl
              | 1, _ => rw [Array.getElem?_setIfInBounds, if_neg (by omega), h1]; rfl
            · simp only [Array.size_setIfInBounds]; exact hfz
          obtain ⟨hR', hS'⟩ := set_step (ob := .row el (.gen [.ptr (some (.own id, 0)), b]) (some 0)) (w' := w.setCell ⟨blk, 0, none⟩ (.pointer (some ⟨blk, 0, none⟩))) hR hg hL hat2 rfl rfl rfl (by simp [World.setCell])
            (fun b hb => by
              simp only [World.setCell, Array.getElem?_modify]
              rw [if_neg (Ne.symm hb)])
            (fun c0 e0 f0 hc0 => by
              rw [hh] at hc0
              simp only [Option.some.injEq, Obj.cells.injEq] at hc0
              obtain ⟨rfl, rfl, _⟩ := hc0
              refine ⟨_, _, hh', by simp, fun o ho => ?_⟩
              simp only at ho
              rw [Array.getElem?_setIfInBounds, if_neg (by omega)])
          exact ⟨φ, rfl, hR', hS'⟩
        · rename_i j b hcs
          rw [Bool.cond_eq_ite] at hr
          split at hr
          · rename_i hj
            rw [Nat.beq_eq] at hj; subst hj
            simp only [Option.some.injEq] at hr; subst hr
            rw [hcs] at hxs
            obtain ⟨X, Y, rfl, hX, hY⟩ := gL2 hxs
            simp only [g, gA, hL, Option.map_some, Nat.zero_add, Option.some.injEq] at hX; subst hX
            have h0 : c[0]? = some (.pointer (some ⟨blk, 0, none⟩)) := hget 0 (by simp)
            refine (law.used blk w (by rw [cell_row hh]; exact h0)).mono ?_
            rintro e w' ⟨rfl, rfl⟩
            exact ⟨φ, rfl, hR, Stp.less fun _ _ h => h⟩
          · cases hr
        · cases hr
      · cases hr
    · cases hr
  · cases hr

/-! ## String -/

noncomputable def oStr (T U : Nat) : Oc
  | [.ptr (some (.own id, 0))], h => (match h.get id with
    | some (.row el cs (some 0)) => bif Nat.beq el T then (match cs.list with
      | [_, .slc (some (.own r, off)) n cp] => (match h.get r with
        | some (.row el2 bs _) => bif Nat.beq el2 U && Nat.ble 1 n && Nat.ble (off + n) bs.len && Nat.ble n 4294967296 && capOk n cp then
            (match ((bs.drop off).take n).pack with
              | some b => some (.ret (.str b) (h.del r))
              | none => none) else none
        | _ => none)
      | _ => none) else none
    | _ => none)
  | _, _ => none

/-- What String does. -/
def StrLaw (P : Program) (f : FuncId) (T U : Nat) : Prop := ∀ (b g o cap : Nat) (l : List UInt8) (w : World) (cg : Array Value) (fg : Nat × Nat),
  w.cell? ⟨b, 1, none⟩ = some (.slice (some ⟨g, o, none⟩) l.length cap) → w.shape? b = some (T, 2) → w.heap[g]? = some (.cells cg U fg) → l ≠ [] → l.length ≤ cap → o + l.length ≤ cg.size → l.length ≤ 4294967296 →
  (∀ j x, l[j]? = some x → w.cell? ((⟨g, o, none⟩ : Addr).add j) = some (.int .u8 x.toNat)) →
  Calls P f #[.pointer (some ⟨b, 0, none⟩)] w fun e w' => e = .returned (.string ⟨l.toArray⟩) ∧ w' = w.drew.freeze ⟨g, o, none⟩ l.length

theorem oStr_ok {T U : Nat} (law : StrLaw P f T U) : OOk P ng gl f (oStr T U) := by
  intro as h r hr _ φ w A hA hR
  unfold oStr at hr
  split at hr
  · rename_i id
    split at hr
    · rename_i el cs hg
      rw [Bool.cond_eq_ite] at hr
      split at hr
      · rename_i hel
        rw [Nat.beq_eq] at hel; subst hel
        obtain ⟨X, rfl, hX⟩ := gL1 hA
        obtain ⟨L, hL, hng, c, lo, hi, xs, hh, hxs, hbt, hxl, htail, hesz, hget, hfz⟩ := hR.at_ id _ hg
        obtain ⟨_, hb0, hct, hxt⟩ := (hesz 0 rfl).resolve_left (fun h => by omega)
        obtain ⟨blk, base, tot, esz, val⟩ := L
        simp only at hng hh hbt hxl hget hb0 hct hxt
        subst hb0
        simp only [g, gA, hL, Option.map_some, Nat.zero_add, Option.some.injEq] at hX
        subst hX
        simp only [Nat.zero_add] at hget
        split at hr
        · rename_i v0 r off n cp hcs
          split at hr
          · rename_i el2 bs tail2 hg2
            rw [Bool.cond_eq_ite] at hr
            split at hr
            · rename_i hb
              simp only [Bool.and_eq_true, Nat.beq_eq, Nat.ble_eq, Cl.len_eq] at hb
              obtain ⟨⟨⟨⟨rfl, hn1⟩, hle⟩, hn2⟩, hcapO⟩ := hb
              split at hr
              · rename_i b hpk
                simp only [Option.some.injEq] at hr; subst hr
                rw [hcs] at hxs
                obtain ⟨X, Y, rfl, hX, hY⟩ := gL2 hxs
                have h1 : c[1]? = some Y := hget 1 (by simp)
                simp only [List.length_cons, List.length_nil] at hxt
                have hsz : c.size = 2 := by omega
                obtain ⟨A, cc, hA', rfl, hcap⟩ := g_slc hY
                obtain ⟨M, hM, hng2, c2, lo2, hi2, xs2, hh2, hxs2, hbt2, hxl2, _, _, hget2, hfz2⟩ := hR.at_ r _ hg2
                have hAe : A = ⟨M.blk, M.base + off, none⟩ := by simpa [gA, hM] using hA'.symm
                subst hAe
                have hcap' : n ≤ cc := by
                  cases cp with
                  | k d => simp only at hcap; subst hcap; simpa [capOk] using hcapO
                  | u e =>
                    simp only [gCap, hM, Option.bind_some] at hcap
                    split at hcap
                    · rename_i h3; simp only [Option.some.injEq] at hcap; omega
                    · cases hcap
                have hxl2' := gL_length hxs2
                have hCS : gL φ ((bs.drop off).take n).list = some ((xs2.drop off).take n) := by rw [Cl.take_eq, Cl.drop_eq]; exact gL_take _ (gL_drop _ hxs2)
                have hpb := pack_bytes hpk hCS
                have hln : b.list.length = n := by
                  have := congrArg List.length hpb
                  rw [List.length_take, List.length_drop] at this
                  simp only [List.length_map] at this
                  omega
                have hcell : ∀ j x, b.list[j]? = some x → w.cell? ((⟨M.blk, M.base + off, none⟩ : Addr).add j) = some (.int .u8 x.toNat) := by
                  intro j x hj
                  have hjn : j < n := by rw [← hln]; exact (List.getElem?_eq_some_iff.1 hj).1
                  have e1 : ((xs2.drop off).take n)[j]? = some (.int .u8 x.toNat) := by rw [hpb]; simp [hj]
                  rw [List.getElem?_take_of_lt hjn, List.getElem?_drop] at e1
                  rw [add_eq, cell_row hh2, show M.base + off + j = M.base + (off + j) by omega, hget2 _ (by omega), e1]
                have hne : b.list ≠ [] := by intro e; rw [e] at hln; simp at hln; omega
                have hlaw := law blk M.blk (M.base + off) cc b.list w c2 (lo2, hi2) (by rw [cell_row hh, h1, hln]) (by simp [World.shape?, hh, hsz]) hh2 hne (by omega) (by omega) (by omega) hcell
                refine hlaw.mono ?_
                rintro e w' ⟨rfl, rfl⟩
                have hheap : ∀ k, (w.drew.freeze ⟨M.blk, M.base + off, none⟩ b.list.length).heap[k]? = if k = M.blk then some (.cells c2 el2 (if lo2 == hi2 then (M.base + off, M.base + off + b.list.length) else (min lo2 (M.base + off), max hi2 (M.base + off + b.list.length)))) else w.heap[k]? := by
                  intro k
                  have hnz : ¬ b.list.length = 0 := by omega
                  simp only [World.freeze, if_neg hnz, Array.getElem?_modify]
                  have hd : w.drew.heap = w.heap := rfl
                  rw [hd]
                  by_cases hk : k = M.blk
                  · subst hk; simp [hh2]
                  · rw [if_neg (Ne.symm hk), if_neg hk]
                have hnz : ¬ b.list.length = 0 := by omega
                obtain ⟨hR', hS'⟩ := del_step (w' := w.drew.freeze ⟨M.blk, M.base + off, none⟩ b.list.length) hR hg2 hM (by simp only [World.freeze, if_neg hnz]; rfl) (by simp only [World.freeze, if_neg hnz]; rfl) (by simp only [World.freeze, if_neg hnz]; rfl)
                  (by simp only [World.freeze, if_neg hnz, Array.size_modify]; rfl) (fun k hk => by rw [hheap, if_neg hk])
                  (fun c0 e0 f0 hc0 => by
                    rw [hh2] at hc0
                    simp only [Option.some.injEq, Obj.cells.injEq] at hc0
                    obtain ⟨rfl, rfl, _⟩ := hc0
                    exact ⟨c2, _, by rw [hheap, if_pos rfl], rfl, fun _ _ => rfl⟩)
                exact ⟨φ, by simp [g], hR', hS'⟩
              · cases hr
            · cases hr
          · cases hr
        · cases hr
      · cases hr
    · cases hr
  · cases hr
end
end Ax
namespace Ax
open Go
variable [Sy]
/-- What a table tells. -/
noncomputable def memoFT (l : List (List AV × List AV)) (as : List AV) : Option AV := List.rec none (fun p _ ih => bif avEqL p.1 as then some (.tup p.2) else ih) l
theorem memoFT_mem : ∀ {l : List (List AV × List AV)} {as : List AV} {v : AV}, memoFT l as = some v → ∃ u, v = .tup u ∧ (as, u) ∈ l
  | [], _, _, h => by cases h
  | (k, u) :: l, as, v, h => by
    have e : memoFT ((k, u) :: l) as = bif avEqL k as then some (.tup u) else memoFT l as := rfl
    rw [e, Bool.cond_eq_ite] at h
    split at h
    · rename_i hk
      simp only [Option.some.injEq] at h
      exact ⟨u, h.symm, by rw [avEqL_ok _ _ hk]; exact List.mem_cons_self ..⟩
    · obtain ⟨u, h1, h2⟩ := memoFT_mem h
      exact ⟨u, h1, List.mem_cons_of_mem _ h2⟩
/-- Does an entry say what the run comes to? -/
noncomputable def memoBT (cal : List AV → Hp → CR) (p : List AV × List AV) : Bool := pureL p.1 && (pureL p.2 && (match cal p.1 Hp.empty with | .ret (.tup l) _ => avEqL l p.2 | _ => false))
noncomputable def memoAT (cal : List AV → Hp → CR) (l : List (List AV × List AV)) : Bool := List.rec true (fun p _ ih => bif memoBT cal p then ih else false) l
theorem memoAT_ok {cal : List AV → Hp → CR} : ∀ {l : List (List AV × List AV)}, memoAT cal l = true → ∀ p ∈ l, memoBT cal p = true
  | [], _, p, hp => by cases hp
  | q :: l, h, p, hp => by
    have e : memoAT cal (q :: l) = bif memoBT cal q then memoAT cal l else false := rfl
    rw [e, Bool.cond_eq_ite] at h
    split at h
    · rename_i hq
      rcases List.mem_cons.1 hp with rfl | hp
      · exact hq
      · exact memoAT_ok h p hp
    · cases h
section
variable {ng : Nat}
theorem memoT_ok {E : Env} (hp : Plain E.gl) {cal : FuncId → List AV → Hp → CR} (hc : CalOk E.P ng E.gl cal) {f : FuncId} {l : List (List AV × List AV)} (h : memoAT (cal f) l = true) : OOk E.P ng E.gl f (oClo (memoFT l)) := by
  refine oClo_ok hp hc fun as v hv => ?_
  obtain ⟨u, rfl, hu⟩ := memoFT_mem hv
  have hm := memoAT_ok h _ hu
  unfold memoBT at hm
  simp only [Bool.and_eq_true] at hm
  obtain ⟨h1, h2, h3⟩ := hm
  obtain ⟨X, hX⟩ := pureL_ok h1
  obtain ⟨Y, hY⟩ := pureL_ok h2
  refine ⟨X, hX, ⟨.tuple Y.toArray, by simp [g, hY]⟩, as, ?_⟩
  split at h3
  · rename_i l h' hr
    rw [avEqL_ok _ _ h3] at hr
    exact ⟨h', hX, hr⟩
  · cases h3
end
end Ax
