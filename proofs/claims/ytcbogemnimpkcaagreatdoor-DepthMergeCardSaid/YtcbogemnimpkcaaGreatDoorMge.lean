/- The reference sorts names, walked; the conditions stand in each statement. -/
import Derived.Test.YtcbogemnimpkcaaGreatDoorMgd
import Derived.StillTailTactics
set_option linter.unusedVariables false
set_option linter.unusedSimpArgs false
set_option linter.unusedSectionVars false
namespace Mg
open Go Go.Proofs Go.RowKit Ax

theorem fold_set (l : List Value) (cs : Array Value) (h : cs.size = l.length) : List.foldl (fun (cs : Array Value) (x : Value × Nat) => cs.setIfInBounds x.snd x.fst) cs l.zipIdx = l.toArray := by
  have hf := Go.Great.foldl_set 0 l 0 cs
  simp only [Nat.zero_add] at hf
  obtain ⟨h1, h2⟩ := hf
  apply Array.ext_getElem?
  intro k
  rw [h2 k]
  by_cases hk : k < l.length
  · rw [if_pos ⟨Nat.zero_le _, hk, by omega⟩]
    simp
  · rw [if_neg (fun h' => hk h'.2.1), Array.getElem?_eq_none (by omega), List.getElem?_toArray, List.getElem?_eq_none (by omega)]
theorem fold_id (x : B32) : List.foldl (fun (cs : Array Value) (x : Value × Nat) => cs.setIfInBounds x.snd x.fst) #[.int .u8 0, .int .u8 0, .int .u8 0, .int .u8 0, .int .u8 0, .int .u8 0, .int .u8 0, .int .u8 0, .int .u8 0, .int .u8 0, .int .u8 0, .int .u8 0, .int .u8 0, .int .u8 0, .int .u8 0, .int .u8 0, .int .u8 0, .int .u8 0, .int .u8 0, .int .u8 0, .int .u8 0, .int .u8 0, .int .u8 0, .int .u8 0, .int .u8 0, .int .u8 0, .int .u8 0, .int .u8 0, .int .u8 0, .int .u8 0, .int .u8 0, .int .u8 0] (encB x).zipIdx = (encB x).toArray := fold_set _ _ (by rw [encL]; rfl)
theorem ins_sorts {l r : List B32} {x : B32} {j : Nat} (h : SortsTo l r) (hj : j ≤ r.length) (hlo : ∀ p (hp : p < r.length), p < j → ltI r[p] x) (hhi : ∀ hj' : j < r.length, ¬ ltI r[j] x ∧ r[j] ≠ x) : SortsTo (l ++ [x]) (r.take j ++ x :: r.drop j) := by
  have hr : r.take j ++ r.drop j = r := List.take_append_drop j r
  constructor
  · have hp := h.up
    rw [← hr, List.pairwise_append] at hp
    obtain ⟨p1, p2, p3⟩ := hp
    have hx : ∀ q ∈ r.drop j, ltI x q := by
      intro q hq
      have hj' : j < r.length := by
        rcases Nat.lt_or_ge j r.length with h | h
        · exact h
        · rw [List.drop_eq_nil_of_le h] at hq; simp at hq
      obtain ⟨h1, h2⟩ := hhi hj'
      have h3 : ltI x r[j] := le_ne (List.not_lt.1 h1) (fun e => h2 e.symm)
      rw [List.drop_eq_getElem_cons hj'] at hq p2
      rcases List.mem_cons.1 hq with rfl | hq
      · exact h3
      · exact ltI_trans h3 ((List.pairwise_cons.1 p2).1 q hq)
    rw [List.pairwise_append]
    refine ⟨p1, List.pairwise_cons.2 ⟨hx, p2⟩, fun a ha b hb => ?_⟩
    rcases List.mem_cons.1 hb with rfl | hb
    · obtain ⟨i, hi, rfl⟩ := List.mem_iff_getElem.1 ha
      rw [List.getElem_take]
      exact hlo i (by simp at hi; omega) (by simp at hi; omega)
    · exact p3 a ha b hb
  · intro y
    have h2 : y ∈ r ↔ y ∈ r.take j ∨ y ∈ r.drop j := by
      have := List.mem_append (a := y) (s := r.take j) (t := r.drop j)
      rw [hr] at this
      exact this
    rw [List.mem_append, List.mem_cons, List.mem_append, List.mem_singleton, ← h.mem, h2]
    constructor
    · rintro (h | h | h)
      · exact .inl (.inl h)
      · exact .inr h
      · exact .inl (.inr h)
    · rintro ((h | h) | h)
      · exact .inl h
      · exact .inr (.inr h)
      · exact .inr (.inl h)
theorem same_sorts {l r : List B32} {x : B32} (h : SortsTo l r) (hx : x ∈ r) : SortsTo (l ++ [x]) r := by
  refine ⟨h.up, fun y => ?_⟩
  rw [List.mem_append, List.mem_singleton, h.mem]
  exact ⟨.inl, fun h' => h'.elim id (fun e => by subst e; exact (h.mem _).1 hx)⟩
section
variable {ops : Array Oper} {o : Oper} {rest : List Oper} {a : Act} {w : World}
/-- A name is loaded where the world stands still. -/
theorem still_load {Q : Act → Prop} (x : Operand) (ho : o.op = .load TI x) (hw : Region.wanted o (yielded ops a.tmps) = true) (p : Addr) (hx : a.eval x = .pointer (some p)) (y : B32) (h : IdAt p y w)
    (hn : wpStill Tryz.prog ops w Q rest (a.put o.dst (idV y))) : wpStill Tryz.prog ops w Q (o :: rest) a := by
  refine wpStill_step (fun K hK => ?_)
  rw [if_pos hw]
  unfold Oper.still execOp
  simp only [ho, hx, load_id h, Sem.run_bind, Result.andThen_ok, Sem.run_pure, Oper.stillUpon]
  exact ⟨trivial, hK _ hn⟩
/-- .. where nothing is written, under a guard. -/
theorem quiet_loadg {C : World → Prop} {Q : Act → Prop} (x : Operand) (ho : o.op = .load TI x) (hw : Region.wanted o (yielded ops a.tmps) = true) (p : Addr) (hx : a.eval x = .pointer (some p)) (y : B32) (h : ∀ w, C w → IdAt p y w)
    (hn : wpQuiet Tryz.prog ops C Q rest (a.put o.dst (idV y))) : wpQuiet Tryz.prog ops C Q (o :: rest) a := by
  refine wpQuiet_step (fun K hK => ?_)
  rw [if_pos hw]
  refine ⟨idV y, fun w hC => ?_, hK _ hn⟩
  unfold Oper.quietAt execOp
  simp only [ho, hx, load_id (h w hC), Sem.run_bind, Result.andThen_ok, Sem.run_pure, Oper.quietUpon]
  exact ⟨trivial, trivial⟩
end
/-- What the sort holds behind k names. -/
structure SAt (B : Nat) (l : List B32) (k : Nat) (out : Value) (r : List B32) (w0 w : World) : Prop where
  st : SortsTo (l.take k) r
  row : OI B out r w
  bel : Below w0.heap.size w0 w
theorem SAt.below {B : Nat} {l : List B32} {k : Nat} {out : Value} {r : List B32} {w0 w w' : World} (h : SAt B l k out r w0 w) (hb : Below w.heap.size w w') : SAt B l k out r w0 w' :=
  ⟨h.st, h.row.below hb, h.bel.trans (hb.mono h.bel.size)⟩
theorem OI.at_ {B g n cap : Nat} {l : List B32} {w : World} (h : OI B (.slice (some ⟨g, 0, none⟩) n cap) l w) (k : Nat) (hk : k < l.length) : IdAt ⟨g, k * 32, none⟩ l[k] w := by
  obtain ⟨ao, c, hv, _, _, h0 | ⟨a, ha, _, hc⟩⟩ := h.rd
  · subst h0; simp at hk
  · simp only [Value.slice.injEq] at hv
    have e : a = ⟨g, 0, none⟩ := by rw [ha] at hv; exact (Option.some.inj hv.1).symm
    subst e
    have := hc k hk
    rw [Addr.add_mid, Nat.zero_add] at this
    exact this
theorem SAt.rlen {B : Nat} {l : List B32} {k : Nat} {out : Value} {r : List B32} {w0 w : World} (h : SAt B l k out r w0 w) : r.length ≤ l.length := by
  have := h.st.len
  rw [List.length_take] at this
  omega

set_option maxRecDepth 100000 in
set_option maxHeartbeats 8000000 in
theorem rsort_any (v : Value) (l : List B32) (w : World) (h : RdI v l w) (hl : l.length ≤ 1000) :
    Calls Tryz.prog 5 #[v] w fun e w' => ∃ v' r, e = .returned v' ∧ SortsTo l r ∧ OI w.heap.size v' r w' ∧ Below w.heap.size w w' := by
  obtain ⟨ao, lcap, rfl, hlc, hmax, hao⟩ := h
  unfold maxLen at hmax
  have HAO := Lib.hid hao
  clear hao
  go_enter Tryz.func5, Tryz.ntmps5
  go_wp2
  go_loopw [3, 4] (fun out i wr => ∃ (k : Nat) (r : List B32), k ≤ l.length ∧ i = .int .i64 k ∧ SAt w.heap.size l k out r w wr) (fun _ i _ => l.length - (RowKit.intOf i).toNat)
  case atStart => exact ⟨0, [], Nat.zero_le _, rfl, ⟨⟨.nil, fun x => Iff.rfl⟩, OI.nil _ _, Below.refl _ _⟩⟩
  case round =>
    obtain ⟨k, r, hk, rfl, hS⟩ := hrel
    by_cases hlt : k < l.length
    · obtain ⟨ad, rfl, ha, hc⟩ := HAO.out.resolve_left (by rintro rfl; simp at hlt)
      have hxa := hc k hlt
      obtain ⟨b, off, rfl⟩ : ∃ b off, ad = ⟨b, off, none⟩ := by
        obtain ⟨b, off, sp⟩ := ad
        have h0 := hc 0 (by omega) 0 ((encB l[0])[0]'(by rw [encL]; decide)) (List.getElem?_eq_getElem _)
        rw [show ((⟨b, off, sp⟩ : Addr).add (0 * 32)).add 0 = ⟨b, off, sp⟩ by unfold Addr.add; simp] at h0
        cases sp with
        | none => exact ⟨b, off, rfl⟩
        | some s =>
          unfold World.cell? at h0
          split at h0 <;> simp_all
      rw [Addr.add_mid] at hxa
      have hb_ : b < w.heap.size := ha
      have HT : Hid (l.take (k + 1) = l.take k ++ [l[k]]) := Lib.hid (List.take_succ_eq_append_getElem hlt)
      clear hc ha
      generalize l[k] = x at *
      have hxw : ∀ w', Below w.heap.size w w' → IdAt ⟨b, off + k * 32, none⟩ x w' := fun w' hb' => hxa.below hb' hb_
      have hrl := hS.rlen
      have kk0 : (0 : Int) ≤ (k : Int) := Int.natCast_nonneg _
      have kk1 : (k : Int) < (l.length : Int) := by omega
      have hu := uI
      have hi : (Tryz.prog.info? TI).map (·.size) = some (encB x).length := by rw [encL]; exact iI
      have hL32 : (encB x).length = 32 := encL x
      have hfold := fold_id x
      rcases hS.row.form with ⟨rfl, rfl⟩ | ⟨g, cap, cs, rfl, _, _, hle, hmx, _, _⟩
      · go_wp2
        go_loopw [5] (fun jv wj => jv = .int .i64 0 ∧ SAt w.heap.size l k (.slice none 0 0) [] w wj) (fun jv _ => 0)
        case atStart => exact ⟨rfl, hS⟩
        case round =>
          obtain ⟨rfl, hSj⟩ := hrel
          clear hS
          rename World => wj
          go_wp2
          go_quiet (fail)
          have hS1 := hSj.below ((Below.refl wj.heap.size wj).drewNm (n := nq))
          generalize wj.drewN nq = w1 at *
          go_wp2
          go_quiet (fail)
          have hS2 := hS1.below ((Below.refl w1.heap.size w1).drewNm (n := nq))
          generalize w1.drewN nq = W at *
          go_wp2
          have hSW := hS2
          have hrg : ∀ w', Below W.heap.size W w' → w'.rangeAt b (off + k * 32) (encB x) := fun w' hb' => range_id (hxw w' (hSW.bel.trans (hb'.mono hSW.bel.size)))
          have hI : SortsTo (l.take k ++ [x]) [x] := ins_sorts (j := 0) hSW.st (Nat.le_refl _) (fun p hp => by simp at hp) (fun h => by simp at h)
          go_region_held3 (fun w' => Below W.heap.size W w' ∧ w'.rangeAt b (off + k * 32) (encB x))
            ((go_split_ands
              refine (fun hB' => And.intro hB' (hrg _ hB')) ?_
              first
                | assumption
                | exact (Below.refl _ _).drew
                | exact Below.alloc (by assumption) (by assumption : Below W.heap.size W _).size _
                | exact Below.grown (by assumption) hg2 (by assumption : Below W.heap.size W _).size (fun k hk => by cases hk)))
            (first
              | (refine reg_none (by rfl) (.const (.slice none 0 0)) (.tmp 46) (by rfl) W.heap.size (.slice none 0 0) [] (by rfl) (OI.nil _ _) (by rfl) ?_)
              | (refine reg_app (by rfl) (.tmp 47) (.tmp 52) (by rfl) W.heap.size (.slice none 0 0) [] (by rfl) (OI.nil _ _) (by go_split_ands; exact Below.size (by assumption)) ⟨W.heap.size, 0, none⟩ 1 1 [x] (by rfl) rfl (box_new (Deep.blk_alloc_new W.drew _)) (by simp) ?_; intro v2 w4 hown2 hg2)
              | (refine reg_none (by rfl) (.tmp 53) (.tmp 56) (by rfl) W.heap.size v2 _ (by rfl) hown2 (by rfl) ?_))
          all_goals
            have hB5 : Below W.heap.size W w4 := (by go_split_ands; assumption)
            go_wp2
            go_roundw
            case rel => exact ⟨k + 1, _, by omega, by go_num, ⟨by rw [HT.out]; exact hI, (by simpa using OI.mono hown2 hSW.bel.size), hSW.bel.trans (hB5.mono hSW.bel.size)⟩⟩
            case measure => simp [RowKit.intOf]; omega
      · unfold maxLen at hmx
        go_wp2
        go_loopw [5] (fun jv wj => ∃ j : Nat, j ≤ r.length ∧ jv = .int .i64 j ∧ SAt w.heap.size l k (.slice (some ⟨g, 0, none⟩) r.length cap) r w wj ∧ Hid (∀ p (hp : p < r.length), p < j → ltI r[p] x)) (fun jv _ => r.length - (RowKit.intOf jv).toNat)
        case atStart => exact ⟨0, Nat.zero_le _, rfl, hS, Lib.hid (fun p _ hp => by omega)⟩
        case round =>
          obtain ⟨j, hj, rfl, hSj, hlo⟩ := hrel
          clear hS
          rename World => wj
          have j0 : (0 : Int) ≤ (j : Int) := Int.natCast_nonneg _
          by_cases hjl : j < r.length
          · have hya : IdAt ⟨g, j * 32, none⟩ r[j] wj := hSj.row.at_ j hjl
            have hxj := hxw wj hSj.bel
            have hT : Hid (ltI r[j] x → ∀ p (hp : p < r.length), p < j + 1 → ltI r[p] x) := Lib.hid (fun h p hp hpj => by
              rcases Nat.lt_succ_iff_lt_or_eq.1 hpj with h' | rfl
              · exact hlo.out p hp h'
              · exact h)
            have hI : Hid (¬ ltI r[j] x → r[j] ≠ x → SortsTo (l.take k ++ [x]) (r.take j ++ x :: r.drop j)) := Lib.hid (fun h1 h2 => ins_sorts hSj.st hj (fun p hp hpj => hlo.out p hp hpj) (fun _ => ⟨h1, h2⟩))
            have hE : Hid (r[j] = x → SortsTo (l.take k ++ [x]) r) := Lib.hid (fun h => same_sorts hSj.st (by rw [← h]; exact List.getElem_mem hjl))
            generalize r[j] = y at *
            have j1 : (j : Int) < (r.length : Int) := by omega
            by_cases hL : ltL y.l x.l = true
            · go_wp2
              refine wp_region_still_tail 13 (by kernel_rfl) (by kernel_rfl) ?_
              simp only [List.take_succ_cons, List.take_zero, List.drop_succ_cons, List.drop_zero]
              repeat still_step
              refine still_load (.tmp 19) rfl (by rfl) ⟨g, j * 32, none⟩ (by rfl) y hya ?_
              unfold idV
              repeat still_step
              refine still_load (.tmp 23) rfl (by rfl) ⟨b, off + k * 32, none⟩ (by rfl) x hxj ?_
              unfold idV
              refine wpStill_nil ?_
              change wpList _ _ _ _ _ wj.drew
              go_wp2_with (first
                | (go_at_call 28; refine (less_any y x _).mono ?_; rw [hL]; rintro e w4 ⟨rfl, hb4⟩)
                | fail)
              have hb5 : Below wj.heap.size wj w4 := ⟨hb4.os, hb4.tape, hb4.output, hb4.size, hb4.block⟩
              go_roundw
              case rel => exact ⟨j + 1, by omega, by go_num, hSj.below hb5, Lib.hid (hT.out ((ltL_iff _ _).1 hL))⟩
              case measure => simp [RowKit.intOf]; omega
            · have hL' : ltL y.l x.l = false := by simpa using hL
              have hnl : Hid (¬ ltI y x) := Lib.hid (fun h => hL ((ltL_iff _ _).2 h))
              clear hL
              go_wp2
              refine wp_region_still_tail 13 (by kernel_rfl) (by kernel_rfl) ?_
              simp only [List.take_succ_cons, List.take_zero, List.drop_succ_cons, List.drop_zero]
              repeat still_step
              refine still_load (.tmp 19) rfl (by rfl) ⟨g, j * 32, none⟩ (by rfl) y hya ?_
              unfold idV
              repeat still_step
              refine still_load (.tmp 23) rfl (by rfl) ⟨b, off + k * 32, none⟩ (by rfl) x hxj ?_
              unfold idV
              refine wpStill_nil ?_
              change wpList _ _ _ _ _ wj.drew
              go_wp2_with (first
                | (go_at_call 28; refine (less_any y x _).mono ?_; rw [hL']; rintro e w4 ⟨rfl, hb4⟩)
                | fail)
              have hb5 : Below wj.heap.size wj w4 := ⟨hb4.os, hb4.tape, hb4.output, hb4.size, hb4.block⟩
              have hS4 := hSj.below hb5
              have hya4 : IdAt ⟨g, j * 32, none⟩ y w4 := hya.below hb5 (hSj.row.lt rfl).2
              have hxj4 := hxw w4 hS4.bel
              clear hya hxj hSj hb4 hb5
              have q3 : ∀ w, (Op.equalIn 10000 TI (idV y) (idV x)).run Tryz.prog w = .ok (eqB y x) w := eq_id y x
              unfold idV at q3
              have jne0 : ¬ (j : Int) = (r.length : Int) := by omega
              have jne : ((j : Int) == (r.length : Int)) = false := by simpa using jne0
              by_cases he : eqB y x = true
              · rw [he] at q3
                refine wp_region_quiet_lit (by kernel_rfl) (by kernel_rfl) ?_
                repeat (quiet_step (fail))
                refine quiet_loadg (.tmp 36) rfl (by rfl) ⟨g, j * 32, none⟩ (by rfl) y (fun w hw => by obtain ⟨m, rfl⟩ := hw; exact hya4) ?_
                unfold idV
                repeat (quiet_step (fail))
                refine quiet_loadg (.tmp 40) rfl (by rfl) ⟨b, off + k * 32, none⟩ (by rfl) x (fun w hw => by obtain ⟨m, rfl⟩ := hw; exact hxj4) ?_
                unfold idV
                repeat (quiet_step (fail))
                refine wpQuiet_nil ?_
                rintro _ ⟨nq, rfl⟩
                go_wp2
                go_roundw
                case rel => exact ⟨k + 1, r, by omega, by go_num, ⟨by rw [HT.out]; exact hE.out (eqB_iff.1 he), (hS4.below (Below.refl _ _).drewNm).row, (hS4.below (Below.refl _ _).drewNm).bel⟩⟩
                case measure => simp [RowKit.intOf]; omega
              · have he' : eqB y x = false := by simpa using he
                rw [he'] at q3
                refine wp_region_quiet_lit (by kernel_rfl) (by kernel_rfl) ?_
                repeat (quiet_step (fail))
                refine quiet_loadg (.tmp 36) rfl (by rfl) ⟨g, j * 32, none⟩ (by rfl) y (fun w hw => by obtain ⟨m, rfl⟩ := hw; exact hya4) ?_
                unfold idV
                repeat (quiet_step (fail))
                refine quiet_loadg (.tmp 40) rfl (by rfl) ⟨b, off + k * 32, none⟩ (by rfl) x (fun w hw => by obtain ⟨m, rfl⟩ := hw; exact hxj4) ?_
                unfold idV
                repeat (quiet_step (fail))
                refine wpQuiet_nil ?_
                rintro _ ⟨nq, rfl⟩
                go_wp2
                have hSW := hS4.below ((Below.refl w4.heap.size w4).drewNm (n := nq))
                generalize w4.drewN nq = W at *
                have j2 : (j : Int) ≤ (r.length : Int) := by omega
                have jc : (j : Int) ≤ (cap : Int) := by omega
                have i9 : ¬ cap = j := by omega
                have hrg : ∀ w', Below W.heap.size W w' → w'.rangeAt b (off + k * 32) (encB x) := fun w' hb' => range_id (hxw w' (hSW.bel.trans (hb'.mono hSW.bel.size)))
                have hhead : ∀ w', Below W.heap.size W w' → ∀ i u, ((r.take j).map encB).flatten[i]? = some u → w'.cell? ((⟨g, 0, none⟩ : Addr).add i) = some u := fun w' hb' i u hi' => by
                  rw [Addr.add_mid, Nat.zero_add]
                  exact (hSW.row.below hb').cells i u (flat_take r j i u hi')
                have htail : ∀ w', Below W.heap.size W w' → ∀ i u, ((r.drop j).map encB).flatten[i]? = some u → w'.cell? ((⟨g, j * 32, none⟩ : Addr).add i) = some u := fun w' hb' i u hi' => by
                  rw [Addr.add_mid]
                  exact (hSW.row.below hb').cells _ u (flat_drop r j i hj u hi')
                have hIn := hI.out hnl.out (fun h => he (eqB_iff.2 h))
                go_region_held3 (fun w' => Below W.heap.size W w' ∧ w'.rangeAt b (off + k * 32) (encB x))
                  ((go_split_ands
                    refine (fun hB' => And.intro hB' (hrg _ hB')) ?_
                    first
                      | assumption
                      | exact (Below.refl _ _).drew
                      | exact Below.alloc (by assumption) (by assumption : Below W.heap.size W _).size _
                      | exact Below.grown (by assumption) hg1 (by assumption : Below W.heap.size W _).size (fun k hk => by simp [Value.ownBlock] at hk)
                      | exact Below.grown (by assumption) hg2 (by assumption : Below W.heap.size W _).size (fun k hk => (OI.lt hown1 hk).1)
                      | exact Below.grown (by assumption) hg3 (by assumption : Below W.heap.size W _).size (fun k hk => (OI.lt hown2 hk).1)))
                  (first
                    | (refine reg_app (by rfl) (.const (.slice none 0 0)) (.tmp 46) (by rfl) W.heap.size (.slice none 0 0) [] (by rfl) (OI.nil _ _) (by go_split_ands; exact Below.size (by assumption)) ⟨g, 0, none⟩ j cap (r.take j) (by rfl) (by simp; try omega) (by go_split_ands; exact hhead _ (by assumption)) (by simp; omega) ?_; intro v1 w3 hown1 hg1)
                    | (refine reg_app (by rfl) (.tmp 47) (.tmp 52) (by rfl) W.heap.size v1 _ (by rfl) (OI.below hown1 ((Below.refl _ _).alloc (Nat.le_refl _) _)) (by go_split_ands; exact Below.size (by assumption)) ⟨w3.heap.size, 0, none⟩ 1 1 [x] (by rfl) rfl (box_new (Deep.blk_alloc_new w3 _)) (by simp; omega) ?_; intro v2 w4 hown2 hg2)
                    | (refine reg_app (by rfl) (.tmp 47) (.tmp 52) (by rfl) W.heap.size v1 _ (by rfl) hown1 (by go_split_ands; exact Below.size (by assumption)) ⟨W.heap.size, 0, none⟩ 1 1 [x] (by rfl) rfl (box_new ((hg1.block W.heap.size (by simp) (by simp [Value.ownBlock])).trans (Deep.blk_alloc_new W.drew _))) (by simp; omega) ?_; intro v2 w4 hown2 hg2)
                    | (refine reg_app (by rfl) (.tmp 53) (.tmp 56) (by rfl) W.heap.size v2 _ (by rfl) hown2 (by go_split_ands; exact Below.size (by assumption)) ⟨g, j * 32, none⟩ (r.length - j) (cap - j) (r.drop j) (by rfl) (by simp) (by go_split_ands; exact htail _ (by assumption)) (by simp; omega) ?_; intro v3 w5 hown3 hg3))
                all_goals
                  have hB5 : Below W.heap.size W w5 := (by go_split_ands; assumption)
                  go_wp2
                  go_roundw
                  case rel => exact ⟨k + 1, _, by omega, by go_num, ⟨by rw [HT.out]; exact hIn, (by simpa using OI.mono hown3 hSW.bel.size), hSW.bel.trans (hB5.mono hSW.bel.size)⟩⟩
                  case measure => simp [RowKit.intOf]; omega
          · obtain rfl : j = r.length := by omega
            have hI : SortsTo (l.take k ++ [x]) (r.take r.length ++ x :: r.drop r.length) := ins_sorts hSj.st hj (fun p hp hpj => hlo.out p hp hpj) (fun h => by omega)
            go_wp2
            go_quiet (fail)
            have hS1 := hSj.below ((Below.refl wj.heap.size wj).drewNm (n := nq))
            generalize wj.drewN nq = w1 at *
            go_wp2
            go_quiet (fail)
            have hS2 := hS1.below ((Below.refl w1.heap.size w1).drewNm (n := nq))
            generalize w1.drewN nq = W at *
            go_wp2
            have hSW := hS2
            have j2 : (r.length : Int) ≤ (r.length : Int) := Int.le_refl _
            have hrg : ∀ w', Below W.heap.size W w' → w'.rangeAt b (off + k * 32) (encB x) := fun w' hb' => range_id (hxw w' (hSW.bel.trans (hb'.mono hSW.bel.size)))
            have hhead : ∀ w', Below W.heap.size W w' → ∀ i u, ((r.take r.length).map encB).flatten[i]? = some u → w'.cell? ((⟨g, 0, none⟩ : Addr).add i) = some u := fun w' hb' i u hi' => by
              rw [Addr.add_mid, Nat.zero_add]
              exact (hSW.row.below hb').cells i u (flat_take r r.length i u hi')
            have htail : ∀ w', Below W.heap.size W w' → ∀ i u, ((r.drop r.length).map encB).flatten[i]? = some u → w'.cell? ((⟨g, r.length * 32, none⟩ : Addr).add i) = some u := fun w' hb' i u hi' => by
              rw [Addr.add_mid]
              exact (hSW.row.below hb').cells _ u (flat_drop r r.length i hj u hi')
            by_cases hcj : cap = r.length
            · subst hcj
              go_region_held3 (fun w' => Below W.heap.size W w' ∧ w'.rangeAt b (off + k * 32) (encB x))
                ((go_split_ands
                  refine (fun hB' => And.intro hB' (hrg _ hB')) ?_
                  first
                    | assumption
                    | exact (Below.refl _ _).drew
                    | exact Below.alloc (by assumption) (by assumption : Below W.heap.size W _).size _
                    | exact Below.grown (by assumption) hg1 (by assumption : Below W.heap.size W _).size (fun k hk => by simp [Value.ownBlock] at hk)
                    | exact Below.grown (by assumption) hg2 (by assumption : Below W.heap.size W _).size (fun k hk => (OI.lt hown1 hk).1)
                    | exact Below.grown (by assumption) hg3 (by assumption : Below W.heap.size W _).size (fun k hk => (OI.lt hown2 hk).1)))
                (first
                  | (refine reg_app (by rfl) (.const (.slice none 0 0)) (.tmp 46) (by rfl) W.heap.size (.slice none 0 0) [] (by rfl) (OI.nil _ _) (by go_split_ands; exact Below.size (by assumption)) ⟨g, 0, none⟩ r.length r.length (r.take r.length) (by rfl) (by simp; try omega) (by go_split_ands; exact hhead _ (by assumption)) (by simp; omega) ?_; intro v1 w3 hown1 hg1)
                  | (refine reg_app (by rfl) (.tmp 47) (.tmp 52) (by rfl) W.heap.size v1 _ (by rfl) (OI.below hown1 ((Below.refl _ _).alloc (Nat.le_refl _) _)) (by go_split_ands; exact Below.size (by assumption)) ⟨w3.heap.size, 0, none⟩ 1 1 [x] (by rfl) rfl (box_new (Deep.blk_alloc_new w3 _)) (by simp; omega) ?_; intro v2 w4 hown2 hg2)
                  | (refine reg_app (by rfl) (.tmp 47) (.tmp 52) (by rfl) W.heap.size v1 _ (by rfl) hown1 (by go_split_ands; exact Below.size (by assumption)) ⟨W.heap.size, 0, none⟩ 1 1 [x] (by rfl) rfl (box_new ((hg1.block W.heap.size (by simp) (by simp [Value.ownBlock])).trans (Deep.blk_alloc_new W.drew _))) (by simp; omega) ?_; intro v2 w4 hown2 hg2)
                  | (refine reg_app (by rfl) (.tmp 53) (.tmp 56) (by rfl) W.heap.size v2 _ (by rfl) hown2 (by go_split_ands; exact Below.size (by assumption)) ⟨g, 0, none⟩ 0 0 [] (by rfl) rfl (fun j u hj => by simp at hj) (by simp; omega) ?_; intro v3 w5 hown3 hg3))
              all_goals
                have hB5 : Below W.heap.size W w5 := (by go_split_ands; assumption)
                go_wp2
                go_roundw
                case rel => exact ⟨k + 1, _, by omega, by go_num, ⟨by rw [HT.out]; exact hI, (by simpa using OI.mono hown3 hSW.bel.size), hSW.bel.trans (hB5.mono hSW.bel.size)⟩⟩
                case measure => simp [RowKit.intOf]; omega
            · have jc : (r.length : Int) ≤ (cap : Int) := by omega
              go_region_held3 (fun w' => Below W.heap.size W w' ∧ w'.rangeAt b (off + k * 32) (encB x))
                ((go_split_ands
                  refine (fun hB' => And.intro hB' (hrg _ hB')) ?_
                  first
                    | assumption
                    | exact (Below.refl _ _).drew
                    | exact Below.alloc (by assumption) (by assumption : Below W.heap.size W _).size _
                    | exact Below.grown (by assumption) hg1 (by assumption : Below W.heap.size W _).size (fun k hk => by simp [Value.ownBlock] at hk)
                    | exact Below.grown (by assumption) hg2 (by assumption : Below W.heap.size W _).size (fun k hk => (OI.lt hown1 hk).1)
                    | exact Below.grown (by assumption) hg3 (by assumption : Below W.heap.size W _).size (fun k hk => (OI.lt hown2 hk).1)))
                (first
                  | (refine reg_app (by rfl) (.const (.slice none 0 0)) (.tmp 46) (by rfl) W.heap.size (.slice none 0 0) [] (by rfl) (OI.nil _ _) (by go_split_ands; exact Below.size (by assumption)) ⟨g, 0, none⟩ r.length cap (r.take r.length) (by rfl) (by simp; try omega) (by go_split_ands; exact hhead _ (by assumption)) (by simp; omega) ?_; intro v1 w3 hown1 hg1)
                  | (refine reg_app (by rfl) (.tmp 47) (.tmp 52) (by rfl) W.heap.size v1 _ (by rfl) (OI.below hown1 ((Below.refl _ _).alloc (Nat.le_refl _) _)) (by go_split_ands; exact Below.size (by assumption)) ⟨w3.heap.size, 0, none⟩ 1 1 [x] (by rfl) rfl (box_new (Deep.blk_alloc_new w3 _)) (by simp; omega) ?_; intro v2 w4 hown2 hg2)
                  | (refine reg_app (by rfl) (.tmp 47) (.tmp 52) (by rfl) W.heap.size v1 _ (by rfl) hown1 (by go_split_ands; exact Below.size (by assumption)) ⟨W.heap.size, 0, none⟩ 1 1 [x] (by rfl) rfl (box_new ((hg1.block W.heap.size (by simp) (by simp [Value.ownBlock])).trans (Deep.blk_alloc_new W.drew _))) (by simp; omega) ?_; intro v2 w4 hown2 hg2)
                  | (refine reg_app (by rfl) (.tmp 53) (.tmp 56) (by rfl) W.heap.size v2 _ (by rfl) hown2 (by go_split_ands; exact Below.size (by assumption)) ⟨g, r.length * 32, none⟩ 0 (cap - r.length) [] (by rfl) rfl (fun j u hj => by simp at hj) (by simp; omega) ?_; intro v3 w5 hown3 hg3))
              all_goals
                have hB5 : Below W.heap.size W w5 := (by go_split_ands; assumption)
                go_wp2
                go_roundw
                case rel => exact ⟨k + 1, _, by omega, by go_num, ⟨by rw [HT.out]; exact hI, (by simpa using OI.mono hown3 hSW.bel.size), hSW.bel.trans (hB5.mono hSW.bel.size)⟩⟩
                case measure => simp [RowKit.intOf]; omega
    · obtain rfl : k = l.length := by omega
      have hst := hS.st
      rw [List.take_length] at hst
      go_wp2
      go_ret
      exact ⟨_, r, rfl, hst, hS.row, hS.bel⟩
end Mg
