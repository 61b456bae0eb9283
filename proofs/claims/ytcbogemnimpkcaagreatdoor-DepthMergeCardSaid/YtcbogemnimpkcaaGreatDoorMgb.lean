/- A row of names is made compact, walked; the conditions stand in each statement. -/
import Derived.Test.YtcbogemnimpkcaaGreatDoorMga
import Derived.Deep.WholeRow
import Derived.Shelf.GgSortFunc.RowK
import Derived.Lib.SlicesCompact
set_option linter.unusedVariables false
set_option linter.unusedSimpArgs false
set_option linter.unusedSectionVars false
namespace Mg
open Go Go.Proofs Go.RowKit Ax Go.Sort Go.Lib

instance : DecidableEq B32 := fun x y => decidable_of_iff (x.l = y.l) ⟨extI, fun h => by rw [h]⟩
abbrev RowB (w : World) (blk off : Nat) (d : Array B32) : Prop := HoldsK encB 32 w blk off d
theorem RowB.at_ {w : World} {blk off : Nat} {d : Array B32} (h : RowB w blk off d) {i : Nat} (hi : i < d.size) : IdAt ⟨blk, off + i * 32, none⟩ d[i]! w := fun j v hv => by
  have hj : j < 32 := by rw [← encL d[i]!]; exact (List.getElem?_eq_some_iff.1 hv).1
  rw [Addr.add_mid, (HoldsK.cell h hi hj).1]
  rw [List.getElem!_eq_getElem?_getD, hv]
  rfl
theorem RowB.there {w : World} {blk off : Nat} {d : Array B32} (h : RowB w blk off d) {i n : Nat} (hi : (i + n) ≤ d.size) : w.there blk (off + i * 32) (n * 32) := fun j hj => by
  have h1 : j / 32 < n := by rw [Nat.div_lt_iff_lt_mul (by decide)]; exact hj
  have h2 : i + j / 32 < d.size := by omega
  have h3 := HoldsK.cell h h2 (Nat.mod_lt j (show 0 < 32 by decide))
  have e : off + (i + j / 32) * 32 + j % 32 = off + i * 32 + j := by
    have := Nat.div_add_mod j 32
    rw [Nat.add_mul]; omega
  rw [e] at h3
  rw [h3.1]
  exact ⟨rfl, h3.2⟩
theorem setMany_one (d : Array B32) (i : Nat) (hi : i < d.size) (x : B32) : setMany (flatK encB 32 d) (i * 32) (encB x) = flatK encB 32 (d.setIfInBounds i x) := by
  refine ext_get! (by simp) fun t ht => ?_
  have ht' : t < d.size * 32 := by simpa using ht
  rw [get_setMany _ _ _ t (by simpa using ht'), get_flatK _ _ _ t ht', get_flatK _ _ _ t (by simpa using ht'), encL]
  by_cases a : t / 32 = i
  · rw [if_pos ((blk_iff 32 i t (by decide)).2 a)]
    have m : t - i * 32 = t % 32 := by subst a; rw [Nat.mod_eq_sub_div_mul]
    rw [m, a, getElem!_set_same d i x hi]
  · rw [if_neg (fun h => a ((blk_iff 32 i t (by decide)).1 h)), getElem!_set_other d i _ x (fun h => a h)]
theorem store_row {w wr : World} {n blk off : Nat} {dk : Array B32} {i : Nat} (hi : i < dk.size) (hwr : wr = putRowK encB 32 (Sort.ahead w n) blk off dk) (x : B32) :
    wr.setCells blk (off + i * 32) (encB x) = putRowK encB 32 (Sort.ahead w n) blk off (dk.setIfInBounds i x) := by
  subst hwr
  unfold putRowK
  rw [setCells_putRow _ _ _ _ _ _ (by rw [encL, size_flatK]; omega), setMany_one dk i hi x]
noncomputable def zeroB : B32 := ⟨List.replicate 32 0, by simp, fun n h => by simp at h; omega⟩
/-- The row with noughts from a place on. -/
noncomputable def tailZ (d : Array B32) (k : Nat) : Array B32 := (d.toList.take k ++ List.replicate (d.size - k) zeroB).toArray
theorem tailZ_size (d : Array B32) (k : Nat) (h : k ≤ d.size) : (tailZ d k).size = d.size := by simp [tailZ]; omega
theorem tailZ_lt (d : Array B32) (k j : Nat) (h : k ≤ d.size) (hj : j < k) : (tailZ d k)[j]! = d[j]! := by
  have h1 : j < (tailZ d k).size := by rw [tailZ_size d k h]; omega
  rw [getElem!_pos _ j h1, getElem!_pos d j (by omega)]
  simp only [tailZ, List.getElem_toArray]
  rw [List.getElem_append_left (by simp; omega)]
  simp
theorem tailZ_ge (d : Array B32) (k j : Nat) (h : k ≤ d.size) (hj : k ≤ j) (hjs : j < d.size) : (tailZ d k)[j]! = zeroB := by
  have h1 : j < (tailZ d k).size := by rw [tailZ_size d k h]; omega
  rw [getElem!_pos _ j h1]
  simp only [tailZ, List.getElem_toArray]
  rw [List.getElem_append_right (by simp; omega)]
  simp
theorem encZs : encB zeroB = List.replicate 32 (Value.int .u8 0) := by
  unfold encB zeroB bV
  rw [List.map_replicate]
  rfl
theorem encZ (c : Nat) (hc : c < 32) : (encB zeroB)[c]! = Value.int .u8 0 := by
  rw [encZs, List.getElem!_eq_getElem?_getD, List.getElem?_replicate, if_pos hc]
  rfl
theorem clear_row {w wr : World} {n blk off : Nat} {dk : Array B32} {k : Nat} (hk : k ≤ dk.size) (hwr : wr = putRowK encB 32 (Sort.ahead w n) blk off dk) :
    wr.setCells blk (off + k * 32) (List.replicate ((dk.size - k) * 32) (Value.int .u8 0)) = putRowK encB 32 (Sort.ahead w n) blk off (tailZ dk k) := by
  subst hwr
  unfold putRowK
  rw [setCells_putRow _ _ _ _ _ _ (by rw [List.length_replicate, size_flatK]; omega)]
  congr 1
  refine ext_get! (by simp [tailZ_size dk k hk]) fun t ht => ?_
  have ht' : t < dk.size * 32 := by simpa using ht
  rw [get_setMany _ _ _ t (by simpa using ht'), get_flatK _ _ _ t ht', get_flatK _ _ _ t (by rw [tailZ_size dk k hk]; exact ht'), List.length_replicate]
  have hq : t / 32 < dk.size := by rw [Nat.div_lt_iff_lt_mul (by decide)]; exact ht'
  have hm := Nat.div_add_mod t 32
  by_cases a : k ≤ t / 32
  · rw [if_pos (by omega), tailZ_ge dk k _ hk a hq, encZ _ (Nat.mod_lt _ (by decide))]
    rw [List.getElem!_eq_getElem?_getD, List.getElem?_replicate, if_pos (by omega)]
    rfl
  · rw [if_neg (by omega), tailZ_lt dk k _ hk (by omega)]
theorem zeroTI : ∀ w, (zeroValue TI).run Tryz.prog w = .ok (idV zeroB) w := by
  intro w
  have h : (Tryz.prog.info? TI).map (fun i => (i.zero, i.size)) = some (some (.agg (List.replicate 32 (Value.int .u8 0)).toArray), 32) := by kernel_rfl
  have e : idV zeroB = .agg (List.replicate 32 (Value.int .u8 0)).toArray := by
    unfold idV encB zeroB
    simp [bV]
  rw [e]
  exact (zero_of_info h).1 w
theorem run_clear_gen {P : Program} (w : World) (t e ty : TypeId) (z : Value) (R : List Value) (ht : P.underlying t = some (.slice e)) (hv : ∀ w, (zeroValue e).run P w = .ok z w) (b o n c : Nat) (hn : 0 < n)
    (hzc : (Builtin.zeroCells z.cells n).toList = R) (h1 : ∀ v ∈ R, v.oneCell' = true) (h : w.there b o R.length) :
    (Builtin.clear_ #[t] ty #[.slice (some ⟨b, o, none⟩) n c]).run P w = .ok (.tuple #[]) (w.setCells b o R) := by
  have hst := run_storeCells_cells (P := P) b o R 0 w (fun j hj => by simpa using (h j hj).1) (fun j hj => by simpa using (h j hj).2) h1
  simp only [Nat.add_zero] at hst
  obtain ⟨m, rfl⟩ : ∃ m, n = m + 1 := ⟨n - 1, by omega⟩
  simp [Builtin.clear_, run_underlying ht, hv, hzc, hst]
theorem zeroCells_get (cs : Array Value) (n : Nat) (u : Value) (h : ∀ i, i < cs.size → cs[i]? = some u) : (Builtin.zeroCells cs n).toList = List.replicate (n * cs.size) u := by
  unfold Builtin.zeroCells
  apply List.ext_getElem
  · simp
  · intro i h1 h2
    have hi : i < n * cs.size := by simpa using h1
    have h0 : 0 < cs.size := by
      rcases Nat.eq_zero_or_pos cs.size with e | e
      · rw [e] at hi; omega
      · exact e
    have hm := Nat.mod_lt i h0
    have he := h _ hm
    rw [Array.getElem?_eq_getElem hm, Option.some.injEq] at he
    simp only [Array.getElem_toList, Array.getElem_map, Array.getElem_range, List.getElem_replicate]
    rw [getElem!_pos cs _ hm, he]
theorem run_clear (w : World) (ty : TypeId) (b o n c : Nat) (hn : 0 < n) (ht : w.there b o (n * 32)) :
    (Builtin.clear_ #[22] ty #[.slice (some ⟨b, o, none⟩) n c]).run Tryz.prog w = .ok (.tuple #[]) (w.setCells b o (List.replicate (n * 32) (Value.int .u8 0))) := by
  have hu : Tryz.prog.underlying 22 = some (.slice TI) := by kernel_rfl
  have hs : (idV zeroB).cells.size = 32 := by show (encB zeroB).toArray.size = 32; rw [List.size_toArray, encL]
  have hz := zeroCells_get (idV zeroB).cells n (Value.int .u8 0) (fun i hi => by
    rw [hs] at hi
    show (encB zeroB).toArray[i]? = _
    rw [List.getElem?_toArray, encZs, List.getElem?_replicate, if_pos hi])
  rw [hs] at hz
  exact run_clear_gen w _ TI ty _ _ hu zeroTI b o n c hn hz (fun v hv => by rw [List.eq_of_mem_replicate hv]; rfl) (by rw [List.length_replicate]; exact ht)
end Mg
namespace Mg
open Go Go.Proofs Go.RowKit Ax Go.Sort Go.Lib

theorem wrap_nat' (n : Nat) (h : n < 10000000) : IntKind.i64.wrap (n : Int) = n := by
  have e : (n : Int) % 2 ^ 64 = n := Int.emod_eq_of_lt (by omega) (by omega)
  simp only [IntKind.wrap, IntKind.bits, IntKind.signed, e]
  rw [if_neg]
  simp
  omega
theorem one_enc (x : B32) : ∀ v ∈ encB x, v.oneCell' = true := by
  intro v hv
  obtain ⟨n, _, rfl⟩ := List.mem_map.1 hv
  rfl
theorem ahead_drewN (w : World) (n : Nat) : Sort.ahead w n = w.drewN n := rfl
theorem keeps_eq {d : Array B32} {k : Nat} (hk : 0 < k) : keeps d k = !(eqB d[k]! d[k - 1]!) := by
  unfold keeps
  by_cases h : d[k]! = d[k - 1]!
  · rw [h]
    have : eqB d[k - 1]! d[k - 1]! = true := eqB_iff.2 rfl
    rw [this]
    simp; omega
  · have : eqB d[k]! d[k - 1]! = false := by
      cases he : eqB d[k]! d[k - 1]!
      · rfl
      · exact absurd (eqB_iff.1 he) h
    rw [this]
    simp [h]
set_option maxRecDepth 100000 in
set_option maxHeartbeats 4000000 in
theorem compact_any (blk off cap : Nat) (d : Array B32) (w : World) (hH : RowB w blk off d) (hsz : d.size ≤ 1000000) (hcap : d.size ≤ cap) :
    Calls Tryz.prog 67 #[.slice (some ⟨blk, off, none⟩) d.size cap] w fun e w' => e = .returned (.slice (some ⟨blk, off, none⟩) (compactUpTo d d.size).length cap) ∧
      ∃ q dk, w' = putRowK encB 32 (Sort.ahead w q) blk off dk ∧ dk.size = d.size ∧ ∀ j, j < (compactUpTo d d.size).length → (compactUpTo d d.size)[j]? = some dk[j]! := by
  have same : ∀ q, (∀ j, j < d.size → keeps d j = true) → (compactUpTo d d.size).length = d.size ∧ ∃ q' dk, w.drewN q = putRowK encB 32 (Sort.ahead w q') blk off dk ∧ dk.size = d.size ∧ ∀ j, j < (compactUpTo d d.size).length → (compactUpTo d d.size)[j]? = some dk[j]! := by
    intro q hall
    have e : compactUpTo d d.size = d.toList := by rw [compactUpTo_all d _ hall, range_map_get]
    rw [e]
    refine ⟨by simp, q, d, (putRowK_self encB 32 (Sort.ahead w q) blk off d (holdsK_ahead encB 32 w q blk off d hH)).symm, rfl, fun j hj => ?_⟩
    have hj' : j < d.size := by simpa using hj
    rw [List.getElem?_eq_getElem hj, getElem!_pos d j hj']
    simp
  have HS := Lib.hid same
  have HH := Lib.hid hH
  clear same hH
  by_cases h2 : d.size < 2
  · go_enter Tryz.func67, Tryz.ntmps67
    go_wp2
    go_ret
    obtain ⟨e1, e2⟩ := HS.out 0 (fun j hj => keeps_lt_one d j (by omega))
    exact ⟨by rw [e1]; rfl, e2⟩
  · go_enter Tryz.func67, Tryz.ntmps67
    go_wp2
    go_loopw [3] (fun s3 wr => ∃ k q : Nat, 1 ≤ k ∧ k ≤ d.size ∧ s3 = .int .i64 k ∧ wr = w.drewN q ∧ Hid (∀ j, j < k → keeps d j = true)) (fun s3 _ => d.size - (RowKit.intOf s3).toNat)
    case atStart => exact ⟨1, 0, Nat.le_refl _, by omega, rfl, rfl, Lib.hid (keeps_lt_one d)⟩
    case round =>
      obtain ⟨k, q, hk1, hk, rfl, rfl, hall⟩ := hrel
      by_cases hlt : k < d.size
      · obtain ⟨k1, hk1'⟩ : ∃ k1, k1 + 1 = k := ⟨k - 1, by omega⟩
        have hx : IdAt ⟨blk, off + k * 32, none⟩ d[k]! (w.drewN q) := RowB.at_ (holdsK_ahead encB 32 w q blk off d HH.out) hlt
        have hy : IdAt ⟨blk, off + k1 * 32, none⟩ d[k1]! (w.drewN q) := RowB.at_ (holdsK_ahead encB 32 w q blk off d HH.out) (show k1 < d.size by omega)
        have hke := Lib.hid (keeps_eq (d := d) (k := k) (by omega))
        rw [show k - 1 = k1 by omega] at hke
        have wr : IntKind.i64.wrap ((k : Int) - 1) = (k1 : Int) := by rw [show (k : Int) - 1 = (k1 : Int) by omega]; exact wrap_nat' k1 (by omega)
        have i1 : (0 : Int) ≤ (k1 : Int) := Int.natCast_nonneg _
        have i2 : (k1 : Int) < (d.size : Int) := by omega
        have hkk := Lib.hid hk1'
        clear hk1'
        obtain ⟨x, ex⟩ : ∃ x, d[k]! = x := ⟨_, rfl⟩
        obtain ⟨y, ey⟩ : ∃ y, d[k1]! = y := ⟨_, rfl⟩
        rw [ex] at hx hke
        rw [ey] at hy hke
        clear ex ey
        have i9 : ¬ cap = k := by omega
        have q3 : ∀ w, (Op.equalIn 10000 TI (idV x) (idV y)).run Tryz.prog w = .ok (eqB x y) w := eq_id x y
        unfold idV at q3
        by_cases he : eqB x y = true
        · rw [he] at q3
          go_wp2
          refine wp_region_quiet_lit (by kernel_rfl) (by kernel_rfl) ?_
          repeat (quiet_step (fail))
          refine quiet_load rfl (.tmp 18) rfl ⟨blk, off + k * 32, none⟩ (by rfl) x (fun w hw => by obtain ⟨m, rfl⟩ := hw; exact hx) ?_
          unfold idV
          repeat (quiet_step (fail))
          refine quiet_load rfl (.tmp 23) rfl ⟨blk, off + k1 * 32, none⟩ (by rfl) y (fun w hw => by obtain ⟨m, rfl⟩ := hw; exact hy) ?_
          unfold idV
          repeat (quiet_step (fail))
          refine wpQuiet_nil ?_
          rintro _ ⟨nq, rfl⟩
          go_wp2
          have hst : Hid (CompInv d (k + 1) k d) := Lib.hid (CompInv.start hall.out (by rw [hke.out, he]; rfl))
          clear hx hy q3 wr i1 i2
          go_loopw [3, 5] (fun s3 s5 wr => ∃ (kk k2 q2 : Nat) (dk : Array B32), s3 = .int .i64 kk ∧ s5 = .int .i64 k2 ∧ 1 ≤ k2 ∧ k + k2 ≤ d.size ∧ Hid (wr = putRowK encB 32 (Sort.ahead w q2) blk off dk) ∧ Hid (CompInv d (k + k2) kk dk)) (fun _ s5 _ => d.size - (k + (RowKit.intOf s5).toNat))
          case atStart => exact ⟨k, 1, q + nq, d, rfl, rfl, Nat.le_refl _, by omega, Lib.hid (by
            have h := (putRowK_self encB 32 (Sort.ahead w (q + nq)) blk off d (holdsK_ahead encB 32 w (q + nq) blk off d HH.out)).symm
            first | exact h | (rw [World.drewN_drewN]; exact h)), hst⟩
          case round =>
            obtain ⟨kk, k2, q2, dk, rfl, rfl, h1, hle, HW, hI⟩ := hrel
            rename World => W
            have hkk2 := hI.out.lt
            have hds := hI.out.size
            have hrow : RowB W blk off dk := by rw [HW.out]; exact holdsK_putRowK encB 32 _ blk off d dk (holdsK_ahead encB 32 w q2 blk off d HH.out) hds
            by_cases hlt2 : k + k2 < d.size
            · obtain ⟨k3, hk3⟩ : ∃ k3, k3 + 1 = k2 := ⟨k2 - 1, by omega⟩
              have hx : IdAt ⟨blk, off + k * 32 + k2 * 32, none⟩ d[k + k2]! W := by
                have := RowB.at_ hrow (show k + k2 < dk.size by omega)
                rw [hI.out.high (k + k2) (by omega), show off + (k + k2) * 32 = off + k * 32 + k2 * 32 by omega] at this
                exact this
              have hy : IdAt ⟨blk, off + k * 32 + k3 * 32, none⟩ d[k + k3]! W := by
                have := RowB.at_ hrow (show k + k3 < dk.size by omega)
                rw [hI.out.high (k + k3) (by omega), show off + (k + k3) * 32 = off + k * 32 + k3 * 32 by omega] at this
                exact this
              have hke2 := Lib.hid (keeps_eq (d := d) (k := k + k2) (by omega))
              rw [show k + k2 - 1 = k + k3 by omega] at hke2
              have wr : IntKind.i64.wrap ((k2 : Int) - 1) = (k3 : Int) := by rw [show (k2 : Int) - 1 = (k3 : Int) by omega]; exact wrap_nat' k3 (by omega)
              have i1 : (0 : Int) ≤ (k3 : Int) := Int.natCast_nonneg _
              have i2 : (k3 : Int) < ((d.size - k : Nat) : Int) := by omega
              have i3 : (k2 : Int) < ((d.size - k : Nat) : Int) := by omega
              have hkk3 := Lib.hid hk3
              clear hk3
              obtain ⟨x2, ex⟩ : ∃ x, d[k + k2]! = x := ⟨_, rfl⟩
              obtain ⟨y2, ey⟩ : ∃ y, d[k + k3]! = y := ⟨_, rfl⟩
              rw [ex] at hx hke2
              rw [ey] at hy hke2
              have EX := Lib.hid ex
              clear ex ey
              have q3 : ∀ w, (Op.equalIn 10000 TI (idV x2) (idV y2)).run Tryz.prog w = .ok (eqB x2 y2) w := eq_id x2 y2
              unfold idV at q3
              by_cases he2 : eqB x2 y2 = true
              · rw [he2] at q3
                go_wp2
                refine wp_region_quiet_lit (by kernel_rfl) (by kernel_rfl) ?_
                repeat (quiet_step (fail))
                refine quiet_load rfl (.tmp 37) rfl ⟨blk, off + k * 32 + k2 * 32, none⟩ (by rfl) x2 (fun w hw => by obtain ⟨m, rfl⟩ := hw; exact hx) ?_
                unfold idV
                repeat (quiet_step (fail))
                refine quiet_load rfl (.tmp 42) rfl ⟨blk, off + k * 32 + k3 * 32, none⟩ (by rfl) y2 (fun w hw => by obtain ⟨m, rfl⟩ := hw; exact hy) ?_
                unfold idV
                repeat (quiet_step (fail))
                refine wpQuiet_nil ?_
                rintro _ ⟨nq, rfl⟩
                go_wp2
                go_roundw
                case rel => exact ⟨kk, k2 + 1, q2 + nq, dk, rfl, by go_num, by omega, by omega, Lib.hid (by rw [HW.out, putRowK_drewN]), Lib.hid (hI.out.skip (by rw [hke2.out, he2]; rfl))⟩
                case measure => simp [RowKit.intOf]; omega
              · have he2' : eqB x2 y2 = false := by simpa using he2
                rw [he2'] at q3
                have hth := RowB.there hrow (i := kk) (n := 1) (by omega)
                go_wp2
                refine wp_region_quiet_lit (by kernel_rfl) (by kernel_rfl) ?_
                repeat (quiet_step (fail))
                refine quiet_load rfl (.tmp 37) rfl ⟨blk, off + k * 32 + k2 * 32, none⟩ (by rfl) x2 (fun w hw => by obtain ⟨m, rfl⟩ := hw; exact hx) ?_
                unfold idV
                repeat (quiet_step (fail))
                refine quiet_load rfl (.tmp 42) rfl ⟨blk, off + k * 32 + k3 * 32, none⟩ (by rfl) y2 (fun w hw => by obtain ⟨m, rfl⟩ := hw; exact hy) ?_
                unfold idV
                repeat (quiet_step (fail))
                refine wpQuiet_nil ?_
                rintro _ ⟨nq, rfl⟩
                have hx' : IdAt ⟨blk, off + k * 32 + k2 * 32, none⟩ x2 (W.drewN nq) := hx
                have hth' : (W.drewN nq).there blk (off + kk * 32) (encB x2).toArray.size := by rw [List.size_toArray, encL]; exact hth
                go_wp2_with (first
                  | (refine list_load rfl (.tmp 49) rfl ⟨blk, off + k * 32 + k2 * 32, none⟩ (by rfl) x2 hx' ?_; unfold idV)
                  | (refine wpList_store_mid rfl TI (.tmp 51) (.tmp 50) rfl blk (off + kk * 32) (encB x2).toArray (by rfl) (by rfl) hth' (by rw [List.size_toArray, encL]; exact iI) (all_oneCell_toArray (one_enc x2)) ?_)
                  | fail)
                go_roundw
                case rel => exact ⟨kk + 1, k2 + 1, q2 + nq, dk.setIfInBounds kk x2, by go_num, by go_num, by omega, by omega, Lib.hid (by
                  have e := store_row (w := w) (wr := W.drewN nq) (n := q2 + nq) (blk := blk) (off := off) (dk := dk) (i := kk) (by omega) (by rw [HW.out, putRowK_drewN]) x2
                  first | exact e | (rw [List.toList_toArray]; exact e)), Lib.hid (by
                  have := hI.out.keep hlt2 (by rw [hke2.out, he2']; rfl)
                  rw [EX.out] at this
                  exact this)⟩
                case measure => simp [RowKit.intOf]; omega
            · have hend : k + k2 = d.size := by omega
              have hcl : ∀ ty, (Builtin.clear_ #[22] ty #[.slice (some ⟨blk, off + kk * 32, none⟩) (d.size - kk) (cap - kk)]).run Tryz.prog W = .ok (.tuple #[]) (W.setCells blk (off + kk * 32) (List.replicate ((d.size - kk) * 32) (Value.int .u8 0))) :=
                fun ty => run_clear W ty blk (off + kk * 32) (d.size - kk) (cap - kk) (by omega) (RowB.there hrow (by omega))
              have i3 : ¬ (k2 : Int) < ((d.size - k : Nat) : Int) := by omega
              have i5 : (kk : Int) ≤ (d.size : Int) := by omega
              have i6 : (kk : Int) ≤ (cap : Int) := by omega
              have i7 : ¬ cap = kk := by omega
              go_wp2
              go_ret
              have hII := hI.out
              rw [hend] at hII
              have hcr := clear_row (w := w) (wr := W) (n := q2) (blk := blk) (off := off) (dk := dk) (k := kk) (by omega) HW.out
              rw [hds] at hcr
              refine ⟨by rw [hII.len]; rfl, q2, tailZ dk kk, hcr, by rw [tailZ_size dk kk (by omega), hds], fun j hj => ?_⟩
              rw [hII.len] at hj
              rw [hII.low j hj, tailZ_lt dk kk j (by omega) hj]
        · have he' : eqB x y = false := by simpa using he
          rw [he'] at q3
          go_wp2
          refine wp_region_quiet_lit (by kernel_rfl) (by kernel_rfl) ?_
          repeat (quiet_step (fail))
          refine quiet_load rfl (.tmp 18) rfl ⟨blk, off + k * 32, none⟩ (by rfl) x (fun w hw => by obtain ⟨m, rfl⟩ := hw; exact hx) ?_
          unfold idV
          repeat (quiet_step (fail))
          refine quiet_load rfl (.tmp 23) rfl ⟨blk, off + k1 * 32, none⟩ (by rfl) y (fun w hw => by obtain ⟨m, rfl⟩ := hw; exact hy) ?_
          unfold idV
          repeat (quiet_step (fail))
          refine wpQuiet_nil ?_
          rintro _ ⟨nq, rfl⟩
          go_wp2
          go_roundw
          case rel => exact ⟨k + 1, q + nq, by omega, by omega, by go_num, by first | rfl | rw [World.drewN_drewN], Lib.hid (fun j hj => by
            rcases Nat.lt_succ_iff_lt_or_eq.1 hj with h | rfl
            · exact hall.out j h
            · rw [hke.out, he']; rfl)⟩
          case measure => simp [RowKit.intOf]; omega
      · obtain rfl : k = d.size := by omega
        go_wp2
        go_ret
        obtain ⟨e1, e2⟩ := HS.out q hall.out
        exact ⟨by rw [e1]; rfl, e2⟩
end Mg
namespace Mg
open Go Go.Proofs Go.RowKit Ax Go.Sort Go.Lib

def ltI (x y : B32) : Prop := x.l < y.l
theorem ltL_iff (a b : List Nat) : ltL a b = true ↔ a < b := by
  haveI : Ax.Sy := { str := fun _ => [] }
  exact ltL_lt a b
theorem ltL_no (a b : List Nat) : ltL a b = false ↔ b ≤ a := by
  rw [← Bool.not_eq_true, ltL_iff]
  exact List.not_lt
theorem ltI_trans {x y z : B32} (h : ltI x y) (k : ltI y z) : ltI x z := List.lt_trans h k
theorem ltI_irrefl (x : B32) : ¬ ltI x x := List.lt_irrefl _
theorem le_ne {x y : B32} (h : x.l ≤ y.l) (hn : x ≠ y) : ltI x y := by
  unfold ltI
  rcases Decidable.em (x.l < y.l) with h1 | h1
  · exact h1
  · exact absurd (extI (List.le_antisymm h (List.not_lt.1 h1))) hn
/-- r is l in order, each name once. -/
structure SortsTo (l r : List B32) : Prop where
  up : r.Pairwise ltI
  mem : ∀ x, x ∈ r ↔ x ∈ l
theorem up_unique : ∀ {a b : List B32}, a.Pairwise ltI → b.Pairwise ltI → (∀ x, x ∈ a ↔ x ∈ b) → a = b
  | [], [], _, _, _ => rfl
  | [], y :: b, _, _, h => by have := (h y).2 (by simp); simp at this
  | x :: a, [], _, _, h => by have := (h x).1 (by simp); simp at this
  | x :: a, y :: b, ha, hb, h => by
    obtain ⟨a1, a2⟩ := List.pairwise_cons.1 ha
    obtain ⟨b1, b2⟩ := List.pairwise_cons.1 hb
    have hxy : x = y := by
      have h1 := (h x).1 (by simp)
      have h2 := (h y).2 (by simp)
      rcases List.mem_cons.1 h1 with e | e
      · exact e
      · rcases List.mem_cons.1 h2 with e' | e'
        · exact e'.symm
        · exact absurd (ltI_trans (a1 y e') (b1 x e)) (ltI_irrefl x)
    subst hxy
    rw [up_unique a2 b2 (fun z => ?_)]
    constructor
    · intro hz
      rcases List.mem_cons.1 ((h z).1 (by simp [hz])) with e | e
      · subst e; exact absurd (a1 z hz) (ltI_irrefl z)
      · exact e
    · intro hz
      rcases List.mem_cons.1 ((h z).2 (by simp [hz])) with e | e
      · subst e; exact absurd (b1 z hz) (ltI_irrefl z)
      · exact e
theorem SortsTo.unique {l r r' : List B32} (h : SortsTo l r) (h' : SortsTo l r') : r = r' := up_unique h.up h'.up (fun x => (h.mem x).trans (h'.mem x).symm)

/-- Of a row in order neighbours that are alike are left out. -/
theorem compact_inv (d : Array B32) (hd : ∀ i j, i < j → j < d.size → (d[i]!).l ≤ (d[j]!).l) : ∀ m, m ≤ d.size →
    (compactUpTo d m).Pairwise ltI ∧ (∀ x ∈ compactUpTo d m, ∃ j, j < m ∧ x = d[j]!) ∧ ∀ j, j < m → d[j]! ∈ compactUpTo d m
  | 0, _ => ⟨by simp [compactUpTo], by simp [compactUpTo], fun j hj => by omega⟩
  | m + 1, hm => by
    obtain ⟨h1, h2, h3⟩ := compact_inv d hd m (by omega)
    rw [compactUpTo_succ]
    by_cases hk : keeps d m = true
    · rw [if_pos hk]
      refine ⟨?_, ?_, ?_⟩
      · rw [List.pairwise_append]
        refine ⟨h1, by simp, fun x hx y hy => ?_⟩
        obtain rfl := List.mem_singleton.1 hy
        obtain ⟨j, hj, rfl⟩ := h2 x hx
        refine le_ne (hd j m hj (by omega)) (fun e => ?_)
        have hm0 : m ≠ 0 := by omega
        unfold keeps at hk
        have hne : d[m]! ≠ d[m - 1]! := by simpa [hm0] using hk
        apply hne
        have e1 : (d[m - 1]!).l ≤ (d[m]!).l := hd (m - 1) m (by omega) (by omega)
        have e2 : (d[m]!).l ≤ (d[m - 1]!).l := by
          rw [← e]
          rcases Nat.lt_or_ge j (m - 1) with h | h
          · exact hd j (m - 1) h (by omega)
          · rw [show j = m - 1 by omega]; exact List.le_refl _
        exact extI (List.le_antisymm e2 e1)
      · intro x hx
        rcases List.mem_append.1 hx with hx | hx
        · obtain ⟨j, hj, e⟩ := h2 x hx
          exact ⟨j, by omega, e⟩
        · exact ⟨m, by omega, List.mem_singleton.1 hx⟩
      · intro j hj
        rcases Nat.lt_succ_iff_lt_or_eq.1 hj with h | rfl
        · exact List.mem_append_left _ (h3 j h)
        · exact List.mem_append_right _ (by simp)
    · rw [if_neg hk, List.append_nil]
      refine ⟨h1, fun x hx => ?_, fun j hj => ?_⟩
      · obtain ⟨j, hj, e⟩ := h2 x hx
        exact ⟨j, by omega, e⟩
      · rcases Nat.lt_succ_iff_lt_or_eq.1 hj with h | rfl
        · exact h3 j h
        · have hk' : keeps d j = false := by simpa using hk
          unfold keeps at hk'
          have hj0 : j ≠ 0 ∧ d[j]! = d[j - 1]! := by
            have : ¬ (j = 0 ∨ d[j]! ≠ d[j - 1]!) := by simpa using hk'
            exact ⟨fun h => this (.inl h), Decidable.byContradiction fun h => this (.inr h)⟩
          rw [hj0.2]
          exact h3 (j - 1) (by omega)
theorem sorts_to {l ys : List B32} (hp : ys.Perm l) (hs : (ys.map (·.l)).Pairwise (fun a b => ltL b a = false)) : SortsTo l (compactUpTo ys.toArray ys.toArray.size) := by
  have hd : ∀ i j, i < j → j < ys.toArray.size → (ys.toArray[i]!).l ≤ (ys.toArray[j]!).l := fun i j hij hj => by
    have hj' : j < ys.length := by simpa using hj
    rw [getElem!_pos _ i (by simp; omega), getElem!_pos _ j hj]
    have := List.pairwise_iff_getElem.1 hs i j (by simp; omega) (by simpa using hj') hij
    rw [ltL_no] at this
    simpa using this
  obtain ⟨h1, h2, h3⟩ := compact_inv ys.toArray hd _ (Nat.le_refl _)
  refine ⟨h1, fun x => ⟨fun hx => ?_, fun hx => ?_⟩⟩
  · obtain ⟨j, hj, rfl⟩ := h2 x hx
    rw [getElem!_pos _ j hj]
    exact hp.mem_iff.1 (by simp)
  · have hx' := hp.mem_iff.2 hx
    obtain ⟨j, hj, rfl⟩ := List.mem_iff_getElem.1 hx'
    have := h3 j (by simpa using hj)
    rw [getElem!_pos _ j (by simpa using hj)] at this
    simpa using this
end Mg
