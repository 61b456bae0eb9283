/- DiskFuse, walked; on no condition but that the layers below have begun. -/
import Derived.Test.YtiikdbnblacbhaaGreatDoorDc
set_option linter.unusedVariables false
set_option linter.unusedSimpArgs false
set_option linter.unusedSectionVars false
namespace Dk
open Go Go.Proofs Go.RowKit Go.Maps

def decD (n : Int) : ByteArray := ⟨#[UInt8.ofNat (48 + n.toNat)]⟩
theorem decD_size (n : Int) : (decD n).size = 1 := rfl
set_option maxRecDepth 100000 in
theorem dec_small (n : Int) (w : World) (h0 : 0 ≤ n) (h1 : n < 10) :
    Calls Tryz.prog 14 #[.int .i64 n] w fun e w' => e = .returned (.string (decD n)) ∧ Below w.heap.size w w' := by
  have hu : ((UInt8.ofNat (48 + n.toNat)).toNat : Int) = 48 + n := by simp; omega
  have hcv : ∀ c, (convert 108 9 (.slice (some ⟨w.heap.size, 0, none⟩) 1 c)).run Tryz.prog (w.alloc (.cells #[.int .u8 (48 + n)] 5)) = .ok (.string (decD n)) (w.alloc (.cells #[.int .u8 (48 + n)] 5)) := fun c =>
    run_convert_bytes_back (P := Tryz.prog) (w.alloc (.cells #[.int .u8 (48 + n)] 5)) 108 9 5 ⟨w.heap.size, 0, none⟩ c [UInt8.ofNat (48 + n.toNat)] Tryz.underlying108 Tryz.underlying5 Tryz.underlying9 (fun j hj => by
      have : j = 0 := by simp at hj; omega
      subst this
      rw [show ((⟨w.heap.size, 0, none⟩ : Addr).add 0) = ⟨w.heap.size, 0, none⟩ from rfl, Lib.cell_of_heap (Deep.blk_alloc_new w _)]
      simp only [List.getElem_cons_zero]
      rw [hu]; rfl)
  clear hu
  go_enter Tryz.func14, Tryz.ntmps14
  go_wp2
  go_ret
  exact ⟨rfl, (Below.refl _ _).alloc (Nat.le_refl _) _⟩
/-- A number below a hundred, as the code writes it. -/
def decS (n : Int) : ByteArray := if n < 10 then decD n else decD (n / 10) ++ decD (n % 10)
theorem decS_size (n : Int) : (decS n).size ≤ 2 := by
  unfold decS
  split
  · rw [decD_size]; omega
  · rw [ByteArray.size_append, decD_size, decD_size]; omega
set_option maxRecDepth 100000 in
theorem dec_two (n : Int) (w : World) (h0 : 10 ≤ n) (h1 : n < 100) :
    Calls Tryz.prog 14 #[.int .i64 n] w fun e w' => e = .returned (.string (decD (n / 10) ++ decD (n % 10))) ∧ Below w.heap.size w w' := by
  have hs1 := decD_size (n / 10)
  have hs2 := decD_size (n % 10)
  have ha := dec_small (n / 10) w (by omega) (by omega)
  go_enter Tryz.func14, Tryz.ntmps14
  go_wp2_with fail
  refine ha.mono ?_
  rintro e w1 ⟨rfl, hb1⟩
  go_wp2_with fail
  refine (dec_small (n % 10) w1 (by omega) (by omega)).mono ?_
  rintro e w2 ⟨rfl, hb2⟩
  go_wp2_with fail
  go_ret
  exact ⟨rfl, hb1.trans (hb2.mono hb1.size)⟩
theorem dec_any (n : Int) (w : World) (h0 : 0 ≤ n) (h1 : n < 100) :
    Calls Tryz.prog 14 #[.int .i64 n] w fun e w' => e = .returned (.string (decS n)) ∧ Below w.heap.size w w' := by
  by_cases h : n < 10
  · have e : decS n = decD n := by unfold decS; rw [if_pos h]
    rw [e]; exact dec_small n w h0 h
  · have e : decS n = decD (n / 10) ++ decD (n % 10) := by unfold decS; rw [if_neg h]
    rw [e]; exact dec_two n w (by omega) h1
end Dk
namespace Dk
open Go Go.Proofs Go.RowKit Go.Maps

/-- The file's name. -/
def fS : ByteArray := ⟨#[102]⟩
def opW (i : Nat) : Op3 := ⟨1, fS, decS i⟩
def opsL (j : Nat) : List Op3 := (List.range j).map opW
/-- One file with a number; none below 0. -/
def fileOf (l : Int) : DataW Unit := if l < 0 then .map [] else .map [(kl fS, sd (decS l))]
theorem fileOf_put (l : Int) (x : DataW Unit) : (fileOf l).put (kl fS) x = .map [(kl fS, x)] := by
  unfold fileOf
  split
  · rfl
  · simp [DataW.put, DataW.insert, kl, Lit.sameKey]
theorem fileOf_nat (j : Nat) : fileOf j = .map [(kl fS, sd (decS j))] := by
  unfold fileOf; rw [if_neg (by omega)]
theorem nameF : nameB fS = true := by kernel_rfl
theorem fileOf_has {l : Int} (h : 0 ≤ l) : Maps.has (fileOf l) (kl fS) = true := by
  unfold fileOf; rw [if_neg (by omega)]; simp [Maps.has, kl, Lit.sameKey]
theorem fileOf_hasn {l : Int} (h : l < 0) : Maps.has (fileOf l) (kl fS) = false := by
  unfold fileOf; rw [if_pos h]; rfl
theorem fileOf_size (l : Int) : Maps.size (fileOf l) ≤ 1 := by
  unfold fileOf; split <;> simp [Maps.size]
theorem fileOf_txt {l : Int} (h : 0 ≤ l) : txt (fileOf l) fS = sd (decS l) := by
  unfold txt fileOf; rw [if_neg (by omega)]; simp [DataW.atKey, kl, Lit.sameKey]
theorem canW (i : Nat) (l : Int) : canO (opW i) (fileOf l) = 0 := by
  unfold canO opW
  simp only [if_true, nameF]
  by_cases h : 0 ≤ l
  · simp [fileOf_has h]
  · have h1 := fileOf_size l
    simp only [fileOf_hasn (show l < 0 by omega)]
    simp; omega
theorem doesW (i : Nat) (l : Int) : doesO (opW i) (fileOf l) = fileOf i := by
  unfold doesO opW
  simp only [if_true]
  rw [fileOf_put, fileOf_nat]
theorem fineW (i : Nat) : (opW i).Fine := ⟨.inl rfl, by show (1 : Nat) ≤ maxLen; unfold maxLen; omega, by have := decS_size i; show (decS i).size ≤ maxLen; unfold maxLen; omega⟩

/-- The disk behind i writes, its fuse at n ahead of them. -/
def stN (n i : Nat) : St := if i ≤ n then ⟨fileOf ((i : Int) - 1), .map [], opsL i, i, (n : Int) - i, false⟩ else ⟨fileOf ((n : Int) - 1), .map [], opsL n, n, 0, true⟩
theorem opsL_succ (j : Nat) : opsL (j + 1) = opsL j ++ [opW j] := by simp [opsL, List.range_succ]
theorem opsL_length (j : Nat) : (opsL j).length = j := by simp [opsL]
theorem stN_op (n i : Nat) : (stN n i).op (opW i) = (stN n (i + 1), if i < n then 0 else 6) := by
  unfold stN
  by_cases h1 : i < n
  · rw [if_pos (Nat.le_of_lt h1), if_pos (Nat.succ_le_of_lt h1), if_pos h1]
    unfold St.op
    rw [if_neg (by simp), if_neg (by rw [canW]; simp), if_neg (by show ¬ ((n : Int) - i = 0); omega)]
    rw [doesW, opsL_succ]
    have e1 : ((i + 1 : Nat) : Int) - 1 = i := by omega
    have e2 : (if (0 : Int) < (n : Int) - i then (n : Int) - i - 1 else (n : Int) - i) = (n : Int) - ((i + 1 : Nat) : Int) := by rw [if_pos (by omega)]; omega
    simp only [e1, e2]
    rfl
  · by_cases h2 : i = n
    · subst h2
      rw [if_pos (Nat.le_refl _), if_neg (by omega), if_neg h1]
      unfold St.op
      rw [if_neg (by simp), if_neg (by rw [canW]; simp), if_pos (by show ((i : Int) - i = 0); omega)]
      simp
    · rw [if_neg (by omega), if_neg (by omega), if_neg h1]
      unfold St.op
      rw [if_pos rfl]
theorem stN_fits (n i : Nat) (hn : n < 12) : (stN n i).Fits := by
  have hf : ∀ j, ∀ o ∈ opsL j, o.Fine := fun j o ho => by
    obtain ⟨k, _, rfl⟩ := List.mem_map.1 ho
    exact fineW k
  unfold stN
  split
  · refine ⟨by show (opsL i).length < _; rw [opsL_length]; omega, by show (0 : Int) ≤ (i : Int); omega, by show (i : Int) < _; omega, by show _ ≤ (n : Int) - i ∧ (n : Int) - i ≤ _; omega, ?_, by simp [Maps.size], hf _⟩
    have := fileOf_size ((i : Int) - 1)
    show Maps.size (fileOf ((i : Int) - 1)) < _; omega
  · refine ⟨by show (opsL n).length < _; rw [opsL_length]; omega, by show (0 : Int) ≤ (n : Int); omega, by show (n : Int) < _; omega, by simp, ?_, by simp [Maps.size], hf _⟩
    have := fileOf_size ((n : Int) - 1)
    show Maps.size (fileOf ((n : Int) - 1)) < _; omega
theorem stN_down (n i : Nat) : (stN n i).down = decide (n < i) := by
  unfold stN; split
  · show false = _; simp; omega
  · show true = _; simp; omega
theorem stN_n (n i : Nat) : (stN n i).n = (min n i : Nat) := by
  unfold stN; split
  · show (i : Int) = _; rw [Nat.min_eq_right (by omega)]
  · show (n : Int) = _; rw [Nat.min_eq_left (by omega)]
theorem stN_ops (n i : Nat) : (stN n i).ops = opsL (min n i) := by
  unfold stN; split
  · show opsL i = _; rw [Nat.min_eq_right (by omega)]
  · show opsL n = _; rw [Nat.min_eq_left (by omega)]
theorem stN_S (n i : Nat) : (stN n i).S = fileOf (-1) := by
  unfold stN; split <;> rfl

/-- The last write that stays; -1: none. -/
def lastK (keep : Int) : Nat → Int
  | 0 => -1
  | i + 1 => if bitB keep i = true then i else lastK keep i
theorem lastK_ge (keep : Int) : ∀ i, -1 ≤ lastK keep i
  | 0 => by simp [lastK]
  | i + 1 => by
    have := lastK_ge keep i
    unfold lastK; split <;> omega
theorem lastK_lt (keep : Int) : ∀ i : Nat, lastK keep i < i
  | 0 => by simp [lastK]
  | i + 1 => by
    have := lastK_lt keep i
    unfold lastK; split <;> omega
theorem crash_opsL (keep : Int) : ∀ j, j ≤ 64 → crashF keep 0 (opsL j) (fileOf (-1)) = fileOf (lastK keep j)
  | 0, _ => rfl
  | j + 1, h => by
    rw [opsL_succ, crashF_snoc, crash_opsL keep j (by omega), opsL_length, Nat.zero_add]
    have eL : lastK keep (j + 1) = if bitB keep j = true then (j : Int) else lastK keep j := rfl
    rw [eL]
    unfold goB
    rw [canW]
    by_cases hb : bitB keep j = true
    · rw [if_pos hb, hb]
      have : decide (j < 64) = true := by simp; omega
      rw [this]
      exact doesW _ _
    · rw [if_neg hb]
      have hb' : bitB keep j = false := Bool.eq_false_iff.2 hb
      rw [hb']
      simp
end Dk
namespace Dk
open Go Go.Proofs Go.RowKit Go.Maps

theorem tmod_bd (n : Int) : -11 ≤ n.tmod 12 ∧ n.tmod 12 ≤ 11 := by
  have h1 := Int.tmod_lt_of_pos n (show (0 : Int) < 12 by decide)
  have h2 := Int.lt_tmod_of_pos n (show (0 : Int) < 12 by decide)
  omega

/-- A disk of the call's own behind k writes. -/
def FuseAt (d N k : Nat) (W wr : World) : Prop := ∃ c, Disk d c (stN N k) wr ∧ Below W.heap.size W wr ∧ ∀ j, c.fp d j → W.heap.size ≤ j
theorem FuseAt.below {d N k : Nat} {W wr w' : World} (h : FuseAt d N k W wr) (hb : Below wr.heap.size wr w') : FuseAt d N k W w' := by
  obtain ⟨c, hD, hb0, hf⟩ := h
  exact ⟨c, hD.below hb, hb0.trans (hb.mono hb0.size), hf⟩
theorem own_step {d : Nat} {c : DC} {s' : St} {W wr w' : World} (hb0 : Below W.heap.size W wr) (hf : ∀ j, c.fp d j → W.heap.size ≤ j) (h : Stepped d c s' wr w') : ∃ c', Disk d c' s' w' ∧ Below W.heap.size W w' ∧ ∀ j, c'.fp d j → W.heap.size ≤ j := by
  obtain ⟨c', hD', hk, hg⟩ := h
  refine ⟨c', hD', ⟨hk.os.trans hb0.os, hk.tape.trans hb0.tape, hk.output.trans hb0.output, Nat.le_trans hb0.size hk.size, fun j hj => ?_⟩, fun j hj => ?_⟩
  · rw [hk.block j (Nat.lt_of_lt_of_le hj hb0.size) (fun h => by have := hf j h; omega), hb0.block j hj]
  · rcases hg j hj with h | h
    · exact hf j h
    · exact Nat.le_trans hb0.size h
theorem fuse_start {d N : Nat} {c : DC} {W w1 w2 w3 : World} (hb1 : Below W.heap.size W w1) (hb2 : Below w1.heap.size w1 w2) (hfp : ∀ k, c.fp d k → w1.heap.size ≤ k)
    (h : Stepped d c (if (⟨.map [], .map [], [], 0, -1, false⟩ : St).down = true then ⟨.map [], .map [], [], 0, -1, false⟩ else { (⟨.map [], .map [], [], 0, -1, false⟩ : St) with fuse := max (N : Int) (-1) }) w2 w3) : FuseAt d N 0 W w3 := by
  have e : (if (⟨.map [], .map [], [], 0, -1, false⟩ : St).down = true then ⟨.map [], .map [], [], 0, -1, false⟩ else { (⟨.map [], .map [], [], 0, -1, false⟩ : St) with fuse := max (N : Int) (-1) }) = stN N 0 := by
    rw [if_neg (by simp)]
    unfold stN
    rw [if_pos (Nat.zero_le _), Int.max_eq_left (by omega)]
    simp [fileOf, opsL]
  rw [e] at h
  exact own_step (hb1.trans (hb2.mono hb1.size)) (fun j hj => Nat.le_trans hb1.size (hfp j hj)) h

set_option maxRecDepth 100000 in
set_option maxHeartbeats 2000000 in
theorem write_fuse (d N k : Nat) (hN : N < 12) (hk : k < 12) (W w : World) (h : FuseAt d N k W w) :
    Calls Tryz.prog 21 #[.pointer (some ⟨d, 0, none⟩), .string fS, .string (decS k)] w fun e w' => e = .returned (.int .i64 (if k < N then 0 else 6)) ∧ FuseAt d N (k + 1) W w' := by
  obtain ⟨c, hD, hb0, hf⟩ := h
  have := write_any d c (stN N k) fS (decS k) w hD (fineW k).f (fineW k).b (stN_fits N k hN)
  have e : (stN N k).op ⟨1, fS, decS k⟩ = (stN N (k + 1), if k < N then 0 else 6) := stN_op N k
  rw [e] at this
  exact this.mono fun e w' ⟨h1, h2⟩ => ⟨h1, own_step hb0 hf h2⟩

theorem down_fuse {d N M : Nat} {W w : World} (h : FuseAt d N M W w) : Calls Tryz.prog 35 #[.pointer (some ⟨d, 0, none⟩)] w fun e w' => e = .returned (.bool (decide (N < M))) ∧ w' = w := by
  obtain ⟨c, hD, _⟩ := h
  have := down_disk d c _ w hD
  rw [stN_down] at this
  exact this
theorem ops_fuse {d N M : Nat} {W w : World} (h : FuseAt d N M W w) : Calls Tryz.prog 36 #[.pointer (some ⟨d, 0, none⟩)] w fun e w' => e = .returned (.int .i64 (min N M : Nat)) ∧ w' = w := by
  obtain ⟨c, hD, _⟩ := h
  have := ops_any d c _ w hD
  rw [stN_n] at this
  exact this
/-- A disk of the call's own behind the crash. -/
def After (d : Nat) (L : Int) (W w : World) : Prop := ∃ c n, Disk d c ⟨fileOf L, fileOf L, [], n, -1, false⟩ w ∧ Below W.heap.size W w ∧ ∀ j, c.fp d j → W.heap.size ≤ j
theorem crash_fuse (d N M : Nat) (hN : N < 12) (hM : M < 12) (keep : Int) (hk0 : 0 ≤ keep) (hk1 : keep < 18446744073709551616) (W w : World) (h : FuseAt d N M W w) :
    Calls Tryz.prog 16 #[.pointer (some ⟨d, 0, none⟩), .int .u64 keep] w fun e w' => e = .returned (.tuple #[]) ∧ After d (lastK keep (min N M)) W w' := by
  obtain ⟨c, hD, hb0, hf⟩ := h
  have := crash_any d c (stN N M) keep w hD (stN_fits N M hN) hk0 hk1
  rw [stN_ops, stN_S, crash_opsL keep _ (by omega)] at this
  refine this.mono fun e w' ⟨h1, h2⟩ => ⟨h1, ?_⟩
  obtain ⟨c', hD', hb', hf'⟩ := own_step hb0 hf h2
  exact ⟨c', _, hD', hb', hf'⟩
theorem sd_inj {x y : ByteArray} (h : sd x = sd y) : x = y := by
  unfold sd at h
  simp only [DataW.lit.injEq, Lit.string.injEq] at h
  cases x; cases y
  simpa [Array.toList_inj] using h
theorem sizeF : fS.size ≤ maxLen := by show (1 : Nat) ≤ maxLen; unfold maxLen; omega
theorem read_yes {d : Nat} {L : Int} (hL : 0 ≤ L) {W w : World} (h : After d L W w) :
    Calls Tryz.prog 32 #[.pointer (some ⟨d, 0, none⟩), .string fS] w fun e w' => e = .returned (.tuple #[.string (decS L), .int .i64 0]) ∧ w' = w := by
  obtain ⟨c, n, hD, _⟩ := h
  refine (read_any d c _ fS w hD sizeF).mono fun e w' ⟨x, h1, h2, _, h4⟩ => ⟨?_, h4⟩
  have e1 : St.read ⟨fileOf L, fileOf L, [], n, -1, false⟩ fS = (sd (decS L), 0) := by
    unfold St.read; rw [if_neg (by simp), if_pos (fileOf_has hL)]; rw [fileOf_txt hL]
  rw [e1] at h1 h2
  rw [h1, sd_inj h2]
theorem read_no {d : Nat} {L : Int} (hL : L < 0) {W w : World} (h : After d L W w) :
    Calls Tryz.prog 32 #[.pointer (some ⟨d, 0, none⟩), .string fS] w fun e w' => e = .returned (.tuple #[.string ⟨#[]⟩, .int .i64 4]) ∧ w' = w := by
  obtain ⟨c, n, hD, _⟩ := h
  refine (read_any d c _ fS w hD sizeF).mono fun e w' ⟨x, h1, h2, _, h4⟩ => ⟨?_, h4⟩
  have e1 : St.read ⟨fileOf L, fileOf L, [], n, -1, false⟩ fS = (sd ⟨#[]⟩, 4) := by
    unfold St.read; rw [if_neg (by simp), if_neg (by rw [fileOf_hasn hL]; simp)]; rfl
  rw [e1] at h1 h2
  rw [h1, sd_inj h2]
theorem down_after {d : Nat} {L : Int} {W w : World} (h : After d L W w) : Calls Tryz.prog 35 #[.pointer (some ⟨d, 0, none⟩)] w fun e w' => e = .returned (.bool false) ∧ w' = w := by
  obtain ⟨c, n, hD, _⟩ := h
  exact down_disk d c _ w hD
theorem After.below' {d : Nat} {L : Int} {W w w' : World} (h : After d L W w) (hb : Below w.heap.size w w') : After d L W w' := by
  obtain ⟨c, n, hD, hb0, hf⟩ := h
  exact ⟨c, n, hD.below hb, hb0.trans (hb.mono hb0.size), hf⟩
theorem lastK_yes {keep : Int} {j : Nat} (h : bitB keep j = true) : lastK keep (j + 1) = j := by
  show (if bitB keep j = true then (j : Int) else lastK keep j) = _; rw [if_pos h]
theorem lastK_no {keep : Int} {j : Nat} (h : ¬ bitB keep j = true) : lastK keep (j + 1) = lastK keep j := by
  show (if bitB keep j = true then (j : Int) else lastK keep j) = _; rw [if_neg h]
theorem After.below {d : Nat} {L : Int} {W w : World} (h : After d L W w) : Below W.heap.size W w := by
  obtain ⟨c, n, _, hb, _⟩ := h; exact hb

set_option maxRecDepth 100000 in
set_option maxHeartbeats 2000000 in
theorem fuse_law (n m keep : Int) (hk0 : 0 ≤ keep) (hk1 : keep < 18446744073709551616) (W : World)
    (hB : Calls Tryz.prog 8 #[] W fun e w' => e = .returned (.bool true) ∧ Below W.heap.size W w') :
    Calls Tryz.prog 7 #[.int .i64 n, .int .i64 m, .int .u64 keep] W fun e w' => e = .returned (.bool true) ∧ Below W.heap.size W w' := by
  obtain ⟨n0, n1⟩ := tmod_bd n
  obtain ⟨m0, m1⟩ := tmod_bd m
  obtain ⟨N, eN⟩ := Int.eq_ofNat_of_zero_le (show 0 ≤ (n.tmod 12 + 12) % 12 by omega)
  obtain ⟨M, eM⟩ := Int.eq_ofNat_of_zero_le (show 0 ≤ (m.tmod 12 + 12) % 12 by omega)
  have hN : N < 12 := by omega
  have hM : M < 12 := by omega
  go_enter Tryz.func7, Tryz.ntmps7
  go_wp2_with (first
    | (go_at_call 8; refine hB.mono ?_; rintro e w1 ⟨rfl, hb1⟩)
    | (go_at_call 10; refine (new_any _).mono ?_; rintro e w2 ⟨d, c, rfl, hD, hb2, hfp⟩)
    | (go_at_call 29; refine (fuse_any d c _ (N : Int) _ hD).mono ?_; rintro e w3 ⟨rfl, hst⟩)
    | fail)
  clear eN eM n0 n1 m0 m1
  have h0 := fuse_start hb1 hb2 hfp hst
  clear hst hfp hb2 hb1 hD
  go_loopw [9] (fun i wr => ∃ k : Nat, k ≤ M ∧ i = .int .i64 k ∧ FuseAt d N k W wr) (fun i _ => M - (intOf i).toNat)
  case atStart => exact ⟨0, Nat.zero_le _, rfl, h0⟩
  case round =>
    obtain ⟨k, hk, rfl, hF⟩ := hrel
    clear h0
    by_cases hlt : k < M
    · by_cases hkN : k < N
      · go_wp2_with (first
          | (go_at_call 14; refine (dec_any (k : Int) _ (by omega) (by omega)).mono ?_; rintro e w4 ⟨rfl, hb4⟩)
          | (go_at_call 21; refine (write_fuse d N k hN (by omega) W _ (hF.below hb4)).mono ?_; rw [if_pos hkN]; rintro e w5 ⟨rfl, hF5⟩)
          | fail)
        go_roundw
        case rel => exact ⟨k + 1, by omega, by go_num, hF5⟩
        case measure => simp [intOf]; omega
      · go_wp2_with (first
          | (go_at_call 14; refine (dec_any (k : Int) _ (by omega) (by omega)).mono ?_; rintro e w4 ⟨rfl, hb4⟩)
          | (go_at_call 21; refine (write_fuse d N k hN (by omega) W _ (hF.below hb4)).mono ?_; rw [if_neg hkN]; rintro e w5 ⟨rfl, hF5⟩)
          | fail)
        go_roundw
        case rel => exact ⟨k + 1, by omega, by go_num, hF5⟩
        case measure => simp [intOf]; omega
    · obtain rfl : k = M := by omega
      rcases Nat.lt_trichotomy N k with hNM | hNM | hNM
      · have hd := down_fuse hF
        have ho := ops_fuse hF
        have hc := crash_fuse d N k hN hM keep hk0 hk1 W _ hF
        rw [Nat.min_eq_left (Nat.le_of_lt hNM)] at ho hc
        rw [decide_eq_true hNM] at hd
        have hlt := lastK_lt keep N
        have hge := lastK_ge keep N
        by_cases hL : 0 ≤ lastK keep N
        · go_wp2_with (first
            | (go_at_call 35; refine hd.mono ?_; rintro e w' ⟨rfl, rfl⟩)
            | (go_at_call 36; refine ho.mono ?_; rintro e w' ⟨rfl, rfl⟩)
            | (go_at_call 16; refine hc.mono ?_; rintro e w6 ⟨rfl, hA⟩)
            | (go_at_call 32; refine (read_yes hL hA).mono ?_; rintro e w' ⟨rfl, rfl⟩)
            | fail)
          clear hd ho hc hF
          go_loop [12, 13] (fun l i => ∃ j : Nat, j ≤ N ∧ i = .int .i64 j ∧ l = .int .i64 (lastK keep j)) (fun _ i => N - (intOf i).toNat)
          case atStart => exact ⟨0, Nat.zero_le _, rfl, rfl⟩
          case round =>
            obtain ⟨j, hj, rfl, rfl⟩ := hrel
            by_cases hjl : j < N
            · by_cases hbt : bitB keep j = true
              · have hbit : (Go.bits BinOp.and IntKind.u64 (keep / 2 ^ j) 1 == 1) = true := hbt
                have hS := lastK_yes hbt
                go_wp2
                go_round
                case rel => exact ⟨j + 1, by omega, by go_num, by rw [hS]⟩
                case measure => simp [intOf]; omega
              · have hbit : (Go.bits BinOp.and IntKind.u64 (keep / 2 ^ j) 1 == 1) = false := bitB_false hbt
                have hS := lastK_no hbt
                go_wp2
                go_round
                case rel => exact ⟨j + 1, by omega, by go_num, by rw [hS]⟩
                case measure => simp [intOf]; omega
            · obtain rfl : j = N := by omega
              go_wp2_with (first
                | (go_at_call 14; refine (dec_any (lastK keep j) _ hL (by omega)).mono ?_; rintro e w7 ⟨rfl, hb7⟩)
                | (go_at_call 35; refine (down_after (hA.below' hb7)).mono ?_; rintro e w' ⟨rfl, rfl⟩)
                | fail)
              go_ret
              exact ⟨rfl, (hA.below' hb7).below⟩
        · have hLn : lastK keep N < 0 := by omega
          go_wp2_with (first
            | (go_at_call 35; refine hd.mono ?_; rintro e w' ⟨rfl, rfl⟩)
            | (go_at_call 36; refine ho.mono ?_; rintro e w' ⟨rfl, rfl⟩)
            | (go_at_call 16; refine hc.mono ?_; rintro e w6 ⟨rfl, hA⟩)
            | (go_at_call 32; refine (read_no (show lastK keep N < 0 by omega) hA).mono ?_; rintro e w' ⟨rfl, rfl⟩)
            | fail)
          clear hd ho hc hF
          go_loop [12, 13] (fun l i => ∃ j : Nat, j ≤ N ∧ i = .int .i64 j ∧ l = .int .i64 (lastK keep j)) (fun _ i => N - (intOf i).toNat)
          case atStart => exact ⟨0, Nat.zero_le _, rfl, rfl⟩
          case round =>
            obtain ⟨j, hj, rfl, rfl⟩ := hrel
            by_cases hjl : j < N
            · by_cases hbt : bitB keep j = true
              · have hbit : (Go.bits BinOp.and IntKind.u64 (keep / 2 ^ j) 1 == 1) = true := hbt
                have hS := lastK_yes hbt
                go_wp2
                go_round
                case rel => exact ⟨j + 1, by omega, by go_num, by rw [hS]⟩
                case measure => simp [intOf]; omega
              · have hbit : (Go.bits BinOp.and IntKind.u64 (keep / 2 ^ j) 1 == 1) = false := bitB_false hbt
                have hS := lastK_no hbt
                go_wp2
                go_round
                case rel => exact ⟨j + 1, by omega, by go_num, by rw [hS]⟩
                case measure => simp [intOf]; omega
            · obtain rfl : j = N := by omega
              go_wp2_with (first
                | (go_at_call 35; refine (down_after hA).mono ?_; rintro e w' ⟨rfl, rfl⟩)
                | fail)
              go_ret
              exact ⟨rfl, hA.below⟩
      · subst hNM
        have hd := down_fuse hF
        have ho := ops_fuse hF
        have hc := crash_fuse d N N hN hM keep hk0 hk1 W _ hF
        rw [Nat.min_self] at ho hc
        rw [decide_eq_false (Nat.lt_irrefl _)] at hd
        have hlt := lastK_lt keep N
        have hge := lastK_ge keep N
        by_cases hL : 0 ≤ lastK keep N
        · go_wp2_with (first
            | (go_at_call 35; refine hd.mono ?_; rintro e w' ⟨rfl, rfl⟩)
            | (go_at_call 36; refine ho.mono ?_; rintro e w' ⟨rfl, rfl⟩)
            | (go_at_call 16; refine hc.mono ?_; rintro e w6 ⟨rfl, hA⟩)
            | (go_at_call 32; refine (read_yes hL hA).mono ?_; rintro e w' ⟨rfl, rfl⟩)
            | fail)
          clear hd ho hc hF
          go_loop [12, 13] (fun l i => ∃ j : Nat, j ≤ N ∧ i = .int .i64 j ∧ l = .int .i64 (lastK keep j)) (fun _ i => N - (intOf i).toNat)
          case atStart => exact ⟨0, Nat.zero_le _, rfl, rfl⟩
          case round =>
            obtain ⟨j, hj, rfl, rfl⟩ := hrel
            by_cases hjl : j < N
            · by_cases hbt : bitB keep j = true
              · have hbit : (Go.bits BinOp.and IntKind.u64 (keep / 2 ^ j) 1 == 1) = true := hbt
                have hS := lastK_yes hbt
                go_wp2
                go_round
                case rel => exact ⟨j + 1, by omega, by go_num, by rw [hS]⟩
                case measure => simp [intOf]; omega
              · have hbit : (Go.bits BinOp.and IntKind.u64 (keep / 2 ^ j) 1 == 1) = false := bitB_false hbt
                have hS := lastK_no hbt
                go_wp2
                go_round
                case rel => exact ⟨j + 1, by omega, by go_num, by rw [hS]⟩
                case measure => simp [intOf]; omega
            · obtain rfl : j = N := by omega
              go_wp2_with (first
                | (go_at_call 14; refine (dec_any (lastK keep j) _ hL (by omega)).mono ?_; rintro e w7 ⟨rfl, hb7⟩)
                | (go_at_call 35; refine (down_after (hA.below' hb7)).mono ?_; rintro e w' ⟨rfl, rfl⟩)
                | fail)
              go_ret
              exact ⟨rfl, (hA.below' hb7).below⟩
        · have hLn : lastK keep N < 0 := by omega
          go_wp2_with (first
            | (go_at_call 35; refine hd.mono ?_; rintro e w' ⟨rfl, rfl⟩)
            | (go_at_call 36; refine ho.mono ?_; rintro e w' ⟨rfl, rfl⟩)
            | (go_at_call 16; refine hc.mono ?_; rintro e w6 ⟨rfl, hA⟩)
            | (go_at_call 32; refine (read_no (show lastK keep N < 0 by omega) hA).mono ?_; rintro e w' ⟨rfl, rfl⟩)
            | fail)
          clear hd ho hc hF
          go_loop [12, 13] (fun l i => ∃ j : Nat, j ≤ N ∧ i = .int .i64 j ∧ l = .int .i64 (lastK keep j)) (fun _ i => N - (intOf i).toNat)
          case atStart => exact ⟨0, Nat.zero_le _, rfl, rfl⟩
          case round =>
            obtain ⟨j, hj, rfl, rfl⟩ := hrel
            by_cases hjl : j < N
            · by_cases hbt : bitB keep j = true
              · have hbit : (Go.bits BinOp.and IntKind.u64 (keep / 2 ^ j) 1 == 1) = true := hbt
                have hS := lastK_yes hbt
                go_wp2
                go_round
                case rel => exact ⟨j + 1, by omega, by go_num, by rw [hS]⟩
                case measure => simp [intOf]; omega
              · have hbit : (Go.bits BinOp.and IntKind.u64 (keep / 2 ^ j) 1 == 1) = false := bitB_false hbt
                have hS := lastK_no hbt
                go_wp2
                go_round
                case rel => exact ⟨j + 1, by omega, by go_num, by rw [hS]⟩
                case measure => simp [intOf]; omega
            · obtain rfl : j = N := by omega
              go_wp2_with (first
                | (go_at_call 35; refine (down_after hA).mono ?_; rintro e w' ⟨rfl, rfl⟩)
                | fail)
              go_ret
              exact ⟨rfl, hA.below⟩
      · have hKN : ¬ N < k := by omega
        have hd := down_fuse hF
        have ho := ops_fuse hF
        have hc := crash_fuse d N k hN hM keep hk0 hk1 W _ hF
        rw [Nat.min_eq_right (Nat.le_of_lt hNM)] at ho hc
        rw [decide_eq_false hKN] at hd
        have hlt := lastK_lt keep k
        have hge := lastK_ge keep k
        by_cases hL : 0 ≤ lastK keep k
        · go_wp2_with (first
            | (go_at_call 35; refine hd.mono ?_; rintro e w' ⟨rfl, rfl⟩)
            | (go_at_call 36; refine ho.mono ?_; rintro e w' ⟨rfl, rfl⟩)
            | (go_at_call 16; refine hc.mono ?_; rintro e w6 ⟨rfl, hA⟩)
            | (go_at_call 32; refine (read_yes hL hA).mono ?_; rintro e w' ⟨rfl, rfl⟩)
            | fail)
          clear hd ho hc hF
          go_loop [12, 13] (fun l i => ∃ j : Nat, j ≤ k ∧ i = .int .i64 j ∧ l = .int .i64 (lastK keep j)) (fun _ i => k - (intOf i).toNat)
          case atStart => exact ⟨0, Nat.zero_le _, rfl, rfl⟩
          case round =>
            obtain ⟨j, hj, rfl, rfl⟩ := hrel
            by_cases hjl : j < k
            · by_cases hbt : bitB keep j = true
              · have hbit : (Go.bits BinOp.and IntKind.u64 (keep / 2 ^ j) 1 == 1) = true := hbt
                have hS := lastK_yes hbt
                go_wp2
                go_round
                case rel => exact ⟨j + 1, by omega, by go_num, by rw [hS]⟩
                case measure => simp [intOf]; omega
              · have hbit : (Go.bits BinOp.and IntKind.u64 (keep / 2 ^ j) 1 == 1) = false := bitB_false hbt
                have hS := lastK_no hbt
                go_wp2
                go_round
                case rel => exact ⟨j + 1, by omega, by go_num, by rw [hS]⟩
                case measure => simp [intOf]; omega
            · obtain rfl : j = k := by omega
              go_wp2_with (first
                | (go_at_call 14; refine (dec_any (lastK keep j) _ hL (by omega)).mono ?_; rintro e w7 ⟨rfl, hb7⟩)
                | (go_at_call 35; refine (down_after (hA.below' hb7)).mono ?_; rintro e w' ⟨rfl, rfl⟩)
                | fail)
              go_ret
              exact ⟨rfl, (hA.below' hb7).below⟩
        · have hLn : lastK keep k < 0 := by omega
          go_wp2_with (first
            | (go_at_call 35; refine hd.mono ?_; rintro e w' ⟨rfl, rfl⟩)
            | (go_at_call 36; refine ho.mono ?_; rintro e w' ⟨rfl, rfl⟩)
            | (go_at_call 16; refine hc.mono ?_; rintro e w6 ⟨rfl, hA⟩)
            | (go_at_call 32; refine (read_no (show lastK keep k < 0 by omega) hA).mono ?_; rintro e w' ⟨rfl, rfl⟩)
            | fail)
          clear hd ho hc hF
          go_loop [12, 13] (fun l i => ∃ j : Nat, j ≤ k ∧ i = .int .i64 j ∧ l = .int .i64 (lastK keep j)) (fun _ i => k - (intOf i).toNat)
          case atStart => exact ⟨0, Nat.zero_le _, rfl, rfl⟩
          case round =>
            obtain ⟨j, hj, rfl, rfl⟩ := hrel
            by_cases hjl : j < k
            · by_cases hbt : bitB keep j = true
              · have hbit : (Go.bits BinOp.and IntKind.u64 (keep / 2 ^ j) 1 == 1) = true := hbt
                have hS := lastK_yes hbt
                go_wp2
                go_round
                case rel => exact ⟨j + 1, by omega, by go_num, by rw [hS]⟩
                case measure => simp [intOf]; omega
              · have hbit : (Go.bits BinOp.and IntKind.u64 (keep / 2 ^ j) 1 == 1) = false := bitB_false hbt
                have hS := lastK_no hbt
                go_wp2
                go_round
                case rel => exact ⟨j + 1, by omega, by go_num, by rw [hS]⟩
                case measure => simp [intOf]; omega
            · obtain rfl : j = k := by omega
              go_wp2_with (first
                | (go_at_call 35; refine (down_after hA).mono ?_; rintro e w' ⟨rfl, rfl⟩)
                | fail)
              go_ret
              exact ⟨rfl, hA.below⟩
end Dk
