/- The names on the disk in order, and the comparison of both disks, walked; the conditions stand in each statement. -/
import Derived.Test.YtiikdbnblacbhaaGreatDoorRf
import Derived.Test.YtiikdbnblacbhaaGreatDoorKeyd
set_option linter.unusedVariables false
set_option linter.unusedSimpArgs false
set_option linter.unusedSectionVars false
namespace Dk
open Go Go.Proofs Go.RowKit Go.Maps Go.Sort

theorem Disk.drewN {d : Nat} {c : DC} {s : St} {w : World} (h : Disk d c s w) (n : Nat) : Disk d c s (w.drewN n) :=
  h.below ⟨rfl, rfl, rfl, Nat.le_refl _, fun _ _ => rfl⟩
set_option maxRecDepth 100000 in
theorem keys_any (b : Nat) (w : World) :
    Calls Tryz.prog 80 #[.map (some b)] w fun e w' => e = .returned (.func (.func 136) #[] #[.pointer (some ⟨w.heap.size, 0, none⟩)]) ∧ w' = w.alloc (.cells #[.map (some b)] 77) := by
  go_enter Tryz.func80, Tryz.ntmps80
  go_wp2
  go_ret
  exact ⟨rfl, rfl⟩

def nmF (p : Fl) : List UInt8 := p.1.data.toList
theorem keys_dm (l : List Fl) : strKeys (dm l) = l.map nmF := by
  simp [strKeys, dm, ent, strOf, kl, nmF]
theorem lt_le {x y : List UInt8} (h : Op.bytesLess x y = true) : x ≤ y := by
  have key : ∀ (x y : List UInt8), Op.bytesLess x y = decide (x < y) := by
    intro x
    induction x with
    | nil => intro y; cases y <;> simp [Op.bytesLess]
    | cons a x ih =>
      intro y
      cases y with
      | nil => simp [Op.bytesLess]
      | cons b y =>
        rw [Op.bytesLess, ih y]
        simp only [List.cons_lt_cons_iff]
        by_cases h1 : a < b <;> by_cases h2 : a = b <;> by_cases h3 : x < y <;> simp [h1, h2, h3]
  rw [key] at h
  exact List.le_of_lt (by simpa using h)
theorem sorted_dm {l : List Fl} (h : Srt l) {ss : List (List UInt8)} (hp : ss.Perm (strKeys (dm l))) : ss.mergeSort (fun x y => decide (x ≤ y)) = l.map nmF := by
  rw [keys_dm] at hp
  have e : ss.mergeSort leB = (l.map nmF).mergeSort leB := mergeSort_of_perm hp
  rw [List.mergeSort_of_pairwise (l := l.map nmF)] at e
  · exact e
  · refine List.pairwise_map.2 (h.imp fun {p q} hpq => ?_)
    unfold ltB at hpq
    rw [ByteArray.toList_eq, ByteArray.toList_eq] at hpq
    have := lt_le hpq
    simpa [leB, nmF] using this
/-- A slice of names. -/
def SL (v : Value) (l : List Fl) (w : World) : Prop := ∃ B, w.ownsRow B 9 1 v l.length (l.map fun p => .string p.1)
theorem enc_nm (l : List Fl) : (l.map nmF).map Go.Proofs.encStr = l.map fun p => Value.string p.1 := by
  rw [List.map_map]
  refine List.map_congr_left fun p _ => ?_
  show Value.string ⟨p.1.data.toList.toArray⟩ = Value.string p.1
  simp
theorem SL.form {v : Value} {l : List Fl} {w : World} (h : SL v l w) : ∃ ao cap, v = .slice ao l.length cap ∧ (l.length = 0 ∨ ∃ g, ao = some ⟨g, 0, none⟩) := by
  obtain ⟨B, h⟩ := h
  rcases h.2 with ⟨hv, h0⟩ | ⟨g, cap, cur, hv, _⟩
  · exact ⟨none, 0, by rw [h0]; exact hv, .inl h0⟩
  · exact ⟨_, cap, hv, .inr ⟨g, rfl⟩⟩
theorem SL.name {g n cap : Nat} {l : List Fl} {w : World} (h : SL (.slice (some ⟨g, 0, none⟩) n cap) l w) (k : Nat) (hk : k < l.length) : w.cell? ⟨g, k, none⟩ = some (.string l[k].1) := by
  obtain ⟨B, h⟩ := h
  rcases h.2 with ⟨hv, _⟩ | ⟨g', cap', cur, hv, _, hg, hle, _, hcs, htake⟩
  · cases hv
  · simp only [Value.slice.injEq, Option.some.injEq, Addr.mk.injEq, and_true] at hv
    obtain ⟨rfl, _, _⟩ := hv
    have e : cur[k]? = some (Value.string l[k].1) := by
      have : (cur.toList.take (l.length * 1))[k]? = some (Value.string l[k].1) := by rw [htake]; simp [hk]
      rw [List.getElem?_take_of_lt (by omega)] at this
      simpa using this
    rw [Lib.cell_of_heap hg]; exact e
theorem SL.nil (w : World) : SL (.slice none 0 0) [] w := ⟨0, rfl, .inl ⟨rfl, rfl⟩⟩
theorem SL.drewN {v : Value} {l : List Fl} {w : World} (h : SL v l w) (n : Nat) : SL v l (w.drewN n) := h

set_option maxRecDepth 100000 in
theorem files_any (d : Nat) (c : DC) (s : St) (r : RS) (w : World) (hD : Disk d c s w) (hs : Sim s r) :
    Calls Tryz.prog 41 #[.pointer (some ⟨d, 0, none⟩)] w fun e w' => ∃ v, e = .returned v ∧ SL v (if r.down = true then [] else r.L) w' ∧ Below w.heap.size w w' := by
  have hA := hD.is.at_
  have hdn := hD.down.trans hs.down
  by_cases h1 : r.down = true
  · rw [if_pos h1]
    rw [h1] at hdn
    go_enter Tryz.func41, Tryz.ntmps41
    go_wp2_with (first | (go_at_call 35; refine (down_any c d _ hA).mono ?_; rw [hdn]; rintro e w' ⟨rfl, rfl⟩) | fail)
    go_ret
    exact ⟨_, rfl, SL.nil _, Below.refl _ _⟩
  · have h1' : r.down = false := by simpa using h1
    rw [if_neg h1]
    rw [h1'] at hdn
    have c0 := hA.c0
    have hown : (w.alloc (.cells #[.map (some c.F)] 77)).ownsMap Tryz.prog TS (plainElem Tryz.prog TS) c.F _ s.F := World.ownsMap.alloc hD.is.files _
    have hb := Deep.blk_alloc_new w (.cells #[.map (some c.F)] 77)
    have hlt := (Array.getElem?_eq_some_iff.1 hb).1
    have hbl : Below w.heap.size w (w.alloc (.cells #[.map (some c.F)] 77)) := (Below.refl _ _).alloc (Nat.le_refl _) _
    have hsz : Maps.size s.F ≤ 100 := by rw [hs.F, size_dm]; exact hs.lenL
    have hsk := Tz.sorted_keys w.heap.size 0 c.F _ s.F (w.alloc (.cells #[.map (some c.F)] 77)) hlt (by rw [Lib.cell_of_heap hb]; rfl) hown (by unfold maxLen; omega) (by omega)
    clear h1 h1' hown hb hlt
    go_enter Tryz.func41, Tryz.ntmps41
    go_wp2_with (first
      | (go_at_call 35; refine (down_any c d _ hA).mono ?_; rw [hdn]; rintro e w' ⟨rfl, rfl⟩)
      | (go_at_call 80; refine (keys_any c.F _).mono ?_; rintro e w' ⟨rfl, rfl⟩)
      | (go_at_call 79; refine hsk.mono ?_; rintro e w' ⟨v, ss, rfl, hp, hrow, hnil, hb2⟩)
      | fail)
    go_ret
    rw [hs.F] at hp
    rw [sorted_dm hs.srtL hp, enc_nm] at hrow
    have hl : ss.length = r.L.length := by rw [hp.length_eq, keys_dm, List.length_map]
    rw [hl] at hrow
    exact ⟨_, rfl, ⟨_, hrow⟩, hbl.trans (hb2.mono hbl.size)⟩

theorem at_self : ∀ {l : List Fl} (_ : Srt l) (k : Nat) (hk : k < l.length), atN l l[k].1 = k
  | [], _, k, hk => by simp at hk
  | p :: l, h, 0, _ => by
    show atN (p :: l) p.1 = 0
    rw [atN, if_neg (by rw [ltB_irrefl]; simp)]
  | p :: l, h, k + 1, hk => by
    obtain ⟨h1, h2⟩ := List.pairwise_cons.1 h
    have hk' : k < l.length := by simpa using hk
    show atN (p :: l) l[k].1 = k + 1
    rw [atN, if_pos (h1 _ (List.getElem_mem hk')), at_self h2 k hk']
theorem read_self {l : List Fl} (h : Srt l) (k : Nat) (hk : k < l.length) : rreadF false l l[k].1 = (l[k].2, 0) := by
  have ha := at_self h k hk
  have ho : okF l l[k].1 = true := by rw [okF_at hk ha.symm]; simp
  have hg : getF l l[k].1 = l[k].2 := by
    unfold getF
    rw [ha, List.getElem?_eq_getElem hk]
  unfold rreadF
  rw [if_neg (by simp), if_pos ho, hg]
theorem name_fits {w : World} {b n : Nat} {l : List Fl} (h : Files w b n (dm l)) (k : Nat) (hk : k < l.length) : l[k].1.size ≤ maxLen := by
  obtain ⟨es, he, hall⟩ := World.ownsMap.keysOf h
  have he' : l.map ent = es := DataW.map.inj he
  obtain ⟨v, hv⟩ := hall (ent l[k]) (by rw [← he']; exact List.mem_map.2 ⟨_, List.getElem_mem hk, rfl⟩)
  obtain ⟨x, _, hx, hl⟩ := Maps.keyOf_str Tryz.underlying9 hv
  have e : l[k].1.data.toList = x := by
    have : kl l[k].1 = .string x := hx
    simpa [kl] using this
  rw [← e] at hl
  simpa using hl
theorem sd_inj' {x y : ByteArray} (h : sd x = sd y) : x = y := by
  unfold sd at h
  simp only [DataW.lit.injEq, Lit.string.injEq] at h
  exact WideShapes.bytes_inj h
theorem read_file (d : Nat) (c : DC) (s : St) (r : RS) (w : World) (hD : Disk d c s w) (hs : Sim s r) (hd : r.down = false) (k : Nat) (hk : k < r.L.length) :
    Calls Tryz.prog 32 #[.pointer (some ⟨d, 0, none⟩), .string r.L[k].1] w fun e w' => e = .returned (.tuple #[.string r.L[k].2, .int .i64 0]) ∧ w' = w := by
  have hF := hD.is.files
  rw [hs.F] at hF
  refine (read_any d c s _ w hD (name_fits hF k hk)).mono ?_
  rintro e w' ⟨x, rfl, hx, _, rfl⟩
  have e := sim_read hs r.L[k].1
  rw [hd, read_self hs.srtL k hk] at e
  rw [e] at hx ⊢
  have hx' : sd r.L[k].2 = sd x := hx
  exact ⟨by rw [sd_inj' hx'], rfl⟩
end Dk
namespace Dk
open Go Go.Proofs Go.RowKit Go.Maps

set_option maxRecDepth 100000 in
set_option maxHeartbeats 4000000 in
theorem same_any (d dr : Nat) (c : DC) (cr : RC) (s : St) (r : RS) (w : World) (hD : Disk d c s w) (hR : RDisk dr cr r w) (hs : Sim s r) :
    Calls Tryz.prog 34 #[.pointer (some ⟨d, 0, none⟩), .pointer (some ⟨dr, 0, none⟩)] w fun e w' => e = .returned (.bool true) ∧ Below w.heap.size w w' := by
  have hfiles := files_any d c s r w hD hs
  have HS := Lib.hid hs
  by_cases h1 : r.down = true
  · rw [if_pos h1] at hfiles
    go_enter Tryz.func34, Tryz.ntmps34
    go_wp2_with (first
      | (go_at_call 41; refine hfiles.mono ?_; rintro e w1 ⟨v, rfl, hSL, hb1⟩)
      | fail)
    have hD1 := hD.below hb1
    have hR1 := hR.below hb1
    have hdn : s.down = true := hs.down.trans h1
    have c5 := hR1.at_.c5
    have c4 := hR1.at_.c4
    rw [hR1.down, h1] at c5
    rw [hR1.n, ← hs.n] at c4
    obtain ⟨ao, cap, rfl, _⟩ := hSL.form
    clear hs hfiles hR hD
    simp only [List.length_nil] at *
    go_quiet (first
      | (go_at_call 35; refine Calls.quiet_of_same (v := .bool true) ?_; rw [← hdn]; exact down_disk d c s _ (hD1.drewN _))
      | (go_at_call 36; exact Calls.quiet_of_same (ops_any d c s _ (hD1.drewN _))))
    go_wp2
    go_loopw [57] (fun i wr => i = .int .i64 0 ∧ Below w.heap.size w wr) (fun i _ => 0)
    case atStart => exact ⟨rfl, hb1.drewN_⟩
    case round =>
      obtain ⟨rfl, hB⟩ := hrel
      go_wp2
      go_ret
      exact ⟨rfl, hB⟩
  · have h1' : r.down = false := by simpa using h1
    rw [if_neg h1] at hfiles
    go_enter Tryz.func34, Tryz.ntmps34
    go_wp2_with (first
      | (go_at_call 41; refine hfiles.mono ?_; rintro e w1 ⟨v, rfl, hSL, hb1⟩)
      | fail)
    have hD1 := hD.below hb1
    have hR1 := hR.below hb1
    have hdn : s.down = false := hs.down.trans h1'
    have c5 := hR1.at_.c5
    have c4 := hR1.at_.c4
    have c2 := hR1.at_.c2
    rw [hR1.down, h1'] at c5
    rw [hR1.n, ← hs.n] at c4
    obtain ⟨ao, cap, rfl, hao⟩ := hSL.form
    obtain ⟨aL, capL, eL, haL⟩ := hR1.L.form
    rw [eL] at c2
    have hFL := hR1.L
    rw [eL] at hFL
    have HAO := Lib.hid hao
    have HAL := Lib.hid haL
    have hlen := hs.lenL
    clear hs hfiles hR hD hao haL eL
    go_quiet (first
      | (go_at_call 35; refine Calls.quiet_of_same (v := .bool false) ?_; rw [← hdn]; exact down_disk d c s _ (hD1.drewN _))
      | (go_at_call 36; exact Calls.quiet_of_same (ops_any d c s _ (hD1.drewN _))))
    go_wp2
    go_loopw [57] (fun i wr => ∃ k n : Nat, k ≤ r.L.length ∧ i = .int .i64 k ∧ wr = w1.drewN n) (fun i _ => r.L.length - (RowKit.intOf i).toNat)
    case atStart => exact ⟨0, nq, Nat.zero_le _, rfl, rfl⟩
    case round =>
      obtain ⟨k, n, hk, rfl, rfl⟩ := hrel
      by_cases hlt : k < r.L.length
      · obtain ⟨g, rfl⟩ : ∃ g, ao = some ⟨g, 0, none⟩ := HAO.out.resolve_left (by omega)
        obtain ⟨gL, rfl⟩ : ∃ g, aL = some ⟨g, 0, none⟩ := HAL.out.resolve_left (by omega)
        have e0' : w1.cell? ⟨g, k, none⟩ = some (.string r.L[k].1) := hSL.name k hlt
        have e0 : (w1.drewN n).cell? ⟨g, k, none⟩ = some (.string r.L[k].1) := hSL.name k hlt
        obtain ⟨e1', e2'⟩ := hFL.file k hlt
        have e1 : (w1.drewN n).cell? ⟨gL, k * 2, none⟩ = some (.string r.L[k].1) := e1'
        have e2 : (w1.drewN n).cell? ⟨gL, k * 2 + 1, none⟩ = some (.string r.L[k].2) := e2'
        have c2' : (w1.drewN n).cell? ⟨dr, 2, none⟩ = some (.slice (some ⟨gL, 0, none⟩) r.L.length capL) := c2
        have hread := read_file d c s r (w1.drewN n) (hD1.drewN n) HS.out h1' k hlt
        have q1 : (r.L[k].1.toList == r.L[k].1.toList) = true := beq_self_eq_true _
        have q2 : (r.L[k].2.toList == r.L[k].2.toList) = true := beq_self_eq_true _
        clear c4 c5
        generalize r.L[k] = p at *
        go_wp2_with (first
          | (go_at_call 32; refine hread.mono ?_; rintro e w2 ⟨rfl, rfl⟩)
          | fail)
        go_quiet (fail)
        go_wp2
        go_roundw
        case rel => exact ⟨k + 1, n + nq, by omega, by go_num, by first | rfl | rw [World.drewN_drewN]⟩
        case measure => simp [RowKit.intOf]; omega
      · obtain rfl : k = r.L.length := by omega
        go_wp2
        go_ret
        exact ⟨rfl, hb1.drewN_⟩
end Dk
