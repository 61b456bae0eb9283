/- Names are compared, sorted, cloned; the conditions stand in each statement. -/
import Derived.Test.YtdimdhloklnkmaaGreatDoorAxG
import Derived.WalkKit
import Derived.KernelRfl
import Derived.Deep.QuietTactic
import Derived.BigQuiet
import Derived.Lib.Bytealg
import Derived.Test.YtdimdhloklnkmaaGreatDoorProg
import Derived.Test.YtdimdhloklnkmaaGreatDoorOra
set_option linter.unusedVariables false
set_option linter.unusedSimpArgs false
set_option linter.unusedSectionVars false
namespace Tz
open Go Go.Proofs Go.RowKit Ax

theorem load_byte {P : Program} {w : World} {p : Addr} {k : IntKind} {n : Int} (h : w.cell? p = some (.int k n)) : (load p).run P w = .ok (.int k n) w := by
  simp [load, Sem.run, h]
theorem loadBytes_ok {P : Program} {w : World} {b : Nat} : ∀ (l : List Nat) (o : Nat) (acc : List UInt8), (∀ (j : Nat) x, l[j]? = some x → w.cell? ⟨b, o + j, none⟩ = some (.int .u8 (Int.ofNat x))) →
    (Extern.Bytes.loadBytes ⟨b, o, none⟩ l.length ⟨acc.toArray⟩).run P w = .ok ⟨(acc ++ l.map (·.toUInt8)).toArray⟩ w
  | [], o, acc, _ => by simp [Extern.Bytes.loadBytes]
  | x :: l, o, acc, h => by
    have h0 := h 0 x rfl
    rw [Nat.add_zero] at h0
    have ih := loadBytes_ok (P := P) (w := w) (b := b) l (o + 1) (acc ++ [x.toUInt8]) fun j y hj => by
      have := h (j + 1) y (by simpa using hj)
      rw [show o + 1 + j = o + (j + 1) by omega]; exact this
    have e : (⟨acc.toArray⟩ : ByteArray).push (Int.ofNat x).toNat.toUInt8 = ⟨(acc ++ [x.toUInt8]).toArray⟩ := by
      show ByteArray.mk (acc.toArray.push _) = _
      congr 1
      simp
    show ((Extern.Bytes.loadBytes ⟨b, o, none⟩ (l.length + 1) ⟨acc.toArray⟩).run P w) = _
    unfold Extern.Bytes.loadBytes
    simp only [Sem.run_bind, load_byte h0, Result.andThen_ok, e]
    have e2 : (Addr.add ⟨b, o, none⟩ 1 : Addr) = ⟨b, o + 1, none⟩ := rfl
    rw [e2, ih]
    simp

theorem ltL_cmp : ∀ (a b : List Nat), a.length = b.length → (∀ n ∈ a, n < 256) → (∀ n ∈ b, n < 256) → Lib.compareBytes (a.map (·.toUInt8)) (b.map (·.toUInt8)) = cmpL a b
  | [], [], _, _, _ => rfl
  | x :: a, y :: b, h, ha, hb => by
    have hx := ha x (List.mem_cons_self ..)
    have hy := hb y (List.mem_cons_self ..)
    have ih := ltL_cmp a b (by simpa using h) (fun n hn => ha n (List.mem_cons_of_mem _ hn)) (fun n hn => hb n (List.mem_cons_of_mem _ hn))
    have hlt : ∀ u v : Nat, u < 256 → v < 256 → ((u.toUInt8 < v.toUInt8) ↔ u < v) := fun u v hu hv => by
      rw [UInt8.lt_iff_toNat_lt]
      have e1 : u.toUInt8.toNat = u := by simp; omega
      have e2 : v.toUInt8.toNat = v := by simp; omega
      rw [e1, e2]
    simp only [List.map_cons, Lib.compareBytes, hlt x y hx hy, hlt y x hy hx]
    have b1 : ∀ u v : Nat, Nat.blt u v = decide (u < v) := fun u v => by
      rw [Bool.eq_iff_iff]
      show Nat.ble (u + 1) v = true ↔ _
      rw [Nat.ble_eq, decide_eq_true_eq]; omega
    have b2 : ∀ u v : Nat, Nat.beq u v = decide (u = v) := fun u v => by rw [Bool.eq_iff_iff, Nat.beq_eq]; simp
    unfold cmpL
    simp only [ltL, b1, b2]
    by_cases h1 : x < y
    · simp [h1]
    · by_cases h2 : y < x
      · have h3 : ¬ x = y := by omega
        have h4 : ¬ y = x := by omega
        simp [h1, h2, h3]
      · have h3 : x = y := by omega
        subst h3
        simp only [Nat.lt_irrefl, if_false, decide_false, decide_true, cond_true, cond_false]
        exact ih
  | [], _ :: _, h, _, _ => by simp at h
  | _ :: _, [], h, _, _ => by simp at h

theorem run_cmp {P : Program} {w : World} {b1 b2 : Nat} {x y : B32} (h1 : ∀ (j : Nat) v, (encB x)[j]? = some v → w.cell? ⟨b1, 0 + j, none⟩ = some v) (h2 : ∀ (j : Nat) v, (encB y)[j]? = some v → w.cell? ⟨b2, 0 + j, none⟩ = some v) :
    (Extern.BytealgCompare.compare #[.slice (some ⟨b1, 0, none⟩) 32 32, .slice (some ⟨b2, 0, none⟩) 32 32]).run P w = .ok (.int .i64 (cfB x y)) w := by
  have g1 := loadBytes_ok (P := P) (w := w) (b := b1) x.l 0 [] fun j v hj => h1 j _ (by rw [encB, List.getElem?_map, hj]; rfl)
  have g2 := loadBytes_ok (P := P) (w := w) (b := b2) y.l 0 [] fun j v hj => h2 j _ (by rw [encB, List.getElem?_map, hj]; rfl)
  rw [x.len] at g1; rw [y.len] at g2
  change Sem.run P (do pure (goInt (Extern.BytealgCompare.cmp (← Extern.Bytes.bytesOf (.slice (some ⟨b1, 0, none⟩) 32 32)) (← Extern.Bytes.bytesOf (.slice (some ⟨b2, 0, none⟩) 32 32))))) w = _
  have e0 : (ByteArray.empty : ByteArray) = ⟨([] : List UInt8).toArray⟩ := rfl
  simp only [Extern.Bytes.bytesOf, Sem.run_bind, e0, g1, g2, Result.andThen_ok, Sem.run_pure]
  rw [Lib.cmp_eq]
  have := ltL_cmp x.l y.l (by rw [x.len, y.len]) x.lt y.lt
  simp only [List.nil_append]
  rw [this]
  rfl

set_option maxRecDepth 100000 in
theorem bcmp {b1 b2 : Nat} {x y : B32} (W : World) (h1 : ∀ (j : Nat) v, (encB x)[j]? = some v → W.cell? ⟨b1, 0 + j, none⟩ = some v) (h2 : ∀ (j : Nat) v, (encB y)[j]? = some v → W.cell? ⟨b2, 0 + j, none⟩ = some v) :
    Calls Tryz.prog 144 #[.slice (some ⟨b1, 0, none⟩) 32 32, .slice (some ⟨b2, 0, none⟩) 32 32] W fun e w' => e = .returned (.int .i64 (cfB x y)) ∧ w' = W := by
  go_enter Tryz.func144, Tryz.ntmps144
  go_wp2
  rw [run_callFunc_extern Tryz.func215 (by kernel_rfl) (by kernel_rfl) (by kernel_rfl) (e := Extern.BytealgCompare.compare) (by kernel_rfl), run_cmp h1 h2]
  simp only [Result.andThen]
  rw [Oper.upon_value]
  go_wp2
  go_ret
  exact ⟨rfl, rfl⟩
theorem uId : Tryz.prog.underlying 46 = some (.array 32 5) := by kernel_rfl
set_option maxRecDepth 100000 in
theorem cmp_law (x y : B32) (w : World) : Calls Tryz.prog 77 #[.agg (encB x).toArray, .agg (encB y).toArray] w fun e w' => e = .returned (.int .i64 (cfB x y)) ∧ ∃ q os', w' = Go.Sort.grow (w.drewN q) os' := by
  go_enter Tryz.func77, Tryz.ntmps77
  go_wp2
  have r2 : ((w.alloc (Obj.cells (encB x).toArray 46)).alloc (Obj.cells (encB y).toArray 46)).heap[w.heap.size + 1]? = some (.cells (encB y).toArray 46 (0, 0)) := by
    have := heap_alloc_new (w.alloc (Obj.cells (encB x).toArray 46)) (Obj.cells (encB y).toArray 46)
    rwa [show (w.alloc (Obj.cells (encB x).toArray 46)).heap.size = w.heap.size + 1 from Array.size_push ..] at this
  have r1 : ((w.alloc (Obj.cells (encB x).toArray 46)).alloc (Obj.cells (encB y).toArray 46)).heap[w.heap.size]? = some (.cells (encB x).toArray 46 (0, 0)) := by
    rw [heap_alloc_old _ _ (by show w.heap.size < (w.heap.push _).size; rw [Array.size_push]; omega)]
    exact heap_alloc_new w _
  have hc : ∀ W : World, W.heap = ((w.alloc (Obj.cells (encB x).toArray 46)).alloc (Obj.cells (encB y).toArray 46)).heap → Calls Tryz.prog 144 #[.slice (some ⟨w.heap.size, 0, none⟩) 32 32, .slice (some ⟨w.heap.size + 1, 0, none⟩) 32 32] W fun e w' => e = .returned (.int .i64 (cfB x y)) ∧ w' = W := fun W hW => bcmp W
    (fun j v hj => by have hh := r1; rw [← hW] at hh; simp only [World.cell?, hh]; simpa using hj) (fun j v hj => by have hh := r2; rw [← hW] at hh; simp only [World.cell?, hh]; simpa using hj)
  go_quiet ((go_at_call 144; refine Calls.quiet_of_same (hc _ rfl)))
  rename_i K hK
  simp only [Exit.then]
  apply hK
  refine wp_ret ?_
  show bodyPost Tryz.prog Tryz.f77 _ _ _ _
  go_ret
  refine ⟨rfl, nq, #[Obj.cells (encB x).toArray 46, Obj.cells (encB y).toArray 46], ?_⟩
  show World.mk .. = World.mk ..
  congr 1
end Tz
namespace Tz
open Go Ax Go.Proofs Go.RowKit Go.Shelf
variable [Ax.Sy]
noncomputable section
theorem sortIds_law : SortLaw Go.Proofs.Tryz.prog 76 77 :=
  sortLaw Go.Proofs.Tryz.sortIds (fun w => by kernel_rfl) (fun w => by kernel_rfl) (enters_of Go.Proofs.Tryz.func77 (by kernel_rfl) rfl) cmp_law
def idI : TypeInfo := (Go.Proofs.Tryz.prog.info? 46).getD default
def idZ : Value := idI.zero.getD undef
theorem cloneIds_law : CloneLaw Go.Proofs.Tryz.prog 75 46 :=
  fun b off n c news w h1 h2 h3 h4 h5 => AnyE.slices_Clone Go.Proofs.Tryz.cloneIds idI idZ 32 32 (by kernel_rfl) (by kernel_rfl) (by kernel_rfl) (by kernel_rfl) (by kernel_rfl) (by decide) (fun w => by kernel_rfl) b off n c news w h1 h2 h3 h4 h5
def blkOf : Code → Code | .block _ b => b | c => c
def loopOf : Code → Code | .loop b => b | c => c
def mbB : Code := bodyOf Go.Proofs.Tryz.f189
def mbR : Code := codeR (codeR (codeR mbB))
def mbL : Code := loopOf (blkOf (codeR (codeL mbR)))
def mbI : Code := blkOf (codeR (codeR mbL))
def mb : MB where
  c1 := codeL mbB
  c2 := codeL (codeR mbB)
  c3 := codeL (codeR (codeR mbB))
  X := codeR mbI
  c5 := codeR mbR
  id4 := 4
  id0 := 0
  id5 := 5
  id1 := 1
  id6 := 6
  l4 := (opsOf (codeL (codeL mbR))).toList.take 4
  o4 := (opsOf (codeL (codeL mbR))).getD 4 nilOp
  o50 := (opsOf (codeL mbL)).getD 0 nilOp
  o51 := (opsOf (codeL mbL)).getD 1 nilOp
  o60 := (opsOf (codeL mbI)).getD 0 nilOp
  l6 := (opsOf (codeL mbI)).toList.drop 1
  tIt := 16
  tN := 17
  tB := 18
  tE := 19
  xm := .tmp 15
  tm := 143
  tk := 46
  te := 74
def mbD : List Nat := [17, 18, 19, 20, 21, 22, 23, 24, 25, 26, 27, 28, 29, 30, 31, 32, 33, 34, 35, 36, 37, 38, 43, 5, 7, 8, 9]
def mbF : IF := { body := .skip, res := [.tmp (Ps.key 2)] }
theorem mb_ok : mb.Ok Go.Proofs.Tryz.prog 46 where
  o4 := ⟨rfl, rfl, rfl⟩
  o50 := ⟨rfl, rfl, rfl⟩
  o51 := ⟨rfl, rfl, rfl⟩
  o60 := ⟨rfl, rfl, rfl⟩
  map := by kernel_rfl
  lt := by decide
  ne := by decide
def oMiss (m : Int) (o : T Oc) : Oc := oRng (EA m o) 100000 46 mbF mb mbD (.t (Ps.key 15))
theorem miss_ok (m : Int) (ng : Nat) {o : T Oc} (ho : OrcsOk Go.Proofs.Tryz.prog ng (gls m) o) : OOk Go.Proofs.Tryz.prog ng (gls m) 189 (oMiss m o) :=
  oRng_ok (E := EA m o) (xs_ok _ _) (dra_ok (E := EA m o) (plain m) (xs_ok _ _) mixed) (orc_of (E := EA m o) ho) (fn := Go.Proofs.Tryz.f189) Go.Proofs.Tryz.func189 (by kernel_rfl) rfl rfl mb_ok (by decide) rfl
end
end Tz
