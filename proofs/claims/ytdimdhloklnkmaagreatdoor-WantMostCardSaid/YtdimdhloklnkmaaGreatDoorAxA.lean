/- The evaluator that the proof of the claim runs in: its data, its operations, its code; on no condition. -/
import Derived.Orders
import Derived.LoopN
import Derived.Below
import Derived.Laws.Entries
import Derived.Laws.Cells
import Derived.Laws.Slices
import Derived.Laws.Small
import Derived.Laws.StructEq
import Derived.ChangeKeysEq
set_option linter.unusedVariables false
set_option linter.unusedSimpArgs false
set_option linter.unusedSectionVars false
namespace Ax
open Go

/-! ## Paths and tries -/

inductive D8 | d0 | d1 | d2 | d3 | d4 | d5 | d6 | d7
  deriving DecidableEq
structure S8 (α : Type) where
  a0 : α
  a1 : α
  a2 : α
  a3 : α
  a4 : α
  a5 : α
  a6 : α
  a7 : α

namespace S8
variable {α : Type}
noncomputable def sel (d : D8) (s : S8 α) : α := D8.rec (motive := fun _ => S8 α → α) S8.a0 S8.a1 S8.a2 S8.a3 S8.a4 S8.a5 S8.a6 S8.a7 d s
noncomputable def upd (d : D8) (g : α → α) (s : S8 α) : S8 α := D8.rec (motive := fun _ => (α → α) → S8 α → S8 α)
    (fun g s => S8.rec (motive := fun _ => S8 α) (fun a0 a1 a2 a3 a4 a5 a6 a7 => S8.mk (g a0) a1 a2 a3 a4 a5 a6 a7) s)
    (fun g s => S8.rec (motive := fun _ => S8 α) (fun a0 a1 a2 a3 a4 a5 a6 a7 => S8.mk a0 (g a1) a2 a3 a4 a5 a6 a7) s)
    (fun g s => S8.rec (motive := fun _ => S8 α) (fun a0 a1 a2 a3 a4 a5 a6 a7 => S8.mk a0 a1 (g a2) a3 a4 a5 a6 a7) s)
    (fun g s => S8.rec (motive := fun _ => S8 α) (fun a0 a1 a2 a3 a4 a5 a6 a7 => S8.mk a0 a1 a2 (g a3) a4 a5 a6 a7) s)
    (fun g s => S8.rec (motive := fun _ => S8 α) (fun a0 a1 a2 a3 a4 a5 a6 a7 => S8.mk a0 a1 a2 a3 (g a4) a5 a6 a7) s)
    (fun g s => S8.rec (motive := fun _ => S8 α) (fun a0 a1 a2 a3 a4 a5 a6 a7 => S8.mk a0 a1 a2 a3 a4 (g a5) a6 a7) s)
    (fun g s => S8.rec (motive := fun _ => S8 α) (fun a0 a1 a2 a3 a4 a5 a6 a7 => S8.mk a0 a1 a2 a3 a4 a5 (g a6) a7) s)
    (fun g s => S8.rec (motive := fun _ => S8 α) (fun a0 a1 a2 a3 a4 a5 a6 a7 => S8.mk a0 a1 a2 a3 a4 a5 a6 (g a7)) s) d g s
noncomputable def all (x : α) : S8 α := ⟨x, x, x, x, x, x, x, x⟩
theorem sel_upd (d e : D8) (g : α → α) (s : S8 α) : sel e (upd d g s) = if e = d then g (sel d s) else sel e s := by
  obtain ⟨b0, b1, b2, b3, b4, b5, b6, b7⟩ := s
  cases d <;> cases e <;> rfl
theorem sel_all (d : D8) (x : α) : sel d (all x) = x := by cases d <;> rfl
end S8

/-- Where something lies in a tree: near, farther, or beyond. -/
inductive Ps | lo (a b : D8) | hi (a b c d : D8) | far (n : Nat)
  deriving DecidableEq

namespace Ps
noncomputable def dig (n : Nat) : D8 := bif Nat.beq n 0 then .d0 else bif Nat.beq n 1 then .d1 else bif Nat.beq n 2 then .d2 else bif Nat.beq n 3 then .d3 else bif Nat.beq n 4 then .d4 else bif Nat.beq n 5 then .d5 else bif Nat.beq n 6 then .d6 else .d7
noncomputable def num : D8 → Nat | .d0 => 0 | .d1 => 1 | .d2 => 2 | .d3 => 3 | .d4 => 4 | .d5 => 5 | .d6 => 6 | .d7 => 7
theorem num_dig {n : Nat} (h : n < 8) : num (dig n) = n := by
  match n, h with
  | 0, _ => rfl
  | 1, _ => rfl
  | 2, _ => rfl
  | 3, _ => rfl
  | 4, _ => rfl
  | 5, _ => rfl
  | 6, _ => rfl
  | 7, _ => rfl
/-- The path of a number. -/
noncomputable def key (n : Nat) : Ps := bif Nat.ble n 63 then .lo (dig (n / 8)) (dig (n % 8)) else bif Nat.ble n 4095 then .hi (dig (n / 512)) (dig (n / 64 % 8)) (dig (n / 8 % 8)) (dig (n % 8)) else .far n
noncomputable def toN : Ps → Nat
  | .lo a b => num a * 8 + num b
  | .hi a b c d => num a * 512 + num b * 64 + num c * 8 + num d
  | .far n => n
theorem toN_key (n : Nat) : toN (key n) = n := by
  unfold key
  rw [Bool.cond_eq_ite, Bool.cond_eq_ite]
  by_cases h1 : n ≤ 63
  · rw [if_pos (by rw [Nat.ble_eq]; exact h1)]
    simp only [toN]
    rw [num_dig (by omega), num_dig (by omega)]; omega
  · rw [if_neg (by rw [Nat.ble_eq]; exact h1)]
    by_cases h2 : n ≤ 4095
    · rw [if_pos (by rw [Nat.ble_eq]; exact h2)]
      simp only [toN]
      rw [num_dig (by omega), num_dig (by omega), num_dig (by omega), num_dig (by omega)]; omega
    · rw [if_neg (by rw [Nat.ble_eq]; exact h2)]; rfl
theorem key_inj {m n : Nat} (h : key m = key n) : m = n := by
  rw [← toN_key m, ← toN_key n, h]
theorem key_eq {m n : Nat} : key m = key n ↔ m = n := ⟨key_inj, fun h => by rw [h]⟩
end Ps

structure T (α : Type) where
  lo : S8 (S8 (Option α))
  hi : S8 (S8 (S8 (S8 (Option α))))
  far : List (Nat × Option α)

namespace T
variable {α : Type}
noncomputable def nil : T α := ⟨.all (.all none), .all (.all (.all (.all none))), []⟩
noncomputable def look (n : Nat) (l : List (Nat × Option α)) : Option α := List.rec none (fun p _ ih => bif Nat.beq p.1 n then p.2 else ih) l
noncomputable def getLo (a b : D8) (t : T α) : Option α := S8.sel b (S8.sel a t.lo)
noncomputable def getHi (a b c d : D8) (t : T α) : Option α := S8.sel d (S8.sel c (S8.sel b (S8.sel a t.hi)))
noncomputable def getFar (n : Nat) (t : T α) : Option α := look n t.far
noncomputable def get (t : T α) (p : Ps) : Option α := Ps.rec (motive := fun _ => T α → Option α) getLo getHi getFar p t
noncomputable def putLo (a b : D8) (t : T α) (x : Option α) : T α := T.rec (motive := fun _ => T α) (fun lo hi far => T.mk (S8.upd a (S8.upd b fun _ => x) lo) hi far) t
noncomputable def putHi (a b c d : D8) (t : T α) (x : Option α) : T α := T.rec (motive := fun _ => T α) (fun lo hi far => T.mk lo (S8.upd a (S8.upd b (S8.upd c (S8.upd d fun _ => x))) hi) far) t
noncomputable def putFar (n : Nat) (t : T α) (x : Option α) : T α := T.rec (motive := fun _ => T α) (fun lo hi far => T.mk lo hi ((n, x) :: far)) t
noncomputable def put (t : T α) (x : Option α) (p : Ps) : T α := Ps.rec (motive := fun _ => T α → Option α → T α) putLo putHi putFar p t x
theorem get_nil (p : Ps) : (nil : T α).get p = none := by
  cases p with
  | lo a b => simp only [get, getLo, nil, S8.sel_all]
  | hi a b c d => simp only [get, getHi, nil, S8.sel_all]
  | far n => rfl
theorem get_put (t : T α) (x : Option α) (p q : Ps) : (t.put x p).get q = if q = p then x else t.get q := by
  obtain ⟨lo, hi, far⟩ := t
  cases p with
  | lo a b =>
    cases q with
    | lo a' b' =>
      simp only [get, put, getLo, putLo, S8.sel_upd, Ps.lo.injEq]
      by_cases h1 : a' = a
      · by_cases h2 : b' = b
        · simp [h1, h2, S8.sel_upd]
        · simp [h1, h2, S8.sel_upd]
      · simp [h1]
    | hi _ _ _ _ => simp [get, put, getHi, putLo]
    | far _ => simp [get, put, getFar, putLo]
  | hi a b c d =>
    cases q with
    | lo _ _ => simp [get, put, getLo, putHi]
    | hi a' b' c' d' =>
      simp only [get, put, getHi, putHi, S8.sel_upd, Ps.hi.injEq]
      by_cases h1 : a' = a
      · by_cases h2 : b' = b
        · by_cases h3 : c' = c
          · by_cases h4 : d' = d
            · simp [h1, h2, h3, h4, S8.sel_upd]
            · simp [h1, h2, h3, h4, S8.sel_upd]
          · simp [h1, h2, h3, S8.sel_upd]
        · simp [h1, h2, S8.sel_upd]
      · simp [h1]
    | far _ => simp [get, put, getFar, putHi]
  | far n =>
    cases q with
    | lo _ _ => simp [get, put, getLo, putFar]
    | hi _ _ _ _ => simp [get, put, getHi, putFar]
    | far m =>
      simp only [get, put, getFar, putFar, look, Ps.far.injEq, Bool.cond_eq_ite]
      by_cases h : m = n
      · subst h; simp
      · have : ¬ (Nat.beq n m = true) := fun hb => h (Nat.eq_of_beq_eq_true hb).symm
        rw [if_neg this, if_neg h]
end T

/-! ## Lists, as the kernel reads them cheaply -/

noncomputable def nthF {α : Type} (l : List α) (k : Nat) : Option α := List.rec (motive := fun _ => Nat → Option α) (fun _ => none) (fun x _ ih k => Nat.rec (some x) (fun k' _ => ih k') k) l k
theorem nthF_eq {α : Type} : ∀ (l : List α) (k : Nat), nthF l k = l[k]?
  | [], k => rfl
  | x :: l, 0 => rfl
  | x :: l, k + 1 => nthF_eq l k
noncomputable def dropF {α : Type} (k : Nat) (l : List α) : List α := Nat.rec (motive := fun _ => List α → List α) (fun l => l) (fun _ ih l => List.rec [] (fun _ l _ => ih l) l) k l
theorem dropF_eq {α : Type} : ∀ (k : Nat) (l : List α), dropF k l = l.drop k
  | 0, l => rfl
  | k + 1, [] => rfl
  | k + 1, _ :: l => dropF_eq k l
noncomputable def takeF {α : Type} (k : Nat) (l : List α) : List α := Nat.rec (motive := fun _ => List α → List α) (fun _ => []) (fun _ ih l => List.rec [] (fun x l _ => x :: ih l) l) k l
theorem takeF_eq {α : Type} : ∀ (k : Nat) (l : List α), takeF k l = l.take k
  | 0, l => rfl
  | k + 1, [] => rfl
  | k + 1, x :: l => congrArg (x :: ·) (takeF_eq k l)
noncomputable def lenF {α : Type} (l : List α) : Nat := List.rec (fun n => n) (fun _ _ ih n => ih (Nat.succ n)) l 0
theorem lenF_go {α : Type} : ∀ (l : List α) (n : Nat), (List.rec (motive := fun _ => Nat → Nat) (fun n => n) (fun _ _ ih n => ih (Nat.succ n)) l n : Nat) = n + l.length
  | [], n => rfl
  | _ :: l, n => (lenF_go l (n + 1)).trans (by simp only [List.length_cons]; omega)
theorem lenF_eq {α : Type} (l : List α) : lenF l = l.length := (lenF_go l 0).trans (Nat.zero_add _)
noncomputable def appF {α : Type} (l m : List α) : List α := List.rec m (fun x _ ih => x :: ih) l
theorem appF_eq {α : Type} : ∀ (l m : List α), appF l m = l ++ m
  | [], _ => rfl
  | x :: l, m => congrArg (x :: ·) (appF_eq l m)

/-! ## Bytes, packed -/

noncomputable def bEq (a b : UInt8) : Bool := Nat.beq a.toNat b.toNat
noncomputable def sEq : List UInt8 → List UInt8 → Bool
  | [], [] => true
  | a :: x, b :: y => bif bEq a b then sEq x y else false
  | _, _ => false
theorem bEq_eq (a b : UInt8) : bEq a b = (a == b) := by
  unfold bEq
  rw [Bool.eq_iff_iff]
  simp [UInt8.toNat_inj]
theorem sEq_eq : ∀ (a b : List UInt8), sEq a b = (a == b)
  | [], [] => rfl
  | [], b :: y => by simp [sEq]
  | a :: x, [] => by simp [sEq]
  | a :: x, b :: y => by
    have ih := sEq_eq x y
    simp only [sEq, bEq_eq, ih]
    cases h : a == b <;> simp_all

/-- Bytes: how many, and the number whose digits to the base 256 they are, the first the lowest; or as they come. -/
inductive BS | pk (n v : Nat) | lst (l : List UInt8)

namespace BS
noncomputable def digs (n v : Nat) : List UInt8 := Nat.rec (motive := fun _ => Nat → List UInt8) (fun _ => []) (fun _ ih v => UInt8.ofNat (Nat.mod v 256) :: ih (Nat.div v 256)) n v
noncomputable def list (b : BS) : List UInt8 := BS.rec digs (fun l => l) b
noncomputable def len (b : BS) : Nat := BS.rec (fun n _ => n) (fun l => lenF l) b
noncomputable def num (l : List UInt8) : Nat := List.rec 0 (fun x _ ih => Nat.add x.toNat (Nat.mul 256 ih)) l
noncomputable def ofList (l : List UInt8) : BS := .pk (lenF l) (num l)
noncomputable def appP (n v m w : Nat) : BS := .pk (Nat.add n m) (Nat.add (Nat.mod v (Nat.pow 256 n)) (Nat.mul w (Nat.pow 256 n)))
noncomputable def app (a b : BS) : BS := BS.rec (fun n v => BS.rec (fun m w => appP n v m w) (fun m => .lst (appF (digs n v) m)) b) (fun l => .lst (appF l b.list)) a
noncomputable def takeP (k n v : Nat) : BS := Bool.rec (.pk k (Nat.mod v (Nat.pow 256 k))) (.pk n v) (Nat.ble n k)
noncomputable def take (k : Nat) (a : BS) : BS := BS.rec (fun n v => takeP k n v) (fun l => .lst (takeF k l)) a
noncomputable def drop (k : Nat) (a : BS) : BS := BS.rec (fun n v => .pk (Nat.sub n k) (Nat.div v (Nat.pow 256 k))) (fun l => .lst (dropF k l)) a
noncomputable def get (k : Nat) (a : BS) : Nat := BS.rec (fun _ v => Nat.mod (Nat.div v (Nat.pow 256 k)) 256) (fun l => Option.rec 0 (fun x => x.toNat) (nthF l k)) a
noncomputable def eqP (n v m w : Nat) : Bool := Bool.rec false (Nat.beq (Nat.mod v (Nat.pow 256 n)) (Nat.mod w (Nat.pow 256 m))) (Nat.beq n m)
noncomputable def eq (a b : BS) : Bool := BS.rec (fun n v => BS.rec (fun m w => eqP n v m w) (fun m => sEq (digs n v) m) b) (fun l => sEq l b.list) a
/-- Told in the same way. -/
noncomputable def same (a b : BS) : Bool := BS.rec (fun n v => BS.rec (fun m w => Bool.rec false (Nat.beq v w) (Nat.beq n m)) (fun _ => false) b) (fun l => BS.rec (fun _ _ => false) (fun m => sEq l m) b) a

theorem digs_zero (v : Nat) : digs 0 v = [] := rfl
theorem digs_succ (n v : Nat) : digs (n + 1) v = UInt8.ofNat (v % 256) :: digs n (v / 256) := rfl
theorem digs_len : ∀ n v, (digs n v).length = n
  | 0, _ => rfl
  | n + 1, v => by rw [digs_succ, List.length_cons, digs_len n]
theorem list_len (b : BS) : b.list.length = b.len := by
  cases b with
  | pk n v => exact digs_len _ _
  | lst l => exact (lenF_eq l).symm
theorem digs_get : ∀ (n v k : Nat), k < n → (digs n v)[k]? = some (UInt8.ofNat (v / 256 ^ k % 256))
  | 0, _, _, h => by omega
  | n + 1, v, 0, _ => by rw [digs_succ, List.getElem?_cons_zero, Nat.pow_zero, Nat.div_one]
  | n + 1, v, k + 1, h => by rw [digs_succ, List.getElem?_cons_succ, digs_get n _ k (by omega), Nat.div_div_eq_div_mul, Nat.pow_succ, Nat.mul_comm 256]
theorem digs_take : ∀ (k n v : Nat), digs (min k n) v = (digs n v).take k
  | 0, n, v => by rw [Nat.zero_min, List.take_zero]; rfl
  | k + 1, 0, v => by rw [Nat.min_zero]; rfl
  | k + 1, n + 1, v => by
    have : min (k + 1) (n + 1) = min k n + 1 := by omega
    rw [this, digs_succ, digs_succ, List.take_succ_cons, digs_take k n]
theorem digs_drop : ∀ (k n v : Nat), digs (n - k) (v / 256 ^ k) = (digs n v).drop k
  | 0, n, v => by rw [Nat.pow_zero, Nat.div_one, List.drop_zero, Nat.sub_zero]
  | k + 1, 0, v => by rw [Nat.zero_sub]; rfl
  | k + 1, n + 1, v => by rw [digs_succ, List.drop_succ_cons, Nat.add_sub_add_right, Nat.pow_succ, Nat.mul_comm, ← Nat.div_div_eq_div_mul, digs_drop k n]
theorem mod_pow (n v : Nat) : v % 256 ^ (n + 1) = v % 256 + 256 * (v / 256 % 256 ^ n) := by
  rw [Nat.pow_succ, Nat.mul_comm (256 ^ n) 256, Nat.mod_mul]
theorem digs_app : ∀ (n m v w : Nat), digs (n + m) (v % 256 ^ n + w * 256 ^ n) = digs n v ++ digs m w
  | 0, m, v, w => by rw [Nat.pow_zero, Nat.mod_one, Nat.mul_one, Nat.zero_add, Nat.zero_add]; rfl
  | n + 1, m, v, w => by
    have e : v % 256 ^ (n + 1) + w * 256 ^ (n + 1) = v % 256 + 256 * (v / 256 % 256 ^ n + w * 256 ^ n) := by
      rw [mod_pow, Nat.pow_succ, Nat.mul_add, Nat.add_assoc, Nat.mul_comm (256 ^ n) 256, Nat.mul_left_comm w]
    rw [e, show n + 1 + m = (n + m) + 1 by omega, digs_succ, digs_succ, List.cons_append, Nat.add_mul_mod_self_left, Nat.mod_mod, Nat.add_mul_div_left _ _ (by decide), Nat.div_eq_of_lt (Nat.mod_lt _ (by decide)), Nat.zero_add, digs_app n m]
theorem digs_mod (n v : Nat) : digs n (v % 256 ^ n) = digs n v := by
  have := digs_app n 0 v 0
  rw [Nat.zero_mul, Nat.add_zero, Nat.add_zero, digs_zero, List.append_nil] at this
  exact this
theorem u8_mod (v : Nat) : (UInt8.ofNat (v % 256)).toNat = v % 256 := by simp
theorem num_digs : ∀ (n v : Nat), num (digs n v) = v % 256 ^ n
  | 0, v => by rw [Nat.pow_zero, Nat.mod_one]; rfl
  | n + 1, v => by
    rw [digs_succ]
    show (UInt8.ofNat (v % 256)).toNat + 256 * num (digs n (v / 256)) = _
    rw [num_digs n, mod_pow, u8_mod]
theorem ofList_list : ∀ (l : List UInt8), (ofList l).list = l := by
  intro l
  show digs (lenF l) (num l) = l
  rw [lenF_eq]
  induction l with
  | nil => rfl
  | cons x l ih =>
    rw [List.length_cons, digs_succ]
    have hx : x.toNat < 256 := x.toNat_lt
    have e : num (x :: l) = x.toNat + 256 * num l := rfl
    have h1 : num (x :: l) % 256 = x.toNat := by rw [e]; omega
    have h2 : num (x :: l) / 256 = num l := by rw [e]; omega
    rw [h1, h2, ih, UInt8.ofNat_toNat]
theorem app_list (a b : BS) : (app a b).list = a.list ++ b.list := by
  cases a with
  | pk n v =>
    cases b with
    | pk m w => exact digs_app _ _ _ _
    | lst m => exact appF_eq _ _
  | lst l => exact appF_eq _ _
theorem drop_list (k : Nat) (a : BS) : (drop k a).list = a.list.drop k := by
  cases a with
  | pk n v => exact digs_drop _ _ _
  | lst l => exact dropF_eq _ _
theorem take_list (k : Nat) (a : BS) : (take k a).list = a.list.take k := by
  cases a with
  | lst l => exact takeF_eq _ _
  | pk n v =>
    show (takeP k n v).list = (digs n v).take k
    unfold takeP
    cases h : Nat.ble n k with
    | true =>
      have : n ≤ k := Nat.le_of_ble_eq_true h
      rw [List.take_of_length_le (by rw [digs_len]; exact this)]; rfl
    | false =>
      have : ¬ n ≤ k := fun hle => by rw [Nat.ble_eq_true_of_le hle] at h; cases h
      show digs k (v % 256 ^ k) = (digs n v).take k
      rw [digs_mod, ← digs_take, Nat.min_eq_left (by omega)]
theorem get_list (k : Nat) (a : BS) (h : k < a.len) : a.list[k]? = some (UInt8.ofNat (get k a)) := by
  cases a with
  | pk n v => exact digs_get _ _ _ h
  | lst l =>
    have h : k < lenF l := h
    rw [lenF_eq] at h
    show l[k]? = some (UInt8.ofNat (Option.rec (motive := fun _ => Nat) 0 (fun x => x.toNat) (nthF l k)))
    rw [nthF_eq, List.getElem?_eq_getElem h]
    show some l[k] = some (UInt8.ofNat l[k].toNat)
    rw [UInt8.ofNat_toNat]
theorem get_lt (k : Nat) (a : BS) : get k a < 256 := by
  cases a with
  | pk n v => exact Nat.mod_lt _ (by decide)
  | lst l =>
    show (Option.rec (motive := fun _ => Nat) 0 (fun x => x.toNat) (nthF l k) : Nat) < 256
    cases nthF l k with
    | none => show 0 < 256; decide
    | some x => exact x.toNat_lt
theorem eqP_iff (n v m w : Nat) : eqP n v m w = true ↔ digs n v = digs m w := by
  unfold eqP
  constructor
  · intro h
    cases hn : Nat.beq n m with
    | false => rw [hn] at h; cases h
    | true =>
      rw [hn] at h
      have hn := Nat.eq_of_beq_eq_true hn
      have h : Nat.beq (v % 256 ^ n) (w % 256 ^ m) = true := h
      have h := Nat.eq_of_beq_eq_true h
      rw [← digs_mod n, ← digs_mod m, h, hn]
  · intro h
    have hn : n = m := by rw [← digs_len n v, ← digs_len m w, h]
    have hv : v % 256 ^ n = w % 256 ^ m := by rw [← num_digs, ← num_digs]; exact congrArg num h
    have h1 : Nat.beq n m = true := by rw [hn]; exact Nat.beq_refl _
    rw [h1]
    show Nat.beq (v % 256 ^ n) (w % 256 ^ m) = true
    rw [hv]; exact Nat.beq_refl _
theorem eq_beq (a b : BS) : eq a b = (a.list == b.list) := by
  cases a with
  | pk n v =>
    cases b with
    | pk m w =>
      show eqP n v m w = (digs n v == digs m w)
      rw [Bool.eq_iff_iff, eqP_iff, beq_iff_eq]
    | lst m => exact sEq_eq _ _
  | lst l => exact sEq_eq _ _
theorem same_ok {a b : BS} (h : same a b = true) : a = b := by
  cases a with
  | pk n v =>
    cases b with
    | pk m w =>
      have h : (Bool.rec (motive := fun _ => Bool) false (Nat.beq v w) (Nat.beq n m) : Bool) = true := h
      cases hn : Nat.beq n m with
      | false => rw [hn] at h; cases h
      | true =>
        rw [hn] at h
        have h : Nat.beq v w = true := h
        rw [Nat.eq_of_beq_eq_true hn, Nat.eq_of_beq_eq_true h]
    | lst m => cases h
  | lst l =>
    cases b with
    | pk m w => cases h
    | lst m =>
      have h : sEq l m = true := h
      rw [sEq_eq] at h
      rw [eq_of_beq h]
end BS

/-! ## Abstract values -/

inductive Ad | own (id : Nat) | glob (g : Nat)
  deriving DecidableEq

/-- A capacity: known; or reaching to the end of the block, of elements of so many cells. -/
inductive Cp | k (n : Nat) | u (e : Nat)

inductive AV where
  | bool (b : Bool)
  | int (k : IntKind) (n : Int)
  | flt (k : FloatKind) (bits : Nat)
  | str (s : BS)
  | ptr (a : Option (Ad × Nat))
  | slc (a : Option (Ad × Nat)) (len : Nat) (cap : Cp)
  | map (r : Option Nat)
  | fn (f : Fn) (first : List AV) (caps : List AV)
  | nilFn
  | ifc (t : TypeId) (v : AV)
  | nilIfc
  | agg (l : List AV)
  | tup (l : List AV)
  /-- A number of which only some remainders are known. -/
  | sint (k : IntKind) (n : Int) (hs : List (Int × Int))
  /-- A text of which nothing is known but its name. -/
  | tstr (i : Nat)
  /-- A number of 64 bits without a sign, of which only the lowest bits are known. -/
  | sbit (n : Nat) (bs : List Bool)
  /-- Any value: what its name says. -/
  | any (i : Nat)
  /-- A float64 with a name, of which only is known what some comparisons come to (0: it ahead; 1: the other ahead; 2: with itself), and what it is without itself (3). -/
  | sflt (i : Nat) (hs : List (Nat × Nat × BinOp × Bool))

/-! ## Cells: bytes packed, or any -/

inductive Cl | gen (l : List AV) | byt (b : BS)
namespace Cl
noncomputable def avs (n v : Nat) : List AV := Nat.rec (motive := fun _ => Nat → List AV) (fun _ => []) (fun _ ih v => .int .u8 (.ofNat (Nat.mod v 256)) :: ih (Nat.div v 256)) n v
noncomputable def mapB (l : List UInt8) : List AV := List.rec [] (fun x _ ih => .int .u8 (.ofNat x.toNat) :: ih) l
noncomputable def list (c : Cl) : List AV := Cl.rec (fun l => l) (fun b => BS.rec avs (fun l => mapB l) b) c
noncomputable def byteV (x : AV) : Option Nat := match x with
  | .int .u8 (.ofNat k) => bif Nat.ble k 255 then some k else none
  | _ => none
noncomputable def cons? (k : Option Nat) (b : Option BS) : Option BS := Option.rec none (fun k => Option.rec none (fun b => BS.rec (fun n v => some (.pk (Nat.succ n) (Nat.add k (Nat.mul 256 v)))) (fun _ => none) b) b) k
noncomputable def ofAV (l : List AV) : Option BS := List.rec (some (.pk 0 0)) (fun x _ ih => cons? (byteV x) ih) l
noncomputable def len (c : Cl) : Nat := Cl.rec (fun l => lenF l) (fun b => b.len) c
noncomputable def take (k : Nat) (c : Cl) : Cl := Cl.rec (fun l => .gen (takeF k l)) (fun b => .byt (b.take k)) c
noncomputable def drop (k : Nat) (c : Cl) : Cl := Cl.rec (fun l => .gen (dropF k l)) (fun b => .byt (b.drop k)) c
/-- Packed, if they are bytes. -/
noncomputable def pack (c : Cl) : Option BS := Cl.rec (fun l => ofAV l) (fun b => some b) c
noncomputable def app (a b : Cl) : Cl := Cl.rec
  (fun l => List.rec (Option.rec b (fun y => .byt y) b.pack) (fun _ _ _ => Cl.rec (fun m => .gen (appF l m)) (fun y => Option.rec (.gen (appF l b.list)) (fun x => .byt (x.app y)) (ofAV l)) b) l)
  (fun x => Option.rec (.gen (appF a.list b.list)) (fun y => .byt (x.app y)) b.pack) a
noncomputable def lay (c : Cl) (off : Nat) (x : Cl) : Cl := Cl.rec (fun l => .gen (appF (takeF off l) (appF x.list (dropF (Nat.add off x.len) l))))
  (fun b => Option.rec (.gen (appF (takeF off c.list) (appF x.list (dropF (Nat.add off x.len) c.list)))) (fun y => .byt ((b.take off).app (y.app (b.drop (Nat.add off y.len))))) x.pack) c
noncomputable def nth (c : Cl) (k : Nat) : Option AV := Cl.rec (fun l => nthF l k) (fun b => Bool.rec none (some (.int .u8 (.ofNat (b.get k)))) (Nat.ble (Nat.succ k) b.len)) c
theorem avs_eq : ∀ (n v : Nat), avs n v = (BS.digs n v).map fun x => .int .u8 (.ofNat x.toNat)
  | 0, _ => rfl
  | n + 1, v => by
    rw [BS.digs_succ, List.map_cons, BS.u8_mod, ← avs_eq n]; rfl
theorem mapB_eq : ∀ (l : List UInt8), mapB l = l.map fun x => .int .u8 (.ofNat x.toNat)
  | [] => rfl
  | x :: l => congrArg _ (mapB_eq l)
theorem list_byt (b : BS) : (byt b).list = b.list.map fun x => .int .u8 (.ofNat x.toNat) := by
  cases b with
  | pk n v => exact avs_eq n v
  | lst l => exact mapB_eq l
theorem list_gen (l : List AV) : (gen l).list = l := rfl
theorem len_eq (c : Cl) : c.len = c.list.length := by
  cases c with
  | gen l => exact lenF_eq l
  | byt b => rw [list_byt, List.length_map, BS.list_len]; rfl
theorem take_eq (k : Nat) (c : Cl) : (c.take k).list = c.list.take k := by
  cases c with
  | gen l => exact takeF_eq k l
  | byt b => show (byt (b.take k)).list = _; rw [list_byt, list_byt, BS.take_list, List.map_take]
theorem drop_eq (k : Nat) (c : Cl) : (c.drop k).list = c.list.drop k := by
  cases c with
  | gen l => exact dropF_eq k l
  | byt b => show (byt (b.drop k)).list = _; rw [list_byt, list_byt, BS.drop_list, List.map_drop]
theorem byteV_ok {x : AV} {k : Nat} (h : byteV x = some k) : x = .int .u8 (.ofNat k) ∧ k < 256 := by
  unfold byteV at h
  split at h
  · rw [Bool.cond_eq_ite] at h
    split at h
    · rename_i hb
      simp only [Option.some.injEq] at h; subst h
      exact ⟨rfl, by have := Nat.le_of_ble_eq_true hb; omega⟩
    · cases h
  · cases h
theorem ofAV_ok : ∀ {l : List AV} {b : BS}, ofAV l = some b → (byt b).list = l ∧ ∃ n v, b = .pk n v
  | [], b, h => by
    have h : some (BS.pk 0 0) = some b := h
    simp only [Option.some.injEq] at h; subst h; exact ⟨rfl, _, _, rfl⟩
  | x :: l, b, h => by
    have h : cons? (byteV x) (ofAV l) = some b := h
    unfold cons? at h
    cases hx : byteV x with
    | none => rw [hx] at h; cases h
    | some k =>
      rw [hx] at h
      cases hl : ofAV l with
      | none => rw [hl] at h; cases h
      | some c =>
        rw [hl] at h
        obtain ⟨ih, n, v, rfl⟩ := ofAV_ok hl
        have h : some (BS.pk (n + 1) (k + 256 * v)) = some b := h
        simp only [Option.some.injEq] at h; subst h
        obtain ⟨rfl, hk⟩ := byteV_ok hx
        refine ⟨?_, _, _, rfl⟩
        show avs (n + 1) (k + 256 * v) = _
        have e : avs (n + 1) (k + 256 * v) = .int .u8 (.ofNat ((k + 256 * v) % 256)) :: avs n ((k + 256 * v) / 256) := rfl
        rw [e, show (k + 256 * v) % 256 = k by omega, show (k + 256 * v) / 256 = v by omega]
        exact congrArg _ ih
theorem pack_ok {c : Cl} {b : BS} (h : c.pack = some b) : (byt b).list = c.list := by
  cases c with
  | gen l => exact (ofAV_ok h).1
  | byt x => have h : some x = some b := h; simp only [Option.some.injEq] at h; subst h; rfl
theorem byt_app (x y : BS) : (byt (x.app y)).list = (byt x).list ++ (byt y).list := by rw [list_byt, list_byt, list_byt, BS.app_list, List.map_append]
theorem app_eq (a b : Cl) : (a.app b).list = a.list ++ b.list := by
  cases a with
  | gen l =>
    cases l with
    | nil =>
      show (Option.rec (motive := fun _ => Cl) b (fun y => .byt y) b.pack : Cl).list = _
      cases hp : b.pack with
      | none => rfl
      | some y => exact pack_ok hp
    | cons x l =>
      cases b with
      | gen m => exact appF_eq (x :: l) m
      | byt y =>
        show (Option.rec (motive := fun _ => Cl) (.gen (appF (x :: l) (byt y).list)) (fun x => .byt (x.app y)) (ofAV (x :: l)) : Cl).list = _
        cases hp : ofAV (x :: l) with
        | none => exact appF_eq (x :: l) (byt y).list
        | some z => rw [show (gen (x :: l)).list = x :: l from rfl, ← (ofAV_ok hp).1]; exact byt_app _ _
  | byt x =>
    show (Option.rec (motive := fun _ => Cl) (.gen (appF (byt x).list b.list)) (fun y => .byt (x.app y)) b.pack : Cl).list = _
    cases hp : b.pack with
    | none => exact appF_eq (byt x).list b.list
    | some y => rw [← pack_ok hp]; exact byt_app _ _
theorem lay_eq (c : Cl) (off : Nat) (x : Cl) : (c.lay off x).list = c.list.take off ++ (x.list ++ c.list.drop (off + x.list.length)) := by
  cases c with
  | gen l =>
    show appF (takeF off l) (appF x.list (dropF (off + x.len) l)) = _
    rw [appF_eq, appF_eq, takeF_eq, dropF_eq, len_eq]; rfl
  | byt b =>
    show (Option.rec (motive := fun _ => Cl) (.gen (appF (takeF off (byt b).list) (appF x.list (dropF (off + x.len) (byt b).list)))) (fun y => .byt ((b.take off).app (y.app (b.drop (off + y.len))))) x.pack : Cl).list = _
    cases hp : x.pack with
    | none => show appF _ _ = _; rw [appF_eq, appF_eq, takeF_eq, dropF_eq, len_eq]
    | some y =>
      show (byt ((b.take off).app (y.app (b.drop (off + y.len))))).list = _
      have e := pack_ok hp
      have hl : x.list.length = y.len := by rw [← e, ← len_eq]; rfl
      rw [byt_app, byt_app, e, hl, ← take_eq off (byt b), ← drop_eq (off + y.len) (byt b)]; rfl
theorem nth_eq (c : Cl) (k : Nat) : c.nth k = c.list[k]? := by
  cases c with
  | gen l => exact nthF_eq l k
  | byt b =>
    rw [list_byt, List.getElem?_map]
    show (Bool.rec none (some (AV.int .u8 (.ofNat (b.get k)))) (Nat.ble (k + 1) b.len) : Option AV) = _
    cases h : Nat.ble (k + 1) b.len with
    | true =>
      have : k < b.len := Nat.le_of_ble_eq_true h
      rw [BS.get_list k b this, Option.map_some]
      have := BS.get_lt k b
      have e : (UInt8.ofNat (b.get k)).toNat = b.get k := by simp; omega
      rw [e]
    | false =>
      have : ¬ k < b.len := fun hlt => by rw [Nat.ble_eq_true_of_le hlt] at h; cases h
      rw [List.getElem?_eq_none (by rw [BS.list_len]; omega)]; rfl
end Cl

/-- Where an abstract block lies: its block, its first cell, how many cells there are from there on, how many cells an element takes. -/
structure Lc where
  blk : Nat
  base : Nat
  tot : Nat
  esz : Nat
  /-- What an unknown value of this name is. -/
  val : Value

abbrev Mp := Nat → Option Lc

noncomputable def gA (φ : Mp) : Ad × Nat → Option Addr
  | (.own id, off) => (φ id).map fun L => ⟨L.blk, L.base + off, none⟩
  | (.glob g, off) => some ⟨g, off, none⟩

noncomputable def gCap (φ : Mp) (e len : Nat) : Ad × Nat → Option Nat
  | (.own id, off) => (φ id).bind fun L => if L.esz = e ∧ len ≤ (L.tot - off) / e ∧ off ≤ L.tot then some ((L.tot - off) / e) else none
  | (.glob _, _) => none

/-- What the unknown texts are. -/
class Sy where
  str : Nat → List UInt8
  flt : Nat → Nat := fun _ => 0
variable [Sy]
/-- Are these the lowest bits? -/
noncomputable def bitsOk : Nat → List Bool → Bool
  | _, [] => true
  | n, b :: l => decide (n % 2 = cond b 1 0) && bitsOk (n / 2) l
/-- A hint on a number: above 0, its remainder (with its sign); below 0, its remainder (without); 0: it lies between -r and r. -/
noncomputable def hint1 (n m r : Int) : Bool := if 0 < m then decide (n.tmod m = r) else if m < 0 then decide (n % m = r) else decide (-r < n ∧ n < r)
/-- Are these right? -/
noncomputable def hintOk (n : Int) : List (Int × Int) → Bool
  | [] => true
  | (m, r) :: l => hint1 n m r && hintOk n l
/-- Does a float stand so to others? -/
noncomputable def ordB (op : BinOp) (o : Option Ordering) : Option Bool := match op with
  | .eql => some (o == some .eq)
  | .neq => some (o != some .eq)
  | .lss => some (o == some .lt)
  | .leq => some (o == some .lt || o == some .eq)
  | .gtr => some (o == some .gt)
  | .geq => some (o == some .gt || o == some .eq)
  | _ => none
noncomputable def fHint1 (n k c : Nat) (op : BinOp) (b : Bool) : Bool := match k with
  | 0 => decide (ordB op (FloatKind.f64.format.order n c) = some b)
  | 1 => decide (ordB op (FloatKind.f64.format.order c n) = some b)
  | 2 => decide (ordB op (FloatKind.f64.format.order n n) = some b)
  | _ => decide (FloatKind.f64.format.sub n n = some c)
noncomputable def fHintOk (n : Nat) : List (Nat × Nat × BinOp × Bool) → Bool
  | [] => true
  | (k, c, op, b) :: l => fHint1 n k c op b && fHintOk n l
mutual
/-- What an abstract value means. -/
noncomputable def g (φ : Mp) : AV → Option Value
  | .bool b => some (.bool b)
  | .int k n => some (.int k n)
  | .flt k b => some (.float k b)
  | .str s => some (.string ⟨s.list.toArray⟩)
  | .ptr none => some (.pointer none)
  | .ptr (some a) => (gA φ a).map fun a => .pointer (some a)
  | .slc none len (.k c) => some (.slice none len c)
  | .slc none _ (.u _) => none
  | .slc (some a) len (.k c) => (gA φ a).map fun a => .slice (some a) len c
  | .slc (some a) len (.u e) => (gA φ a).bind fun x => (gCap φ e len a).map fun c => .slice (some x) len c
  | .map none => some (.map none)
  | .map (some id) => (φ id).map fun L => .map (some L.blk)
  | .fn f first caps => (gL φ first).bind fun a => (gL φ caps).map fun b => .func f a.toArray b.toArray
  | .nilFn => some .nilFunc
  | .ifc t v => (g φ v).map fun v => .iface t v
  | .nilIfc => some .nilIface
  | .agg l => (gL φ l).map fun l => .agg l.toArray
  | .tup l => (gL φ l).map fun l => .tuple l.toArray
  | .sint k n hs => if hintOk n hs = true then some (.int k n) else none
  | .tstr i => some (.string ⟨(Sy.str i).toArray⟩)
  | .sbit n bs => if bitsOk n bs = true then some (.int .u64 n) else none
  | .any i => (φ i).map fun L => L.val
  | .sflt i hs => if fHintOk (Sy.flt i) hs = true then some (.float .f64 (Sy.flt i)) else none
noncomputable def gL (φ : Mp) : List AV → Option (List Value)
  | [] => some []
  | v :: l => (g φ v).bind fun x => (gL φ l).map fun xs => x :: xs
end

/-- More blocks are known. -/
noncomputable def Sub (φ φ' : Mp) : Prop := ∀ id L, φ id = some L → φ' id = some L

theorem Sub.refl (φ : Mp) : Sub φ φ := fun _ _ h => h
theorem Sub.trans {a b c : Mp} (h : Sub a b) (k : Sub b c) : Sub a c := fun id L e => k id L (h id L e)

theorem gA_sub {φ φ' : Mp} (h : Sub φ φ') {a : Ad × Nat} {x : Addr} (e : gA φ a = some x) : gA φ' a = some x := by
  obtain ⟨d, off⟩ := a
  cases d with
  | glob n => exact e
  | own id =>
    simp only [gA, Option.map_eq_some_iff] at e ⊢
    obtain ⟨L, hL, hx⟩ := e
    exact ⟨L, h _ _ hL, hx⟩

theorem gCap_sub {φ φ' : Mp} (h : Sub φ φ') {z n : Nat} {a : Ad × Nat} {x : Nat} (e : gCap φ z n a = some x) : gCap φ' z n a = some x := by
  obtain ⟨d, off⟩ := a
  cases d with
  | glob n => exact e
  | own id =>
    simp only [gCap, Option.bind_eq_some_iff] at e ⊢
    obtain ⟨L, hL, hx⟩ := e
    exact ⟨L, h _ _ hL, hx⟩

mutual
theorem g_sub {φ φ' : Mp} (h : Sub φ φ') : ∀ {v : AV} {x : Value}, g φ v = some x → g φ' v = some x
  | .bool _, _, e => e
  | .int _ _, _, e => e
  | .flt _ _, _, e => e
  | .str _, _, e => e
  | .ptr none, _, e => e
  | .ptr (some a), x, e => by
    simp only [g, Option.map_eq_some_iff] at e ⊢
    obtain ⟨y, hy, hx⟩ := e
    exact ⟨y, gA_sub h hy, hx⟩
  | .slc none _ (.k _), _, e => e
  | .slc none _ (.u _), _, e => e
  | .slc (some a) _ (.k _), x, e => by
    simp only [g, Option.map_eq_some_iff] at e ⊢
    obtain ⟨y, hy, hx⟩ := e
    exact ⟨y, gA_sub h hy, hx⟩
  | .slc (some a) _ (.u _), x, e => by
    simp only [g, Option.map_eq_some_iff, Option.bind_eq_some_iff] at e ⊢
    obtain ⟨y, hy, c, hc, hx⟩ := e
    exact ⟨y, gA_sub h hy, c, gCap_sub h hc, hx⟩
  | .map none, _, e => e
  | .map (some id), x, e => by
    simp only [g, Option.map_eq_some_iff] at e ⊢
    obtain ⟨y, hy, hx⟩ := e
    exact ⟨y, h _ _ hy, hx⟩
  | .fn f first caps, x, e => by
    simp only [g, Option.map_eq_some_iff, Option.bind_eq_some_iff] at e ⊢
    obtain ⟨a, ha, b, hb, hx⟩ := e
    exact ⟨a, gL_sub h ha, b, gL_sub h hb, hx⟩
  | .nilFn, _, e => e
  | .ifc t v, x, e => by
    simp only [g, Option.map_eq_some_iff] at e ⊢
    obtain ⟨y, hy, hx⟩ := e
    exact ⟨y, g_sub h hy, hx⟩
  | .nilIfc, _, e => e
  | .agg l, x, e => by
    simp only [g, Option.map_eq_some_iff] at e ⊢
    obtain ⟨y, hy, hx⟩ := e
    exact ⟨y, gL_sub h hy, hx⟩
  | .tup l, x, e => by
    simp only [g, Option.map_eq_some_iff] at e ⊢
    obtain ⟨y, hy, hx⟩ := e
    exact ⟨y, gL_sub h hy, hx⟩
  | .sint _ _ _, _, e => e
  | .tstr _, _, e => e
  | .sbit _ _, _, e => e
  | .sflt _ _, _, e => e
  | .any i, x, e => by
    simp only [g, Option.map_eq_some_iff] at e ⊢
    obtain ⟨y, hy, hx⟩ := e
    exact ⟨y, h _ _ hy, hx⟩
theorem gL_sub {φ φ' : Mp} (h : Sub φ φ') : ∀ {l : List AV} {xs : List Value}, gL φ l = some xs → gL φ' l = some xs
  | [], _, e => e
  | v :: l, xs, e => by
    simp only [gL, Option.map_eq_some_iff, Option.bind_eq_some_iff] at e ⊢
    obtain ⟨y, hy, ys, hys, hx⟩ := e
    exact ⟨y, g_sub h hy, ys, gL_sub h hys, hx⟩
end

theorem gL_length {φ : Mp} : ∀ {l : List AV} {xs : List Value}, gL φ l = some xs → xs.length = l.length
  | [], _, e => by simp only [gL, Option.some.injEq] at e; subst e; rfl
  | v :: l, xs, e => by
    simp only [gL, Option.map_eq_some_iff, Option.bind_eq_some_iff] at e
    obtain ⟨y, hy, ys, hys, rfl⟩ := e
    simp [gL_length hys]

theorem gL_get {φ : Mp} : ∀ {l : List AV} {xs : List Value}, gL φ l = some xs → ∀ (i : Nat) (v : AV), l[i]? = some v → ∃ x, xs[i]? = some x ∧ g φ v = some x
  | [], _, _, i, v, h => by simp at h
  | u :: l, xs, e, i, v, h => by
    simp only [gL, Option.map_eq_some_iff, Option.bind_eq_some_iff] at e
    obtain ⟨y, hy, ys, hys, rfl⟩ := e
    cases i with
    | zero => simp only [List.getElem?_cons_zero, Option.some.injEq] at h; subst h; exact ⟨y, by simp, hy⟩
    | succ i => simp only [List.getElem?_cons_succ] at h; simpa using gL_get hys i v h

theorem gL_append {φ : Mp} : ∀ {l m : List AV} {xs ys : List Value}, gL φ l = some xs → gL φ m = some ys → gL φ (l ++ m) = some (xs ++ ys)
  | [], m, xs, ys, e, k => by simp only [gL, Option.some.injEq] at e; subst e; simpa using k
  | v :: l, m, xs, ys, e, k => by
    simp only [gL, Option.map_eq_some_iff, Option.bind_eq_some_iff] at e
    obtain ⟨y, hy, zs, hzs, rfl⟩ := e
    simp [gL, hy, gL_append hzs k]

theorem gL_take {φ : Mp} (n : Nat) : ∀ {l : List AV} {xs : List Value}, gL φ l = some xs → gL φ (l.take n) = some (xs.take n) := by
  induction n with
  | zero => intro l xs _; simp [gL]
  | succ n ih =>
    intro l xs e
    cases l with
    | nil => simp only [gL, Option.some.injEq] at e; subst e; simp [gL]
    | cons v l =>
      simp only [gL, Option.map_eq_some_iff, Option.bind_eq_some_iff] at e
      obtain ⟨y, hy, zs, hzs, rfl⟩ := e
      simp [gL, hy, ih hzs]

theorem gL_drop {φ : Mp} (n : Nat) : ∀ {l : List AV} {xs : List Value}, gL φ l = some xs → gL φ (l.drop n) = some (xs.drop n) := by
  induction n with
  | zero => intro l xs e; simpa using e
  | succ n ih =>
    intro l xs e
    cases l with
    | nil => simp only [gL, Option.some.injEq] at e; subst e; simp [gL]
    | cons v l =>
      simp only [gL, Option.map_eq_some_iff, Option.bind_eq_some_iff] at e
      obtain ⟨y, hy, zs, hzs, rfl⟩ := e
      simpa using ih hzs

theorem gL_set {φ : Mp} : ∀ {l : List AV} {xs : List Value} (i : Nat) {v : AV} {x : Value}, gL φ l = some xs → g φ v = some x → gL φ (l.set i v) = some (xs.set i x)
  | [], xs, i, v, x, e, k => by simp only [gL, Option.some.injEq] at e; subst e; simp [gL]
  | u :: l, xs, i, v, x, e, k => by
    simp only [gL, Option.map_eq_some_iff, Option.bind_eq_some_iff] at e
    obtain ⟨y, hy, zs, hzs, rfl⟩ := e
    cases i with
    | zero => simp [gL, k, hzs]
    | succ i => simp [gL, hy, gL_set i hzs k]

/-- The cells of an abstract value. -/
noncomputable def AV.cells : AV → List AV
  | .agg l => l
  | v => [v]

noncomputable def AV.isAny : AV → Bool
  | .any _ => true
  | _ => false
theorem not_any {v : AV} (h : ∀ φ, ∃ x, g φ v = some x) : v.isAny = false := by
  cases v with
  | any i => obtain ⟨x, h⟩ := h (fun _ => none); cases h
  | _ => rfl
theorem g_cells {φ : Mp} {v : AV} {x : Value} (hn : v.isAny = false) (h : g φ v = some x) : gL φ v.cells = some x.cells.toList := by
  cases v with
  | any i => cases hn
  | agg l =>
    simp only [g, Option.map_eq_some_iff] at h
    obtain ⟨y, hy, rfl⟩ := h
    simp [AV.cells, Value.cells, hy]
  | slc a len cap =>
    cases a with
    | none => cases cap with
      | u e => simp [g] at h
      | k c => simp only [g, Option.some.injEq] at h; subst h; simp [AV.cells, Value.cells, gL, g]
    | some a => cases cap with
      | u e =>
        have h' := h
        simp only [g, Option.map_eq_some_iff, Option.bind_eq_some_iff] at h
        obtain ⟨y, hy, c, hc, rfl⟩ := h
        simp [AV.cells, Value.cells, gL, h']
      | k c =>
        have h' := h
        simp only [g, Option.map_eq_some_iff] at h
        obtain ⟨y, hy, rfl⟩ := h
        simp [AV.cells, Value.cells, gL, h']
  | ptr a => 
    have h' := h
    cases a with
    | none => simp only [g, Option.some.injEq] at h; subst h; simp [AV.cells, Value.cells, gL, g]
    | some a => simp only [g, Option.map_eq_some_iff] at h; obtain ⟨y, hy, rfl⟩ := h; simp [AV.cells, Value.cells, gL, h']
  | map a => 
    have h' := h
    cases a with
    | none => simp only [g, Option.some.injEq] at h; subst h; simp [AV.cells, Value.cells, gL, g]
    | some a => simp only [g, Option.map_eq_some_iff] at h; obtain ⟨y, hy, rfl⟩ := h; simp [AV.cells, Value.cells, gL, h']
  | fn f a b =>
    have h' := h
    simp only [g, Option.map_eq_some_iff, Option.bind_eq_some_iff] at h
    obtain ⟨y, hy, c, hc, rfl⟩ := h
    simp [AV.cells, Value.cells, gL, h']
  | ifc t v => 
    have h' := h
    simp only [g, Option.map_eq_some_iff] at h; obtain ⟨y, hy, rfl⟩ := h; simp [AV.cells, Value.cells, gL, h']
  | tup l => 
    have h' := h
    simp only [g, Option.map_eq_some_iff] at h; obtain ⟨y, hy, rfl⟩ := h; simp [AV.cells, Value.cells, gL, h']
  | sbit n bs =>
    have h' := h
    simp only [g] at h
    split at h
    · simp only [Option.some.injEq] at h; subst h; simp [AV.cells, Value.cells, gL, h']
    · cases h
  | sflt i hs =>
    have h' := h
    simp only [g] at h
    split at h
    · simp only [Option.some.injEq] at h; subst h; simp [AV.cells, Value.cells, gL, h']
    · cases h
  | sint k n hs =>
    have h' := h
    simp only [g] at h
    split at h
    · simp only [Option.some.injEq] at h; subst h; simp [AV.cells, Value.cells, gL, h']
    · cases h
  | _ => simp only [g, Option.some.injEq] at h; subst h; simp [AV.cells, Value.cells, gL, g]

/-! ## Abstract heaps -/

inductive AO where
  /-- A row of variables; 'tail': behind these cells there may be more, that nobody else reads: an element's cells. -/
  | row (el : TypeId) (cs : Cl) (tail : Option Nat)
  | mp (es : List (AV × AV))
  /-- An iterator over a string. -/
  | sit (s : List UInt8) (pos : Nat)
  /-- A row of elements of so many cells, in an order that is not known. -/
  | perm (el : TypeId) (sz : Nat) (es : List (List AV))
  /-- A map that nobody turns: its stamps are what the name j says. -/
  | fmp (es : List (AV × AV)) (j : Nat)

structure Hp where
  tr : T AO
  nxt : Nat

namespace Hp
noncomputable def get (h : Hp) (id : Nat) : Option AO := h.tr.get (Ps.key id)
noncomputable def set (h : Hp) (id : Nat) (o : AO) : Hp := { tr := h.tr.put (some o) (Ps.key id), nxt := h.nxt }
noncomputable def del (h : Hp) (id : Nat) : Hp := { tr := h.tr.put none (Ps.key id), nxt := h.nxt }
noncomputable def new (h : Hp) (o : AO) : Hp := { tr := h.tr.put (some o) (Ps.key h.nxt), nxt := h.nxt + 1 }
noncomputable def empty : Hp := { tr := .nil, nxt := 0 }
/-- What a map holds. -/
noncomputable def mpAt (h : Hp) (id : Nat) : Option (List (AV × AV)) := match h.get id with
  | some (.mp es) => some es
  | some (.fmp es _) => some es
  | _ => none
theorem get_set (h : Hp) (id j : Nat) (o : AO) : (h.set id o).get j = if j = id then some o else h.get j := by
  simp [get, set, T.get_put, Ps.key_eq]
theorem get_del (h : Hp) (id j : Nat) : (h.del id).get j = if j = id then none else h.get j := by
  simp [get, del, T.get_put, Ps.key_eq]
theorem get_new (h : Hp) (j : Nat) (o : AO) : (h.new o).get j = if j = h.nxt then some o else h.get j := by
  simp [get, new, T.get_put, Ps.key_eq]
theorem get_empty (j : Nat) : empty.get j = none := T.get_nil _
@[simp] theorem nxt_set (h : Hp) (id : Nat) (o : AO) : (h.set id o).nxt = h.nxt := rfl
@[simp] theorem nxt_del (h : Hp) (id : Nat) : (h.del id).nxt = h.nxt := rfl
@[simp] theorem nxt_new (h : Hp) (o : AO) : (h.new o).nxt = h.nxt + 1 := rfl
end Hp

noncomputable def gP (φ : Mp) : List (AV × AV) → Option (List (Value × Value))
  | [] => some []
  | (k, v) :: l => (g φ k).bind fun x => (g φ v).bind fun y => (gP φ l).map fun r => (x, y) :: r

theorem gP_sub {φ φ' : Mp} (h : Sub φ φ') : ∀ {l : List (AV × AV)} {xs : List (Value × Value)}, gP φ l = some xs → gP φ' l = some xs
  | [], _, e => e
  | (k, v) :: l, xs, e => by
    simp only [gP, Option.map_eq_some_iff, Option.bind_eq_some_iff] at e ⊢
    obtain ⟨y, hy, z, hz, ys, hys, hx⟩ := e
    exact ⟨y, g_sub h hy, z, g_sub h hz, ys, gP_sub h hys, hx⟩

/-- A map's stamps, as a value. -/
noncomputable def stamps (ents : Array MapEntry) (clock : Nat) : Value := .tuple ((.int .i64 clock :: ents.toList.map fun e => Value.int .i64 e.born).toArray)

/-- What a row's tail says: some 0: a block of its own, whole. -/
def TailOk (L : Lc) (tail : Option Nat) (c x : Nat) : Prop := ∀ n, tail = some n → (L.esz = n ∧ 0 < n) ∨ (n = 0 ∧ L.base = 0 ∧ c = L.tot ∧ x = L.tot)
theorem TailOk.to {L : Lc} {tail : Option Nat} {c c' x x' : Nat} (h : TailOk L tail c x) (hc : c' = c) (hx : x' = x) : TailOk L tail c' x' := by subst hc; subst hx; exact h

/-- What an abstract object says of a world. -/
noncomputable def At (φ : Mp) (L : Lc) : AO → World → Prop
  | .row el cs tail, w => ∃ (c : Array Value) (lo hi : Nat) (xs : List Value), w.heap[L.blk]? = some (.cells c el (lo, hi)) ∧ gL φ cs.list = some xs ∧
      L.base + L.tot ≤ c.size ∧ xs.length ≤ L.tot ∧ (tail = none → xs.length = L.tot) ∧ TailOk L tail c.size xs.length ∧
      (∀ i, i < xs.length → c[L.base + i]? = xs[i]?) ∧ (lo = hi ∨ c.size ≤ lo)
  | .mp es, w => ∃ (ents : Array MapEntry) (clock : Nat), w.heap[L.blk]? = some (.map ents clock) ∧
      gP φ es = some (ents.toList.map fun e => (e.key, e.val)) ∧ (∀ e ∈ ents.toList, e.born < clock) ∧ (ents.toList.map (·.born)).Pairwise (· < ·)
  | .sit s pos, w => L.base = 0 ∧ w.heap[L.blk]? = some (.stringIter ⟨s.toArray⟩ pos)
  | .perm el sz es, w => ∃ ps : List (List AV), ps.Perm es ∧ ∃ (c : Array Value) (lo hi : Nat) (xs : List Value), w.heap[L.blk]? = some (.cells c el (lo, hi)) ∧ gL φ ps.flatten = some xs ∧
      L.base + L.tot ≤ c.size ∧ xs.length ≤ L.tot ∧ (some sz = none → xs.length = L.tot) ∧ TailOk L (some sz) c.size xs.length ∧
      (∀ i, i < xs.length → c[L.base + i]? = xs[i]?) ∧ (lo = hi ∨ c.size ≤ lo)
  | .fmp es j, w => ∃ (ents : Array MapEntry) (clock : Nat) (M : Lc), w.heap[L.blk]? = some (.map ents clock) ∧
      gP φ es = some (ents.toList.map fun e => (e.key, e.val)) ∧ (∀ e ∈ ents.toList, e.born < clock) ∧ (ents.toList.map (·.born)).Pairwise (· < ·) ∧ φ j = some M ∧ M.val = stamps ents clock

/-- Some order it has. -/
theorem At.perm_row {φ : Mp} {L : Lc} {el : TypeId} {sz : Nat} {es : List (List AV)} {w : World} (h : At φ L (.perm el sz es) w) : ∃ ps : List (List AV), ps.Perm es ∧ At φ L (.row el (.gen ps.flatten) (some sz)) w := h
theorem At.row_perm {φ : Mp} {L : Lc} {el : TypeId} {sz : Nat} {es ps : List (List AV)} {w : World} (hp : ps.Perm es) (h : At φ L (.row el (.gen ps.flatten) (some sz)) w) : At φ L (.perm el sz es) w := ⟨ps, hp, h⟩

/-- What a program's abstract heap says of a world. 'ng': blocks below are the program's own variables and the runtime's. -/
structure Rel (ng : Nat) (gl : Nat → Option (List AV)) (φ : Mp) (h : Hp) (w : World) : Prop where
  at_ : ∀ id o, h.get id = some o → ∃ L, φ id = some L ∧ ng ≤ L.blk ∧ At φ L o w
  inj : ∀ id j o u L M, h.get id = some o → h.get j = some u → φ id = some L → φ j = some M → L.blk = M.blk → id = j
  fresh : ∀ id, h.nxt ≤ id → φ id = none
  ngle : ng ≤ w.heap.size
  gl_ : ∀ n cs, gl n = some cs → n < ng ∧ ∃ c el fz xs, w.heap[n]? = some (.cells c el fz) ∧ gL φ cs = some xs ∧ c.toList = xs

theorem At.mp_of_fmp {φ : Mp} {L : Lc} {es : List (AV × AV)} {j : Nat} {w : World} (h : At φ L (.fmp es j) w) : At φ L (.mp es) w := by
  obtain ⟨ents, clock, M, h1, h2, h3, h4, _⟩ := h
  exact ⟨ents, clock, h1, h2, h3, h4⟩
theorem Rel.mpAt {ng : Nat} {gl : Nat → Option (List AV)} {φ : Mp} {h : Hp} {w : World} (hR : Rel ng gl φ h w) {id : Nat} {es : List (AV × AV)} (he : h.mpAt id = some es) : ∃ L, φ id = some L ∧ ng ≤ L.blk ∧ At φ L (.mp es) w := by
  unfold Hp.mpAt at he
  split at he
  · rename_i es' hg
    simp only [Option.some.injEq] at he; subst he
    exact hR.at_ id _ hg
  · rename_i es' j hg
    simp only [Option.some.injEq] at he; subst he
    obtain ⟨L, h1, h2, h3⟩ := hR.at_ id _ hg
    exact ⟨L, h1, h2, h3.mp_of_fmp⟩
  · cases he

theorem At.sub {φ φ' : Mp} (s : Sub φ φ') {L : Lc} {o : AO} {w : World} (h : At φ L o w) : At φ' L o w := by
  cases o with
  | row el cs tail => obtain ⟨c, lo, hi, xs, h1, h2, h3⟩ := h; exact ⟨c, lo, hi, xs, h1, gL_sub s h2, h3⟩
  | mp es => obtain ⟨ents, clock, h1, h2, h3⟩ := h; exact ⟨ents, clock, h1, gP_sub s h2, h3⟩
  | sit s pos => exact h
  | perm el sz es => obtain ⟨ps, hp, c, lo, hi, xs, h1, h2, h3⟩ := h; exact ⟨ps, hp, c, lo, hi, xs, h1, gL_sub s h2, h3⟩
  | fmp es j => obtain ⟨ents, clock, M, h1, h2, h3, h4, h5, h6⟩ := h; exact ⟨ents, clock, M, h1, gP_sub s h2, h3, h4, s _ _ h5, h6⟩

theorem At.frame {φ : Mp} {L : Lc} {o : AO} {w w' : World} (h : At φ L o w) (e : w'.heap[L.blk]? = w.heap[L.blk]?) : At φ L o w' := by
  cases o with
  | row el cs tail => obtain ⟨c, lo, hi, xs, h1, h2⟩ := h; exact ⟨c, lo, hi, xs, e.trans h1, h2⟩
  | mp es => obtain ⟨ents, clock, h1, h2⟩ := h; exact ⟨ents, clock, e.trans h1, h2⟩
  | sit s pos => exact ⟨h.1, e.trans h.2⟩
  | perm el sz es => obtain ⟨ps, hp, c, lo, hi, xs, h1, h2⟩ := h; exact ⟨ps, hp, c, lo, hi, xs, e.trans h1, h2⟩
  | fmp es j => obtain ⟨ents, clock, M, h1, h2⟩ := h; exact ⟨ents, clock, M, e.trans h1, h2⟩

theorem At.lt {φ : Mp} {L : Lc} {o : AO} {w : World} (h : At φ L o w) : L.blk < w.heap.size := by
  have : ∃ x, w.heap[L.blk]? = some x := by
    cases o with
    | row el cs tail => obtain ⟨c, lo, hi, xs, h1, h2⟩ := h; exact ⟨_, h1⟩
    | mp es => obtain ⟨ents, clock, h1, h2⟩ := h; exact ⟨_, h1⟩
    | sit s pos => exact ⟨_, h.2⟩
    | perm el sz es => obtain ⟨ps, hp, c, lo, hi, xs, h1, h2⟩ := h; exact ⟨_, h1⟩
    | fmp es j => obtain ⟨ents, clock, M, h1, h2⟩ := h; exact ⟨_, h1⟩
  obtain ⟨x, hx⟩ := this
  exact (Array.getElem?_eq_some_iff.1 hx).1

/-- A new name for a place. -/
noncomputable def upd (φ : Mp) (id : Nat) (L : Lc) : Mp := fun j => if j = id then some L else φ j

theorem upd_self (φ : Mp) (id : Nat) (L : Lc) : upd φ id L id = some L := by simp [upd]
theorem upd_ne {φ : Mp} {id j : Nat} {L : Lc} (h : j ≠ id) : upd φ id L j = φ j := by simp [upd, h]
theorem upd_sub {φ : Mp} {id : Nat} (L : Lc) (h : φ id = none) : Sub φ (upd φ id L) := by
  intro j M e
  by_cases hj : j = id
  · subst hj; rw [h] at e; cases e
  · rw [upd_ne hj]; exact e

/-- A block that the abstract heap knows of. -/
noncomputable def Dom (φ : Mp) (h : Hp) (b : Nat) : Prop := ∃ id o L, h.get id = some o ∧ φ id = some L ∧ L.blk = b

/-- A cell that one of the known rows holds. -/
noncomputable def Seen (φ : Mp) (h : Hp) (b o : Nat) : Prop := ∃ id ob L, h.get id = some ob ∧ φ id = some L ∧ L.blk = b ∧ L.base ≤ o ∧ o < L.base + L.tot

/-- What became of a world: what the abstract heap does not know of has not turned. -/
structure St0 (φ : Mp) (h : Hp) (w : World) (φ' : Mp) (h' : Hp) (w' : World) : Prop where
  sub : Sub φ φ'
  os : w'.os = w.os
  tape : w'.tape = w.tape
  output : w'.output = w.output
  size : w.heap.size ≤ w'.heap.size
  block : ∀ b, b < w.heap.size → ¬ Dom φ h b → w'.heap[b]? = w.heap[b]?
  dom : ∀ b, Dom φ' h' b → Dom φ h b ∨ w.heap.size ≤ b
  cells : ∀ b c el fz, b < w.heap.size → w.heap[b]? = some (.cells c el fz) → ∃ c' fz', w'.heap[b]? = some (.cells c' el fz') ∧ c'.size = c.size ∧ ∀ o, ¬ Seen φ h b o → c'[o]? = c[o]?
  view : ∀ id' o' L', h'.get id' = some o' → φ' id' = some L' → L'.blk < w.heap.size → ∃ id o L, h.get id = some o ∧ φ id = some L ∧ L.blk = L'.blk ∧ L.base ≤ L'.base ∧ L'.base + L'.tot ≤ L.base + L.tot

theorem St0.refl (φ : Mp) (h : Hp) (w : World) : St0 φ h w φ h w := ⟨Sub.refl _, rfl, rfl, rfl, Nat.le_refl _, fun _ _ _ => rfl, fun _ h => .inl h, fun b c el fz _ hc => ⟨c, fz, hc, rfl, fun _ _ => rfl⟩, fun id o L h1 h2 _ => ⟨id, o, L, h1, h2, rfl, Nat.le_refl _, Nat.le_refl _⟩⟩

theorem St0.trans {φ₁ φ₂ φ₃ : Mp} {h₁ h₂ h₃ : Hp} {w₁ w₂ w₃ : World} (a : St0 φ₁ h₁ w₁ φ₂ h₂ w₂) (b : St0 φ₂ h₂ w₂ φ₃ h₃ w₃) : St0 φ₁ h₁ w₁ φ₃ h₃ w₃ where
  sub := a.sub.trans b.sub
  os := b.os.trans a.os
  tape := b.tape.trans a.tape
  output := b.output.trans a.output
  size := Nat.le_trans a.size b.size
  block := fun k hk hn => by
    rw [b.block k (Nat.lt_of_lt_of_le hk a.size) (fun hd => ?_), a.block k hk hn]
    rcases a.dom k hd with h | h
    · exact hn h
    · omega
  dom := fun k hd => by
    rcases b.dom k hd with h | h
    · exact a.dom k h
    · exact .inr (Nat.le_trans a.size h)
  cells := fun k c el fz hk hc => by
    obtain ⟨c1, fz1, h1, s1, e1⟩ := a.cells k c el fz hk hc
    obtain ⟨c2, fz2, h2, s2, e2⟩ := b.cells k c1 el fz1 (Nat.lt_of_lt_of_le hk a.size) h1
    refine ⟨c2, fz2, h2, s2.trans s1, fun o ho => ?_⟩
    rw [e2 o ?_, e1 o ho]
    rintro ⟨id, ob, L, g1, g2, g3, g4, g5⟩
    obtain ⟨id', o', L', k1, k2, k3, k4, k5⟩ := a.view id ob L g1 g2 (by omega)
    exact ho ⟨id', o', L', k1, k2, by omega, by omega, by omega⟩
  view := fun id o L h1 h2 h3 => by
    obtain ⟨id', o', L', k1, k2, k3, k4, k5⟩ := b.view id o L h1 h2 (by have := a.size; omega)
    obtain ⟨id2, o2, L2, m1, m2, m3, m4, m5⟩ := a.view id' o' L' k1 k2 (by omega)
    exact ⟨id2, o2, L2, m1, m2, by omega, by omega, by omega⟩

/-- And of the names: none below the next was given. -/
structure Stp (φ : Mp) (h : Hp) (w : World) (φ' : Mp) (h' : Hp) (w' : World) : Prop extends St0 φ h w φ' h' w' where
  old : ∀ id, id < h.nxt → φ' id = φ id
  nx : h.nxt ≤ h'.nxt
theorem Stp.refl (φ : Mp) (h : Hp) (w : World) : Stp φ h w φ h w := ⟨St0.refl _ _ _, fun _ _ => rfl, Nat.le_refl _⟩
theorem Stp.trans {φ₁ φ₂ φ₃ : Mp} {h₁ h₂ h₃ : Hp} {w₁ w₂ w₃ : World} (a : Stp φ₁ h₁ w₁ φ₂ h₂ w₂) (b : Stp φ₂ h₂ w₂ φ₃ h₃ w₃) : Stp φ₁ h₁ w₁ φ₃ h₃ w₃ :=
  ⟨a.toSt0.trans b.toSt0, fun id h => by rw [b.old id (Nat.lt_of_lt_of_le h a.nx), a.old id h], Nat.le_trans a.nx b.nx⟩
/-- A name that was given, seen from where it was free. -/
theorem Stp.also {φ₁ φ₂ : Mp} {h₁ h₂ h₃ : Hp} {w₁ w₂ w₃ : World} {id : Nat} {L : Lc} (a : Stp φ₁ h₁ w₁ φ₂ h₂ w₂) (b : St0 φ₂ h₂ w₂ (upd φ₂ id L) h₃ w₃) (hid : h₁.nxt ≤ id) (hn : h₂.nxt ≤ h₃.nxt) : Stp φ₁ h₁ w₁ (upd φ₂ id L) h₃ w₃ :=
  ⟨a.toSt0.trans b, fun j h => by rw [upd_ne (by omega), a.old j h], Nat.le_trans a.nx hn⟩

/-- A new block. -/
theorem alloc_step0 {ng : Nat} {gl : Nat → Option (List AV)} {φ : Mp} {h h' : Hp} {w w' : World} {id : Nat} {ob : AO} (hR : Rel ng gl φ h w) (L : Lc) (hid : φ id = none)
    (hget : ∀ j, h'.get j = if j = id then some ob else h.get j) (hn : id < h'.nxt) (hn' : h.nxt ≤ h'.nxt) (hL : L.blk = w.heap.size) (hat : At (upd φ id L) L ob w')
    (os : w'.os = w.os) (tape : w'.tape = w.tape) (output : w'.output = w.output) (hsz : w'.heap.size = w.heap.size + 1) (hold : ∀ b, b < w.heap.size → w'.heap[b]? = w.heap[b]?) :
    Rel ng gl (upd φ id L) h' w' ∧ St0 φ h w (upd φ id L) h' w' := by
  have hsub := upd_sub L hid
  refine ⟨⟨?_, ?_, ?_, ?_, ?_⟩, ⟨hsub, os, tape, output, by omega, fun b hb _ => hold b hb, ?_, fun b c el fz hb hc => ⟨c, fz, by rw [hold b hb]; exact hc, rfl, fun _ _ => rfl⟩, ?_⟩⟩
  · intro j o hj
    rw [hget] at hj
    by_cases hji : j = id
    · subst hji
      simp only [if_true, Option.some.injEq] at hj; subst hj
      exact ⟨L, upd_self _ _ _, by rw [hL]; exact hR.ngle, hat⟩
    · rw [if_neg hji] at hj
      obtain ⟨M, hM, hng, hAt⟩ := hR.at_ j o hj
      exact ⟨M, hsub _ _ hM, hng, (hAt.sub hsub).frame (hold _ hAt.lt)⟩
  · intro i j o u M N hi hj hM hN hb
    rw [hget] at hi hj
    by_cases hii : i = id
    · by_cases hjj : j = id
      · rw [hii, hjj]
      · rw [if_neg hjj] at hj
        obtain ⟨N', hN', _, hAt⟩ := hR.at_ j u hj
        rw [upd_ne hjj, hN'] at hN; simp only [Option.some.injEq] at hN; subst hN
        subst hii; rw [upd_self] at hM; simp only [Option.some.injEq] at hM; subst hM
        have := hAt.lt; omega
    · rw [if_neg hii] at hi
      obtain ⟨M', hM', _, hAt⟩ := hR.at_ i o hi
      rw [upd_ne hii, hM'] at hM; simp only [Option.some.injEq] at hM; subst hM
      by_cases hjj : j = id
      · subst hjj; rw [upd_self] at hN; simp only [Option.some.injEq] at hN; subst hN
        have := hAt.lt; omega
      · rw [if_neg hjj] at hj
        obtain ⟨N', hN', _, hAt'⟩ := hR.at_ j u hj
        rw [upd_ne hjj, hN'] at hN; simp only [Option.some.injEq] at hN; subst hN
        exact hR.inj i j o u M' N' hi hj hM' hN' hb
  · intro j hj
    rw [upd_ne (by omega)]
    exact hR.fresh j (by omega)
  · rw [hsz]; have := hR.ngle; omega
  · intro n cs hg
    obtain ⟨hlt, c, el, fz, xs, h1, h2, h3⟩ := hR.gl_ n cs hg
    exact ⟨hlt, c, el, fz, xs, by rw [hold n (by have := hR.ngle; omega), h1], gL_sub hsub h2, h3⟩
  · rintro b ⟨j, o, M, hj, hM, rfl⟩
    rw [hget] at hj
    by_cases hji : j = id
    · subst hji; rw [upd_self] at hM; simp only [Option.some.injEq] at hM; subst hM
      right; omega
    · rw [if_neg hji] at hj
      rw [upd_ne hji] at hM
      exact .inl ⟨j, o, M, hj, hM, rfl⟩
  · intro j o M hj hM hlt
    rw [hget] at hj
    by_cases hji : j = id
    · subst hji; rw [upd_self] at hM; simp only [Option.some.injEq] at hM; subst hM
      omega
    · rw [if_neg hji] at hj
      rw [upd_ne hji] at hM
      exact ⟨j, o, M, hj, hM, rfl, Nat.le_refl _, Nat.le_refl _⟩

theorem alloc_step {ng : Nat} {gl : Nat → Option (List AV)} {φ : Mp} {h h' : Hp} {w w' : World} {id : Nat} {ob : AO} (hR : Rel ng gl φ h w) (L : Lc) (hid : φ id = none)
    (hget : ∀ j, h'.get j = if j = id then some ob else h.get j) (hn : id < h'.nxt) (hn' : h.nxt ≤ h'.nxt) (hL : L.blk = w.heap.size) (hat : At (upd φ id L) L ob w')
    (os : w'.os = w.os) (tape : w'.tape = w.tape) (output : w'.output = w.output) (hsz : w'.heap.size = w.heap.size + 1) (hold : ∀ b, b < w.heap.size → w'.heap[b]? = w.heap[b]?) (hio : h.nxt ≤ id := by exact Nat.le_refl _) :
    Rel ng gl (upd φ id L) h' w' ∧ Stp φ h w (upd φ id L) h' w' := by
  obtain ⟨a, b⟩ := alloc_step0 hR L hid hget hn hn' hL hat os tape output hsz hold
  exact ⟨a, (Stp.refl _ _ _).also b hio hn'⟩

/-- A new name alone. -/
theorem name_step {ng : Nat} {gl : Nat → Option (List AV)} {φ : Mp} {h h' : Hp} {w : World} {id : Nat} (hR : Rel ng gl φ h w) (L : Lc) (hid : φ id = none) (hno : h.get id = none)
    (hget : ∀ j, h'.get j = h.get j) (hn : id < h'.nxt) (hn' : h.nxt ≤ h'.nxt) : Rel ng gl (upd φ id L) h' w ∧ St0 φ h w (upd φ id L) h' w := by
  have hsub := upd_sub L hid
  have hne : ∀ j o, h.get j = some o → j ≠ id := by
    intro j o hj he; subst he; rw [hno] at hj; cases hj
  refine ⟨⟨?_, ?_, ?_, hR.ngle, ?_⟩, ⟨hsub, rfl, rfl, rfl, Nat.le_refl _, fun _ _ _ => rfl, ?_, fun b c el fz _ hc => ⟨c, fz, hc, rfl, fun _ _ => rfl⟩, ?_⟩⟩
  · intro j o hj
    rw [hget] at hj
    obtain ⟨M, hM, hng, hAt⟩ := hR.at_ j o hj
    exact ⟨M, hsub _ _ hM, hng, hAt.sub hsub⟩
  · intro i j o u M N hi hj hM hN hb
    rw [hget] at hi hj
    rw [upd_ne (hne i o hi)] at hM
    rw [upd_ne (hne j u hj)] at hN
    exact hR.inj i j o u M N hi hj hM hN hb
  · intro j hj
    rw [upd_ne (by omega)]
    exact hR.fresh j (by omega)
  · intro n cs hg
    obtain ⟨hlt, c, el, fz, xs, h1, h2, h3⟩ := hR.gl_ n cs hg
    exact ⟨hlt, c, el, fz, xs, h1, gL_sub hsub h2, h3⟩
  · rintro b ⟨j, o, M, hj, hM, rfl⟩
    rw [hget] at hj
    rw [upd_ne (hne j o hj)] at hM
    exact .inl ⟨j, o, M, hj, hM, rfl⟩
  · intro j o M hj hM _
    rw [hget] at hj
    rw [upd_ne (hne j o hj)] at hM
    exact ⟨j, o, M, hj, hM, rfl, Nat.le_refl _, Nat.le_refl _⟩

/-- An object that is turned in place. -/
theorem set_step {ng : Nat} {gl : Nat → Option (List AV)} {φ : Mp} {h : Hp} {w w' : World} {id : Nat} {o0 ob : AO} {L : Lc} (hR : Rel ng gl φ h w) (hid : h.get id = some o0) (hL : φ id = some L) (hat : At φ L ob w')
    (os : w'.os = w.os) (tape : w'.tape = w.tape) (output : w'.output = w.output) (hsz : w'.heap.size = w.heap.size) (hold : ∀ b, b ≠ L.blk → w'.heap[b]? = w.heap[b]?)
    (hcells : ∀ c el fz, w.heap[L.blk]? = some (.cells c el fz) → ∃ c' fz', w'.heap[L.blk]? = some (.cells c' el fz') ∧ c'.size = c.size ∧ ∀ o, ¬ (L.base ≤ o ∧ o < L.base + L.tot) → c'[o]? = c[o]?) :
    Rel ng gl φ (h.set id ob) w' ∧ Stp φ h w φ (h.set id ob) w' := by
  obtain ⟨L', hL', hng, hat0⟩ := hR.at_ id o0 hid
  rw [hL] at hL'; simp only [Option.some.injEq] at hL'; subst hL'
  have other : ∀ j o M, h.get j = some o → φ j = some M → j ≠ id → M.blk ≠ L.blk := by
    intro j o M hj hM hne hb
    exact hne (hR.inj j id o o0 M L hj hid hM hL hb)
  refine ⟨⟨?_, ?_, ?_, by rw [hsz]; exact hR.ngle, ?_⟩, ⟨⟨Sub.refl _, os, tape, output, by omega, fun b _ hd => ?_, ?_, fun b c el fz _ hc => ?_, ?_⟩, fun _ _ => rfl, Nat.le_refl _⟩⟩
  · intro j o hj
    rw [Hp.get_set] at hj
    by_cases hji : j = id
    · subst hji; simp only [if_true, Option.some.injEq] at hj; subst hj; exact ⟨L, hL, hng, hat⟩
    · rw [if_neg hji] at hj
      obtain ⟨M, hM, hng', hAt⟩ := hR.at_ j o hj
      exact ⟨M, hM, hng', hAt.frame (hold _ (other j o M hj hM hji))⟩
  · intro i j o u M N hi hj hM hN hb
    have hex : ∀ i o, (h.set id ob).get i = some o → ∃ o', h.get i = some o' := by
      intro i o hi
      rw [Hp.get_set] at hi
      by_cases hii : i = id
      · subst hii; exact ⟨_, hid⟩
      · rw [if_neg hii] at hi; exact ⟨_, hi⟩
    obtain ⟨o', ho'⟩ := hex i o hi
    obtain ⟨u', hu'⟩ := hex j u hj
    exact hR.inj i j o' u' M N ho' hu' hM hN hb
  · intro j hj; exact hR.fresh j hj
  · intro n cs hg
    obtain ⟨hlt, c, el, fz, xs, h1, h2, h3⟩ := hR.gl_ n cs hg
    exact ⟨hlt, c, el, fz, xs, by rw [hold n (by omega), h1], h2, h3⟩
  · refine hold b (fun hbe => hd ⟨id, o0, L, hid, hL, hbe.symm⟩)
  · rintro b ⟨j, o, M, hj, hM, rfl⟩
    rw [Hp.get_set] at hj
    by_cases hji : j = id
    · subst hji; exact .inl ⟨j, o0, M, hid, hM, rfl⟩
    · rw [if_neg hji] at hj; exact .inl ⟨j, o, M, hj, hM, rfl⟩
  · by_cases hb : b = L.blk
    · subst hb
      obtain ⟨c', fz', h1, h2, h3⟩ := hcells c el fz hc
      exact ⟨c', fz', h1, h2, fun o ho => h3 o fun ⟨g1, g2⟩ => ho ⟨id, o0, L, hid, hL, rfl, g1, g2⟩⟩
    · exact ⟨c, fz, by rw [hold b hb]; exact hc, rfl, fun _ _ => rfl⟩
  · intro j o M hj hM _
    rw [Hp.get_set] at hj
    by_cases hji : j = id
    · subst hji; exact ⟨j, o0, M, hid, hM, rfl, Nat.le_refl _, Nat.le_refl _⟩
    · rw [if_neg hji] at hj; exact ⟨j, o, M, hj, hM, rfl, Nat.le_refl _, Nat.le_refl _⟩

/-- Less is known. -/
theorem Rel.less {ng : Nat} {gl : Nat → Option (List AV)} {φ : Mp} {h h' : Hp} {w : World} (hR : Rel ng gl φ h w) (hg : ∀ id o, h'.get id = some o → h.get id = some o) (hn : h.nxt ≤ h'.nxt) : Rel ng gl φ h' w :=
  ⟨fun id o ho => hR.at_ id o (hg id o ho), fun i j o u L M hi hj => hR.inj i j o u L M (hg i o hi) (hg j u hj), fun id h => hR.fresh id (Nat.le_trans hn h), hR.ngle, hR.gl_⟩

theorem Stp.less {φ : Mp} {h h' : Hp} {w : World} (hg : ∀ id o, h'.get id = some o → h.get id = some o) (hn : h.nxt ≤ h'.nxt := by exact Nat.le_refl _) : Stp φ h w φ h' w :=
  ⟨⟨Sub.refl _, rfl, rfl, rfl, Nat.le_refl _, fun _ _ _ => rfl, fun b ⟨id, o, L, h1, h2, h3⟩ => .inl ⟨id, o, L, hg id o h1, h2, h3⟩, fun b c el fz _ hc => ⟨c, fz, hc, rfl, fun _ _ => rfl⟩, fun id o L h1 h2 _ => ⟨id, o, L, hg id o h1, h2, rfl, Nat.le_refl _, Nat.le_refl _⟩⟩, fun _ _ => rfl, hn⟩

/-- A row that is handed on under a new name. -/
theorem take_step {ng : Nat} {gl : Nat → Option (List AV)} {φ : Mp} {h : Hp} {w w' : World} {id : Nat} {o0 ob : AO} {L L' : Lc} (hR : Rel ng gl φ h w) (hid : h.get id = some o0) (hL : φ id = some L) (hb : L'.blk = L.blk)
    (hat : At (upd φ h.nxt L') L' ob w') (os : w'.os = w.os) (tape : w'.tape = w.tape) (output : w'.output = w.output) (hsz : w'.heap.size = w.heap.size) (hold : ∀ b, b ≠ L.blk → w'.heap[b]? = w.heap[b]?)
    (hcells : ∀ c el fz, w.heap[L.blk]? = some (.cells c el fz) → ∃ c' fz', w'.heap[L.blk]? = some (.cells c' el fz') ∧ c'.size = c.size ∧ ∀ o, ¬ (L.base ≤ o ∧ o < L.base + L.tot) → c'[o]? = c[o]?) (hv : L.base ≤ L'.base ∧ L'.base + L'.tot ≤ L.base + L.tot) :
    Rel ng gl (upd φ h.nxt L') ((h.del id).new ob) w' ∧ Stp φ h w (upd φ h.nxt L') ((h.del id).new ob) w' := by
  obtain ⟨L0, hL0, hng, hat0⟩ := hR.at_ id o0 hid
  rw [hL] at hL0; simp only [Option.some.injEq] at hL0; subst hL0
  have hfr : φ h.nxt = none := hR.fresh _ (Nat.le_refl _)
  have hsub := upd_sub L' hfr
  have hne : id ≠ h.nxt := by intro e; rw [e, hfr] at hL; cases hL
  have other : ∀ j o M, h.get j = some o → φ j = some M → j ≠ id → M.blk ≠ L.blk := by
    intro j o M hj hM hne hb
    exact hne (hR.inj j id o o0 M L hj hid hM hL hb)
  have hget : ∀ j o, ((h.del id).new ob).get j = some o → (j = h.nxt ∧ o = ob) ∨ (j ≠ h.nxt ∧ j ≠ id ∧ h.get j = some o) := by
    intro j o hj
    rw [Hp.get_new, Hp.nxt_del] at hj
    by_cases h1 : j = h.nxt
    · rw [if_pos h1] at hj; simp only [Option.some.injEq] at hj; exact .inl ⟨h1, hj.symm⟩
    · rw [if_neg h1, Hp.get_del] at hj
      by_cases h2 : j = id
      · rw [if_pos h2] at hj; cases hj
      · rw [if_neg h2] at hj; exact .inr ⟨h1, h2, hj⟩
  refine ⟨⟨?_, ?_, ?_, by rw [hsz]; exact hR.ngle, ?_⟩, ⟨⟨hsub, os, tape, output, by omega, fun b _ hd => ?_, ?_, fun b c el fz _ hc => ?_, ?_⟩, fun j hj => upd_ne (by omega), Nat.le_succ _⟩⟩
  · intro j o hj
    rcases hget j o hj with ⟨rfl, rfl⟩ | ⟨h1, h2, hj⟩
    · exact ⟨L', upd_self _ _ _, by rw [hb]; exact hng, hat⟩
    · obtain ⟨M, hM, hng', hAt⟩ := hR.at_ j o hj
      exact ⟨M, hsub _ _ hM, hng', (hAt.sub hsub).frame (hold _ (other j o M hj hM h2))⟩
  · intro i j o u M N hi hj hM hN hbb
    rcases hget i o hi with ⟨rfl, rfl⟩ | ⟨h1, h2, hi'⟩ <;> rcases hget j u hj with ⟨rfl, rfl⟩ | ⟨k1, k2, hj'⟩
    · rfl
    · rw [upd_self] at hM; simp only [Option.some.injEq] at hM; subst hM
      rw [upd_ne k1] at hN
      exact (other j u N hj' hN k2 (by rw [← hbb, hb])).elim
    · rw [upd_self] at hN; simp only [Option.some.injEq] at hN; subst hN
      rw [upd_ne h1] at hM
      exact (other i o M hi' hM h2 (by rw [hbb, hb])).elim
    · rw [upd_ne h1] at hM; rw [upd_ne k1] at hN
      exact hR.inj i j o u M N hi' hj' hM hN hbb
  · intro j hj
    have : h.nxt + 1 ≤ j := hj
    rw [upd_ne (by omega)]
    exact hR.fresh j (by omega)
  · intro n cs hg
    obtain ⟨hlt, c, el, fz, xs, h1, h2, h3⟩ := hR.gl_ n cs hg
    exact ⟨hlt, c, el, fz, xs, by rw [hold n (by omega), h1], gL_sub hsub h2, h3⟩
  · exact hold b (fun hbe => hd ⟨id, o0, L, hid, hL, hbe.symm⟩)
  · rintro b ⟨j, o, M, hj, hM, rfl⟩
    rcases hget j o hj with ⟨rfl, rfl⟩ | ⟨h1, h2, hj⟩
    · rw [upd_self] at hM; simp only [Option.some.injEq] at hM; subst hM
      exact .inl ⟨id, o0, L, hid, hL, hb.symm⟩
    · rw [upd_ne h1] at hM; exact .inl ⟨j, o, M, hj, hM, rfl⟩
  · by_cases hbb : b = L.blk
    · subst hbb
      obtain ⟨c', fz', h1, h2, h3⟩ := hcells c el fz hc
      exact ⟨c', fz', h1, h2, fun o ho => h3 o fun ⟨g1, g2⟩ => ho ⟨id, o0, L, hid, hL, rfl, g1, g2⟩⟩
    · exact ⟨c, fz, by rw [hold b hbb]; exact hc, rfl, fun _ _ => rfl⟩
  · intro j o M hj hM _
    rcases hget j o hj with ⟨rfl, rfl⟩ | ⟨h1, h2, hj⟩
    · rw [upd_self] at hM; simp only [Option.some.injEq] at hM; subst hM
      exact ⟨id, o0, L, hid, hL, hb.symm, hv.1, hv.2⟩
    · rw [upd_ne h1] at hM; exact ⟨j, o, M, hj, hM, rfl, Nat.le_refl _, Nat.le_refl _⟩
end Ax
namespace Ax
open Go
variable [Sy]

/-! ## Plain words -/

noncomputable def sLt : List UInt8 → List UInt8 → Bool
  | _, [] => false
  | [], _ :: _ => true
  | a :: x, b :: y => bif Nat.blt a.toNat b.toNat then true else bif bEq a b then sLt x y else false
noncomputable def iEq : Int → Int → Bool
  | .ofNat a, .ofNat b => Nat.beq a b
  | .negSucc a, .negSucc b => Nat.beq a b
  | _, _ => false
noncomputable def iLt : Int → Int → Bool
  | .ofNat a, .ofNat b => Nat.blt a b
  | .negSucc a, .negSucc b => Nat.blt b a
  | .negSucc _, .ofNat _ => true
  | .ofNat _, .negSucc _ => false
/-- The least number that is too large for the quick way. -/
noncomputable def roof : IntKind → Nat
  | .i8 => 128 | .i16 => 32768 | .i32 => 2147483648 | .i64 => 9223372036854775808
  | .u8 => 256 | .u16 => 65536 | .u32 => 4294967296 | .u64 => 18446744073709551616
noncomputable def wr (k : IntKind) : Int → Int
  | .ofNat n => bif Nat.blt n (roof k) then .ofNat n else k.wrap (.ofNat n)
  | .negSucc n => k.wrap (.negSucc n)
noncomputable def kEq : IntKind → IntKind → Bool
  | .i8, .i8 | .i16, .i16 | .i32, .i32 | .i64, .i64 | .u8, .u8 | .u16, .u16 | .u32, .u32 | .u64, .u64 => true
  | _, _ => false

/-! ## Operands -/

inductive Od | t (p : Ps) | c (v : AV)

noncomputable def Od.rd (fr : T AV) : Od → AV
  | .t p => match fr.get p with
    | some v => v
    | none => .tup []
  | .c v => v

noncomputable def of1 : Value → Option AV
  | .bool b => some (.bool b)
  | .int k n => some (.int k n)
  | .float k b => some (.flt k b)
  | .string s => some (.str (BS.ofList s.data.toList))
  | .pointer none => some (.ptr none)
  | .slice none l c => some (.slc none l (.k c))
  | .map none => some (.map none)
  | .nilFunc => some .nilFn
  | .nilIface => some .nilIfc
  | .func (.func f) a b => if a.isEmpty && b.isEmpty then some (.fn (.func f) [] []) else none
  | _ => none
noncomputable def ofL : List Value → Option (List AV)
  | [] => some []
  | v :: l => match of1 v, ofL l with
    | some x, some y => some (x :: y)
    | _, _ => none
noncomputable def ofV : Value → Option AV
  | .agg cs => (ofL cs.toList).map .agg
  | .tuple cs => (ofL cs.toList).map .tup
  | v => of1 v

noncomputable def cOd : Operand → Option Od
  | .tmp t => some (.t (Ps.key t))
  | .const v => (ofV v).map .c
  | .global g => some (.c (.ptr (some (.glob g, 0))))
  | .func f => some (.c (.fn (.func f) [] []))

noncomputable def cOds : List Operand → Option (List Od)
  | [] => some []
  | x :: l => match cOd x, cOds l with
    | some a, some b => some (a :: b)
    | _, _ => none

/-! ## How values are compared -/

inductive Lf | bool | int | str | flt
inductive EqK | leaf (l : Lf) | agg (ls : List Lf) | ptr | ifc | slc | mp | fn

noncomputable def eqLf : Lf → AV → AV → Option Bool
  | .bool, .bool a, .bool b => some (a == b)
  | .int, .int k a, .int k' b => bif kEq k k' then some (iEq a b) else none
  | .str, .str a, .str b => some (a.eq b)
  | .flt, .flt .f64 a, .flt .f64 b => some (Op.floatEq .f64 a b)
  | _, _, _ => none
noncomputable def eqLs : List Lf → List AV → List AV → Option Bool
  | [], [], [] => some true
  | l :: ls, x :: xs, y :: ys => match eqLf l x y with
    | some true => eqLs ls xs ys
    | r => r
  | _, _, _ => none
/-- 'lit': one of the two stands in the text as nil. -/
noncomputable def eqV (lit : Bool) : EqK → AV → AV → Option Bool
  | .leaf l, x, y => eqLf l x y
  | .agg ls, .agg xs, .agg ys => bif Nat.beq xs.length ls.length && Nat.beq ys.length ls.length then eqLs ls xs ys else none
  | .ptr, .ptr none, .ptr b => some b.isNone
  | .ptr, .ptr (some _), .ptr none => some false
  | .ifc, .nilIfc, .nilIfc => if lit then some true else none
  | .ifc, .nilIfc, .ifc _ _ => some false
  | .ifc, .ifc _ _, .nilIfc => some false
  | .slc, .slc none _ _, .slc b _ _ => some b.isNone
  | .slc, .slc (some _) _ _, .slc none _ _ => some false
  | .mp, .map none, .map b => some b.isNone
  | .mp, .map (some _), .map none => some false
  | .fn, .nilFn, .nilFn => some true
  | .fn, .nilFn, .fn _ _ _ => some false
  | .fn, .fn _ _ _, .nilFn => some false
  | _, _, _ => none

/-! ## Operations on plain values -/

noncomputable def aInt (op : BinOp) (k : IntKind) (x y : Int) : Option AV :=
  match op with
  | .add => some (.int k (wr k (x + y)))
  | .sub => some (.int k (wr k (x - y)))
  | .mul => some (.int k (wr k (x * y)))
  | .quo => bif iEq y 0 then none else some (.int k (wr k (x.tdiv y)))
  | .rem => bif iEq y 0 then none else some (.int k (x.tmod y))
  | .and => some (.int k (k.wrap ((BitVec.ofInt k.bits x &&& BitVec.ofInt k.bits y).toNat)))
  | .or => some (.int k (k.wrap ((BitVec.ofInt k.bits x ||| BitVec.ofInt k.bits y).toNat)))
  | .xor => some (.int k (k.wrap ((BitVec.ofInt k.bits x ^^^ BitVec.ofInt k.bits y).toNat)))
  | .andNot => some (.int k (k.wrap ((BitVec.ofInt k.bits x &&& ~~~ BitVec.ofInt k.bits y).toNat)))
  | .eql => some (.bool (iEq x y))
  | .neq => some (.bool (!(iEq x y)))
  | .lss => some (.bool (iLt x y))
  | .leq => some (.bool (!(iLt y x)))
  | .gtr => some (.bool (iLt y x))
  | .geq => some (.bool (!(iLt x y)))
  | .shl | .shr => none
noncomputable def aShift (op : BinOp) (k : IntKind) (x y : Int) : Option AV :=
  match y with
  | .negSucc _ => none
  | .ofNat m =>
    match op with
    | .shl => some (.int k (wr k (x * 2 ^ (min m k.bits))))
    | .shr => some (.int k (x.fdiv (2 ^ (min m k.bits))))
    | _ => none
noncomputable def aFlt (op : BinOp) (x y : Nat) : Option AV :=
  match op with
  | .add => (FloatKind.f64.format.add x y).map (.flt .f64)
  | .sub => (FloatKind.f64.format.sub x y).map (.flt .f64)
  | .mul => (FloatKind.f64.format.mul x y).map (.flt .f64)
  | .quo => (FloatKind.f64.format.div x y).map (.flt .f64)
  | .eql => some (.bool (FloatKind.f64.format.order x y == some .eq))
  | .neq => some (.bool (FloatKind.f64.format.order x y != some .eq))
  | .lss => some (.bool (FloatKind.f64.format.order x y == some .lt))
  | .leq => some (.bool (FloatKind.f64.format.order x y == some .lt || FloatKind.f64.format.order x y == some .eq))
  | .gtr => some (.bool (FloatKind.f64.format.order x y == some .gt))
  | .geq => some (.bool (FloatKind.f64.format.order x y == some .gt || FloatKind.f64.format.order x y == some .eq))
  | _ => none
noncomputable def aStr (op : BinOp) (x y : BS) : Option AV :=
  match op with
  | .add => bif Nat.ble (x.len + y.len) 1099511627776 then some (.str (x.app y)) else none
  | .eql => some (.bool (x.eq y))
  | .neq => some (.bool (!(x.eq y)))
  | .lss => some (.bool (sLt x.list y.list))
  | .leq => some (.bool (sLt x.list y.list || x.eq y))
  | .gtr => some (.bool (!(sLt x.list y.list || x.eq y)))
  | .geq => some (.bool (!(sLt x.list y.list)))
  | _ => none
noncomputable def aBin0 (op : BinOp) (eq : Option EqK) (lit : Bool) (x y : AV) : Option AV :=
  match x, y with
  | .int k a, .int k' b =>
    match op with
    | .shl | .shr => aShift op k a b
    | _ => bif kEq k k' then aInt op k a b else none
  | .flt .f64 a, .flt .f64 b => aFlt op a b
  | .str a, .str b => aStr op a b
  | x, y => match op, eq with
    | .eql, some e => (eqV lit e x y).map .bool
    | .neq, some e => (eqV lit e x y).map fun b => .bool (!b)
    | _, _ => none
noncomputable def hintOf (m : Int) : List (Int × Int) → Option Int
  | [] => none
  | (a, r) :: l => bif iEq a m then some r else hintOf m l
noncomputable def sRem (k : IntKind) (n b : Int) (hs : List (Int × Int)) : Option AV := bif iLt 0 b then (match hintOf b hs with
    | some r => some (.int k r)
    | none => (match hintOf (0 - b) hs with | some e => some (.sint k (n.tmod b) [(0, b), (0 - b, e)]) | none => none)) else none
noncomputable def sAdd (k : IntKind) (n b : Int) (hs : List (Int × Int)) : Option AV := bif kEq k .i64 && (iLt 0 b && iLt b 1000000) then (match hintOf 0 hs with
    | some r => bif iEq r b then (match hintOf (0 - b) hs with | some e => some (.sint k (n + b) [(b, e)]) | none => none) else none
    | none => none) else none
noncomputable def opNum : BinOp → Nat
  | .eql => 1 | .neq => 2 | .lss => 3 | .leq => 4 | .gtr => 5 | .geq => 6 | .sub => 7 | _ => 0
noncomputable def fHintOf (k c : Nat) (op : BinOp) : List (Nat × Nat × BinOp × Bool) → Option (Nat × Bool)
  | [] => none
  | (k', c', o, b) :: l => bif Nat.beq k' k && (Nat.ble 2 k || Nat.beq c' c) && (Nat.beq k 3 || (Nat.beq (opNum o) (opNum op) && Nat.ble 1 (opNum op))) then some (c', b) else fHintOf k c op l
noncomputable def sCmp (k c : Nat) (op : BinOp) (hs : List (Nat × Nat × BinOp × Bool)) : Option AV := match fHintOf k c op hs with | some (_, b) => some (.bool b) | none => none
noncomputable def aBin (op : BinOp) (eq : Option EqK) (lit : Bool) (x y : AV) : Option AV :=
  match x, y with
  | .sflt _ hs, .flt .f64 c => sCmp 0 c op hs
  | .flt .f64 c, .sflt _ hs => sCmp 1 c op hs
  | .sflt i hs, .sflt j _ => bif Nat.beq i j then (match op with
    | .sub => (match fHintOf 3 0 .sub hs with | some (c, _) => some (.flt .f64 c) | none => none)
    | _ => sCmp 2 0 op hs) else none
  | .sint k n hs, .int k' b => (match op with
    | .rem => bif kEq k k' then sRem k n b hs else none
    | .add => bif kEq k k' then sAdd k n b hs else none
    | _ => none)
  | .tstr i, .tstr j => (match op with
    | .eql => bif Nat.beq i j then some (.bool true) else none
    | .neq => bif Nat.beq i j then some (.bool false) else none
    | _ => none)
  | .sbit n bs, .int k' (.ofNat m) => (match op with
    | .shr => bif Nat.ble m bs.length && Nat.ble m 64 then some (.sbit (n / 2 ^ m) (bs.drop m)) else none
    | .and => bif kEq k' .u64 && Nat.beq m 1 then (match bs with | b :: _ => some (.int .u64 (bif b then 1 else 0)) | [] => none) else none
    | _ => none)
  | x, y => aBin0 op eq lit x y
noncomputable def aUn (op : UnOp) (x : AV) : Option AV :=
  match op, x with
  | .neg, .int k n => some (.int k (wr k (0 - n)))
  | .xor, .int k n => aInt .xor k (if k.signed then -1 else k.max) n
  | .not, .bool b => some (.bool (!b))
  | .neg, .flt k b => some (.flt k (Op.negFloat k b))
  | _, _ => none

noncomputable def aPart (isAgg : Bool) (off n : Nat) (cs : List AV) : Option AV :=
  bif isAgg then (bif Nat.ble (off + n) cs.length then some (.agg ((cs.drop off).take n)) else none) else cs[off]?

/-- Laid over some cells from a place on; none: it does not fit. -/
noncomputable def lay (cs : List AV) (off : Nat) (x : List AV) : List AV := cs.take off ++ (x ++ cs.drop (off + x.length))
noncomputable def aFill (rd : Od → AV) : List (Nat × Nat × Od) → List AV → Option (List AV)
  | [], cs => some cs
  | (off, n, o) :: rest, cs =>
    match rd o with
    | v => bif v.isAny then none else match v.cells with
      | x => bif Nat.beq x.length n && Nat.ble (off + n) cs.length then aFill rd rest (lay cs off x) else none

noncomputable def toNat? : AV → Option Nat
  | .int _ (.ofNat n) => some n
  | _ => none

/-- The bounds of a slice expression: low, high. -/
noncomputable def aBounds (lo hi : Option AV) (len cap : Nat) : Option (Nat × Nat) :=
  match (match hi with | none => some len | some v => toNat? v), (match lo with | none => some 0 | some v => toNat? v) with
  | some h, some l => bif Nat.ble h cap && Nat.ble l h then some (l, h) else none
  | _, _ => none

/-! ## Operations -/

/-- What needs no memory. -/
inductive PO
  | mov (x : Od)
  | pick (c a b : Od)
  | build (zero : List AV) (parts : List (Nat × Nat × Od))
  | nilck (x : Od)
  | bin (op : BinOp) (eq : Option EqK) (lit : Bool) (x y : Od)
  | un (op : UnOp) (x : Od)
  | cInt (k : IntKind) (x : Od)
  | cFlt (x : Od)
  | cStr (x : Od)
  | arr (n : Nat) (x : Od)
  | mkif (t : TypeId) (x : Od)
  | mkfn (f : Fn) (first caps : List Od)
  | slStr (x : Od) (lo hi : Option Od)
  | slArr (n sz : Nat) (x : Od) (lo hi : Option Od)
  | fadr (off : Nat) (x : Od)
  | fld (off n : Nat) (agg : Bool) (x : Od)
  | ixaA (len sz : Nat) (x i : Od)
  | ixaS (sz : Nat) (x i : Od)
  | ixA (len sz : Nat) (agg : Bool) (x i : Od)
  | ixS (x i : Od)
  | extr (i : Nat) (x : Od)
  | lenStr (x : Od)
  | lenSl (x : Od)
  | lenC (n : Nat)
  | capSl (x : Od)
  | minI (x : Od) (xs : List Od)
  | maxI (x : Od) (xs : List Od)
  | tas (t : TypeId) (zero : AV) (ok : Bool) (x : Od)

noncomputable def rdO (fr : T AV) (rd : T AV → Od → AV) : Option Od → Option AV
  | none => none
  | some o => some (rd fr o)

noncomputable def addA : Ad × Nat → Nat → Ad × Nat
  | (d, o), n => (d, o + n)

noncomputable def minL (rd : Od → AV) : AV → List Od → Option AV
  | x, [] => some x
  | .int k a, o :: l => match rd o with
    | .int _ b => minL rd (.int k (if iLt b a then b else a)) l
    | _ => none
  | _, _ => none
noncomputable def maxL (rd : Od → AV) : AV → List Od → Option AV
  | x, [] => some x
  | .int k a, o :: l => match rd o with
    | .int _ b => maxL rd (.int k (if iLt a b then b else a)) l
    | _ => none
  | _, _ => none

noncomputable def PO.run (fr : T AV) : PO → Option AV
  | .mov x => some (x.rd fr)
  | .pick c a b => match c.rd fr with
    | .bool t => some (bif t then a.rd fr else b.rd fr)
    | _ => none
  | .build zero parts => (aFill (Od.rd fr) parts zero).map .agg
  | .nilck x => match x.rd fr with
    | .ptr (some a) => some (.ptr (some a))
    | .ifc t v => some (.ifc t v)
    | .fn (.func f) a b => some (.fn (.func f) a b)
    | _ => none
  | .bin op eq lit x y => aBin op eq lit (x.rd fr) (y.rd fr)
  | .un op x => aUn op (x.rd fr)
  | .cInt k x => match x.rd fr with
    | .int _ n => some (.int k (wr k n))
    | _ => none
  | .cFlt x => match x.rd fr with
    | .int _ n => some (.flt .f64 (FloatKind.f64.nearest n))
    | _ => none
  | .cStr x => match x.rd fr with
    | .str s => some (.str s)
    | _ => none
  | .arr n x => match x.rd fr with
    | .slc (some a) len _ => bif Nat.ble n len then some (.ptr (some a)) else none
    | _ => none
  | .mkif t x => some (.ifc t (x.rd fr))
  | .mkfn f first caps => some (.fn f (first.map (Od.rd fr)) (caps.map (Od.rd fr)))
  | .slStr x lo hi => match x.rd fr with
    | .str s => match aBounds (rdO fr Od.rd lo) (rdO fr Od.rd hi) s.len s.len with
      | some (l, h) => some (.str ((s.take h).drop l))
      | none => none
    | _ => none
  | .slArr n sz x lo hi => match x.rd fr with
    | .ptr (some a) => match aBounds (rdO fr Od.rd lo) (rdO fr Od.rd hi) n n with
      | some (l, h) => some (.slc (some (bif Nat.beq n l then a else addA a (l * sz))) (h - l) (.k (n - l)))
      | none => none
    | _ => none
  | .fadr off x => match x.rd fr with
    | .ptr (some a) => some (.ptr (some (addA a off)))
    | _ => none
  | .fld off n agg x => match x.rd fr with
    | .agg cs => aPart agg off n cs
    | _ => none
  | .ixaA len sz x i => match x.rd fr, i.rd fr with
    | .ptr (some a), .int _ (.ofNat k) => bif Nat.blt k len then some (.ptr (some (addA a (k * sz)))) else none
    | _, _ => none
  | .ixaS sz x i => match x.rd fr, i.rd fr with
    | .slc (some a) len _, .int _ (.ofNat k) => bif Nat.blt k len then some (.ptr (some (addA a (k * sz)))) else none
    | _, _ => none
  | .ixA len sz agg x i => match x.rd fr, i.rd fr with
    | .agg cs, .int _ (.ofNat k) => bif Nat.blt k len then aPart agg (k * sz) sz cs else none
    | _, _ => none
  | .ixS x i => match x.rd fr, i.rd fr with
    | .str s, .int _ (.ofNat k) => bif Nat.ble (Nat.succ k) s.len then some (.int .u8 (.ofNat (s.get k))) else none
    | _, _ => none
  | .extr i x => match x.rd fr with
    | .tup l => l[i]?
    | _ => none
  | .lenStr x => match x.rd fr with
    | .str s => some (.int .i64 (.ofNat s.len))
    | _ => none
  | .lenSl x => match x.rd fr with
    | .slc _ n _ => some (.int .i64 n)
    | _ => none
  | .lenC n => some (.int .i64 n)
  | .capSl x => match x.rd fr with
    | .slc _ _ (.k c) => some (.int .i64 c)
    | _ => none
  | .minI x xs => minL (Od.rd fr) (x.rd fr) xs
  | .maxI x xs => maxL (Od.rd fr) (x.rd fr) xs
  | .tas t zero ok x => match x.rd fr with
    | .ifc u v => bif Nat.beq u t then some (bif ok then .tup [v, .bool true] else v) else bif ok then some (.tup [zero, .bool false]) else none
    | .nilIfc => bif ok then some (.tup [zero, .bool false]) else none
    | _ => none

/-- So many zero elements. -/
noncomputable def zeros (c : Nat) (zero : List AV) : Cl := match zero with
  | [.int .u8 (.ofNat 0)] => .byt (.pk c 0)
  | z => .gen (List.flatten (List.replicate c z))

/-- What makes a block, or a new name for a place. -/
inductive AOp
  | box (el : TypeId) (x : Od)
  | bsl (el : TypeId) (len : Nat) (zero : List AV) (parts : List (Nat × Nat × Od))
  | mkmap
  | mksl (el : TypeId) (sz bytes : Nat) (zero : List AV) (l c : Od)
  | s2b (el : TypeId) (x : Od)
  | slSl (sz : Nat) (x : Od) (lo hi mx : Option Od)
  | rngS (x : Od)

/-- A variable of an address and a slice, both nil: its row is marked as a block of its own. -/
noncomputable def mark (l : List AV) : Option Nat := match l with
  | [.ptr none, .slc none _ _] => some 0
  | _ => none
theorem mark_ok (l : List AV) : mark l = none ∨ mark l = some 0 := by
  unfold mark; split
  · exact .inr rfl
  · exact .inl rfl
/-- The object that is made (none: none is), the value, given its number. -/
noncomputable def AOp.run (fr : T AV) (id : Nat) : AOp → Option (Option AO × AV)
  | .box el x => bif (x.rd fr).isAny then none else some (some (.row el (.gen (x.rd fr).cells) (mark (x.rd fr).cells)), .ptr (some (.own id, 0)))
  | .bsl el len zero parts => match aFill (Od.rd fr) parts zero with
    | some cs => some (some (.row el (.gen cs) none), .slc (some (.own id, 0)) len (.k len))
    | none => none
  | .mkmap => some (some (.mp []), .map (some id))
  | .mksl el sz bytes zero l c => match l.rd fr, c.rd fr with
    | .int .i64 (.ofNat l), .int .i64 (.ofNat c) =>
      bif Nat.ble l c && Nat.ble (bytes * c) 281474976710656 && Nat.blt c 9223372036854775808 then
        some (some (.row el (zeros c zero) none), .slc (some (.own id, 0)) l (.k c)) else none
    | _, _ => none
  | .s2b el x => match x.rd fr with
    | .str s => bif Nat.ble s.len 1099511627776 then some (some (.row el (.byt s) (some 1)), .slc (some (.own id, 0)) s.len (.u 1)) else none
    | _ => none
  | .slSl sz x lo hi mx => match x.rd fr with
    | .slc none 0 (.k 0) => match mx with
      | none => match aBounds (rdO fr Od.rd lo) (rdO fr Od.rd hi) 0 0 with
        | some (_, _) => some (none, .slc none 0 (.k 0))
        | none => none
      | some _ => none
    | .slc (some a) len (.k c) => match mx, hi with
      | none, _ => match aBounds (rdO fr Od.rd lo) (rdO fr Od.rd hi) len c with
        | some (l, h) => some (none, .slc (some (bif Nat.beq c l then a else addA a (l * sz))) (h - l) (.k (c - l)))
        | none => none
      | some m, some hi => match toNat? (m.rd fr) with
        | some m => bif Nat.ble m c then
            (match aBounds (rdO fr Od.rd lo) (some (hi.rd fr)) len m with
            | some (l, h) => some (none, .slc (some (bif Nat.beq m l then a else addA a (l * sz))) (h - l) (.k (m - l)))
            | none => none) else none
        | none => none
      | some _, none => none
    | .slc (some a) len (.u e) => bif Nat.beq e sz && Nat.blt 0 sz then
        match mx with
        | some _ => none
        | none => match aBounds (rdO fr Od.rd lo) (rdO fr Od.rd hi) len len with
          | some (l, h) => bif Nat.beq l 0 then some (none, .slc (some a) h (.u e))
              else bif Nat.blt l len then some (none, .slc (some (addA a (l * sz))) (h - l) (.u e))
              else some (none, .slc (some (.own id, 0)) 0 (.u e))
          | none => none
      else none
    | _ => none
  | .rngS x => match x.rd fr with
    | .str s => some (some (.sit s.list 0), .ptr (some (.own id, 0)))
    | _ => none

/-- What reads memory. -/
inductive RO
  | load (n : Nat) (agg : Bool) (x : Od)
  | look (eq : EqK) (zero : AV) (ok : Bool) (m k : Od)
  | b2s (x : Od)
  | lenM (x : Od)

noncomputable def cellsC (gl : T (List AV)) (h : Hp) : Ad × Nat → Nat → Option Cl
  | (.own id, off), n => match h.get id with
    | some (.row _ cs _) => bif Nat.ble (off + n) cs.len then some ((cs.drop off).take n) else none
    | _ => none
  | (.glob g, off), n => match gl.get (Ps.key g) with
    | some cs => bif Nat.ble (off + n) (lenF cs) then some (.gen (takeF n (dropF off cs))) else none
    | none => none
noncomputable def cellsAt (gl : T (List AV)) (h : Hp) (a : Ad × Nat) (n : Nat) : Option (List AV) := (cellsC gl h a n).map Cl.list

/-- Is a key of the length that its type wants? -/
noncomputable def keyFits : EqK → AV → Bool
  | .agg ls, .agg l => Nat.beq l.length ls.length
  | .agg _, _ => false
  | _, _ => true

noncomputable def mFind (eq : EqK) (k : AV) : List (AV × AV) → Option (Option AV)
  | [] => some none
  | (k', v) :: l => match eqV false eq k k' with
    | some true => some (some v)
    | some false => mFind eq k l
    | none => none

noncomputable def RO.run (gl : T (List AV)) (fr : T AV) (h : Hp) : RO → Option AV
  | .load n agg x => match x.rd fr with
    | .ptr (some a) => match cellsAt gl h a n with
      | some cs => bif agg then some (.agg cs) else (match cs with | [v] => some v | _ => none)
      | none => none
    | _ => none
  | .look eq zero ok m k => match m.rd fr with
    | .map none => bif keyFits eq (k.rd fr) then some (bif ok then .tup [zero, .bool false] else zero) else none
    | .map (some id) => match h.mpAt id with
      | some es => match (bif keyFits eq (k.rd fr) then mFind eq (k.rd fr) es else none) with
        | some (some v) => some (bif ok then .tup [v, .bool true] else v)
        | some none => some (bif ok then .tup [zero, .bool false] else zero)
        | none => none
      | _ => none
    | _ => none
  | .b2s x => match x.rd fr with
    | .slc none _ _ => some (.str (.pk 0 0))
    | .slc (some a) len _ => match cellsC gl h a len with
      | some cs => cs.pack.map .str
      | none => none
    | _ => none
  | .lenM x => match x.rd fr with
    | .map none => some (.int .i64 0)
    | .map (some id) => match h.get id with
      | some (.mp es) => some (.int .i64 es.length)
      | _ => none
    | _ => none

/-- What turns memory, or goes elsewhere. -/
inductive EO
  | store (n : Nat) (x v : Od)
  | call (f : FuncId) (args : List Od)
  | ext (f : FuncId) (args : List Od)
  | callv (f : Od) (args : List Od)
  | app (el : TypeId) (sz bytes : Nat) (s x : Od)
  | copy (sz : Nat) (d s : Od)
  | upd (eq : EqK) (m k v : Od)
  | del (eq : EqK) (m k : Od)
  | panic (x : Od)
  | nextS (x : Od)
  | cv (x : Od)
  | clr (zero : List AV) (x : Od)

inductive St
  | val (v : AV) (h : Hp)
  | ent (f : FuncId) (as : List AV) (h : Hp)
  | pan (v : AV) (h : Hp)
  | bad (n : Nat)

noncomputable def oneC : AV → Bool
  | .agg _ => false
  | .tup _ => false
  | .any _ => false
  | _ => true
noncomputable def allOne : List AV → Bool
  | [] => true
  | x :: l => bif oneC x then allOne l else false

noncomputable def Cl.ones (c : Cl) : Bool := Cl.rec (fun l => allOne l) (fun _ => true) c

noncomputable def putCells (h : Hp) : Ad × Nat → Cl → Option Hp
  | (.own id, off), x => match h.get id with
    | some (.row el cs t) => bif Nat.ble (off + x.len) cs.len && x.ones then some (h.set id (.row el (cs.lay off x) t)) else none
    | _ => none
  | _, _ => none

/-- The cells of the first n elements of what is appended or copied. -/
noncomputable def srcCells (gl : T (List AV)) (h : Hp) (n sz : Nat) : AV → Option Cl
  | .slc none _ _ => bif Nat.beq n 0 then some (.gen []) else none
  | .slc (some a) _ _ => bif Nat.beq n 0 then some (.gen []) else cellsC gl h a (n * sz)
  | .str s => bif Nat.beq sz 1 then some (.byt (s.take n)) else none
  | _ => none

noncomputable def aLen : AV → Option Nat
  | .slc _ n _ => some n
  | .str s => some s.len
  | _ => none

noncomputable def mPut (eq : EqK) (k v : AV) : List (AV × AV) → Option (List (AV × AV))
  | [] => some [(k, v)]
  | (k', u) :: l => match eqV false eq k k' with
    | some true => some ((k, v) :: l)
    | some false => match mPut eq k v l with
      | some r => some ((k', u) :: r)
      | none => none
    | none => none
noncomputable def mDel (eq : EqK) (k : AV) : List (AV × AV) → Option (List (AV × AV))
  | [] => some []
  | (k', u) :: l => match eqV false eq k k' with
    | some true => some l
    | some false => match mDel eq k l with
      | some r => some ((k', u) :: r)
      | none => none
    | none => none

/-- An append: what is known of the source was read ahead. -/
noncomputable def aApp (gl : T (List AV)) (h : Hp) (el : TypeId) (sz bytes : Nat) (s x : AV) : St :=
  match s, aLen x with
  | .slc base len cap, some n =>
    match srcCells gl h n sz x with
    | none => .bad 31
    | some new =>
      bif Nat.ble ((len + n) * bytes) 140737488355328 && Nat.ble (len + n) 1099511627776 then
        match cap with
        | .k c =>
          bif Nat.ble (len + n) c then
            match base with
            | none => .val (.slc none (len + n) (.k c)) h
            | some a => match putCells h (addA a (len * sz)) new with
              | some h => .val (.slc (some a) (len + n) (.k c)) h
              | none => .bad 32
          else
            match (match base with | none => (bif Nat.beq (len * sz) 0 then some (Cl.gen []) else none) | some a => cellsC gl h a (len * sz)) with
            | some old => .val (.slc (some (.own h.nxt, 0)) (len + n) (.u sz)) (h.new (.row el (old.app new) (some sz)))
            | none => .bad 33
        | .u _ =>
          bif Nat.beq n 0 then .val s h else
          match base with
          | some (.own id, off) =>
            match h.get id with
            | some (.row el' cs (some t)) =>
              bif Nat.beq t sz && Nat.beq el' el && Nat.ble (off + len * sz) cs.len && new.ones then
                .val (.slc (some (.own h.nxt, 0)) (len + n) (.u sz)) ((h.del id).new (.row el (((cs.take (off + len * sz)).drop off).app new) (some sz)))
              else .bad 34
            | _ => .bad 35
          | _ => .bad 36
      else .bad 37
  | _, _ => .bad 38

noncomputable def EO.run (gl : T (List AV)) (isF : FuncId → Bool) (ext : FuncId → Option (List AV → Hp → Option (AV × Hp))) (fr : T AV) (h : Hp) : EO → St
  | .store n x v => match x.rd fr with
    | .ptr (some a) => bif (v.rd fr).isAny then .bad 39 else match (v.rd fr).cells with
      | cs => bif Nat.beq cs.length n then (match putCells h a (.gen cs) with | some h => .val (.tup []) h | none => .bad 1) else .bad 2
    | _ => .bad 3
  | .call f args => .ent f (args.map (Od.rd fr)) h
  | .ext f args => match ext f with
    | some e => match e (args.map (Od.rd fr)) h with
      | some (v, h) => .val v h
      | none => .bad 19
    | none => .bad 20
  | .callv x args => match x.rd fr with
    | .fn (.func f) first caps => bif isF f then .ent f (first ++ (args.map (Od.rd fr)) ++ caps) h else .bad 4
    | _ => .bad 5
  | .app el sz bytes s x => aApp gl h el sz bytes (s.rd fr) (x.rd fr)
  | .copy sz d s => match d.rd fr, aLen (s.rd fr) with
    | .slc base dl _, some sl =>
      match srcCells gl h (Nat.min sl dl) sz (s.rd fr) with
      | none => .bad 6
      | some cs => match base with
        | none => .val (.int .i64 (Nat.min sl dl : Nat)) h
        | some a => match putCells h a cs with
          | some h => .val (.int .i64 (Nat.min sl dl : Nat)) h
          | none => .bad 7
    | _, _ => .bad 8
  | .upd eq m k v => match m.rd fr with
    | .map (some id) => match h.get id with
      | some (.mp es) => match (bif keyFits eq (k.rd fr) then mPut eq (k.rd fr) (v.rd fr) es else none) with
        | some r => .val (.tup []) (h.set id (.mp r))
        | none => .bad 9
      | _ => .bad 10
    | _ => .bad 11
  | .clr zero x => match x.rd fr with
    | .slc base n _ => bif Nat.beq n 0 then .val (.tup []) h else (match base with
      | none => .val (.tup []) h
      | some a => match putCells h a (zeros n zero) with
        | some h => .val (.tup []) h
        | none => .bad 52)
    | _ => .bad 51
  | .del eq m k => match m.rd fr with
    | .map none => bif keyFits eq (k.rd fr) then .val (.tup []) h else .bad 22
    | .map (some id) => match h.get id with
      | some (.mp es) => match (bif keyFits eq (k.rd fr) then mDel eq (k.rd fr) es else none) with
        | some r => .val (.tup []) (h.set id (.mp r))
        | none => .bad 12
      | _ => .bad 13
    | _ => .bad 14
  | .panic x => match x.rd fr with
    | .ifc t v => .pan (.ifc t v) h
    | _ => .bad 15
  | .nextS x => match x.rd fr with
    | .ptr (some (.own id, 0)) => match h.get id with
      | some (.sit s pos) => match s[pos]? with
        | none => .val (.tup [.bool false]) h
        | some b => bif Nat.blt b.toNat 128 then .val (.tup [.bool true, .int .i64 pos, .int .i32 b.toNat]) (h.set id (.sit s (pos + 1))) else .bad 16
      | _ => .bad 17
    | _ => .bad 18
  | .cv x => match x.rd fr with
    | .slc (some (.own id, off)) n c => match h.get id with
      | some (.row el cs tail) => .val (.slc (some (.own id, off)) n c) (h.set id (.row el cs tail))
      | _ => .bad 24
    | _ => .bad 25

inductive IOp | p (o : PO) | a (o : AOp) | r (o : RO) | e (o : EO) | bad (n : Nat)
end Ax
namespace Ax
open Go
variable [Sy]

/-! ## Compiling operations -/
section
variable (P : Program)

noncomputable def isAggT (t : TypeId) : Bool := match P.underlying t with
  | some (.struct _) | some (.array _ _) => true
  | _ => false
noncomputable def zeroOf (t : TypeId) : Option AV := match P.info? t with
  | some i => i.zero.bind ofV
  | none => none
noncomputable def okT (t : TypeId) : Bool := match P.underlying t with
  | some _ => true
  | none => false
noncomputable def okI (t : TypeId) : Bool := match P.info? t with
  | some _ => true
  | none => false
noncomputable def isFn (f : FuncId) : Bool := match P.funcs[f]? with
  | some fn => fn.body.isSome && fn.name != "runtime.NumGoroutine"
  | none => false

noncomputable def lvF (rec : TypeId → Option (List Lf)) : List Field → Nat → Option (List Lf)
  | [], _ => some []
  | f :: fs, off => match rec f.type with
    | none => none
    | some l => bif f.name != "_" && Nat.beq f.offset off && Nat.beq (P.cellsOf f.type) l.length then
        (match lvF rec fs (off + l.length) with
        | some r => some (l ++ r)
        | none => none) else none
noncomputable def lvs : Nat → TypeId → Option (List Lf)
  | 0, _ => none
  | d + 1, t => match P.underlying t with
    | some .bool => some [.bool]
    | some (.int _) => some [.int]
    | some .string => some [.str]
    | some (.float .f64) => some [.flt]
    | some (.struct fs) => bif P.stoodInHeld t then none else lvF P (lvs d) fs.toList 0
    | some (.array n e) => match lvs d e with
      | some l => bif Nat.beq (P.cellsOf e) l.length then some (List.flatten (List.replicate n l)) else none
      | none => none
    | _ => none
noncomputable def eqK (t : TypeId) : Option EqK := match P.underlying t with
  | some .bool => some (.leaf .bool)
  | some (.int _) => some (.leaf .int)
  | some .string => some (.leaf .str)
  | some (.pointer _) => some .ptr
  | some (.interface _) => some .ifc
  | some (.slice _) => some .slc
  | some (.map _ _) => some .mp
  | some (.func _ _ _) => some .fn
  | some (.struct _) | some (.array _ _) => (lvs P 20 t).map .agg
  | _ => none
/-- Of a map's keys. -/
noncomputable def eqKey (t : TypeId) : Option EqK := match P.underlying t with
  | some .bool => some (.leaf .bool)
  | some (.int _) => some (.leaf .int)
  | some .string => some (.leaf .str)
  | some (.struct _) | some (.array _ _) => (lvs P 20 t).map .agg
  | _ => none
noncomputable def noFlt : EqK → Bool
  | .leaf .flt => false
  | .agg ls => ls.all fun l => match l with | .flt => false | _ => true
  | _ => true
/-- Of an operation: with the guard that looks for nil interfaces. -/
noncomputable def eqOp (op : BinOp) (t : TypeId) : Option EqK := match op with
  | .eql | .neq => match P.underlying t with
    | some (.struct _) | some (.array _ _) => bif P.eqGuardType P.depth t then none else eqK P t
    | _ => eqK P t
  | _ => none

noncomputable def cOpt : Option Operand → Option (Option Od)
  | none => some none
  | some o => (cOd o).map some

noncomputable def cParts (place : Nat → Option (Nat × Nat)) : List (Nat × Operand) → Option (List (Nat × Nat × Od))
  | [] => some []
  | (i, o) :: l => match place i, cOd o, cParts place l with
    | some (off, n), some o, some r => some ((off, n, o) :: r)
    | _, _, _ => none

noncomputable def isC : Operand → Bool
  | .const _ => true
  | _ => false

noncomputable def cBuiltin (b : Builtin) (tys : Array TypeId) (args : List Od) : Option IOp :=
  match b, args with
  | .append, [s, x] => match (tys[0]?).bind P.underlying, (tys[1]?).bind P.underlying with
    | some (.slice el), some u => match u with
      | .int _ => none
      | _ => bif Nat.blt 0 (P.cellsOf el) && (match zeroOf P el with | some z => Nat.beq z.cells.length (P.cellsOf el) | none => false) then some (.e (.app el (P.cellsOf el) (P.bytesOf el) s x)) else none
    | _, _ => none
  | .copy, [d, s] => match (tys[0]?).bind P.underlying with
    | some (.slice el) => bif okI P el then some (.e (.copy (P.cellsOf el) d s)) else none
    | _ => none
  | .len, [x] => match (tys[0]?).bind P.underlying with
    | some .string => some (.p (.lenStr x))
    | some (.slice _) => some (.p (.lenSl x))
    | some (.array n _) => some (.p (.lenC n))
    | some (.map _ _) => some (.r (.lenM x))
    | _ => none
  | .cap, [x] => match (tys[0]?).bind P.underlying with
    | some (.slice _) => some (.p (.capSl x))
    | _ => none
  | .min, x :: xs => some (.p (.minI x xs))
  | .max, x :: xs => some (.p (.maxI x xs))
  | .delete, [m, k] => match (tys[0]?).bind P.underlying with
    | some (.map key _) => match eqKey P key with
      | some e => some (.e (.del e m k))
      | none => none
    | _ => none
  | .clear, [x] => match (tys[0]?).bind P.underlying with
    | some (.slice el) => match zeroOf P el with
      | some z => bif Nat.beq z.cells.length (P.cellsOf el) && Nat.blt 0 (P.cellsOf el) then some (.e (.clr z.cells x)) else none
      | none => none
    | _ => none
  | _, _ => none

noncomputable def cOp0 : Op → Option IOp
  | .move x | .assign x => (cOd x).map fun x => .p (.mov x)
  | .pick c a b => match cOd c, cOd a, cOd b with
    | some c, some a, some b => some (.p (.pick c a b))
    | _, _, _ => none
  | .alloc el => (zeroOf P el).map fun z => .a (.box el (.c z))
  | .box el x => (cOd x).map fun x => .a (.box el x)
  | .build t parts => match P.underlying t, zeroOf P t with
    | some (.struct fs), some z => bif fs.toList.all (fun f => okI P f.type) then (cParts (fun i => (fs[i]?).map fun f => (f.offset, P.cellsOf f.type)) parts.toList).map fun l => .p (.build z.cells l) else none
    | some (.array _ el), some z => bif okI P el then (cParts (fun i => some (i * P.cellsOf el, P.cellsOf el)) parts.toList).map fun l => .p (.build z.cells l) else none
    | _, _ => none
  | .buildSlice t len parts => match P.underlying t with
    | some (.slice el) => match zeroOf P el with
      | some z => bif Nat.beq z.cells.length (P.cellsOf el) && Nat.blt 0 (P.cellsOf el) && Nat.ble (len * P.cellsOf el) 16777216 then
          (cParts (fun i => some (i * P.cellsOf el, P.cellsOf el)) parts.toList).map fun l => .a (.bsl el len (List.flatten (List.replicate len z.cells)) l)
        else none
      | none => none
    | _ => none
  | .load t a => match cOd a with
    | some a => bif okT P t then (bif isAggT P t then some (.r (.load (P.cellsOf t) true a)) else some (.r (.load 1 false a))) else none
    | none => none
  | .store t a x => match cOd a, cOd x with
    | some a, some x => bif okI P t then some (.e (.store (P.cellsOf t) a x)) else none
    | _, _ => none
  | .nilCheck x => (cOd x).map fun x => .p (.nilck x)
  | .binOp op t x y _ => match cOd x, cOd y with
    | some a, some b => some (.p (.bin op (eqOp P op t) (isC x || isC y) a b))
    | _, _ => none
  | .unOp op _ x => (cOd x).map fun x => .p (.un op x)
  | .convert src dst x => match cOd x, P.underlying src, P.underlying dst with
    | some x, some (.int _), some (.int k) => some (.p (.cInt k x))
    | some x, some (.int _), some (.float .f64) => some (.p (.cFlt x))
    | some x, some .string, some .string => some (.p (.cStr x))
    | some x, some .string, some (.slice el) => match P.underlying el with
      | some (.int .u8) => some (.a (.s2b el x))
      | _ => none
    | some x, some (.slice el), some .string => match P.underlying el with
      | some (.int .u8) => some (.r (.b2s x))
      | _ => none
    | some x, some (.slice _), some (.slice el) => match P.underlying el with
      | some (.int .u8) => bif Nat.beq src dst then some (.e (.cv x)) else none
      | _ => none
    | _, _, _ => none
  | .sliceToArrayPointer t x => match cOd x, P.underlying t with
    | some x, some (.array n _) => some (.p (.arr n x))
    | _, _ => none
  | .makeInterface t x => match cOd x, P.underlying t with
    | some _, some (.interface _) => none
    | some x, some _ => some (.p (.mkif t x))
    | _, _ => none
  | .makeFunc f first caps => match cOds first.toList, cOds caps.toList with
    | some a, some b => some (.p (.mkfn f a b))
    | _, _ => none
  | .makeMap _ none => some (.a .mkmap)
  | .makeMap t (some (.const (.int _ _))) => match P.underlying t with
    | some (.map _ _) => some (.a .mkmap)
    | _ => none
  | .makeSlice t l c => match cOd l, cOd c, P.underlying t with
    | some l, some c, some (.slice el) => match zeroOf P el with
      | some z => bif Nat.beq z.cells.length (P.cellsOf el) && Nat.blt 0 (P.cellsOf el) then some (.a (.mksl el (P.cellsOf el) (P.bytesOf el) z.cells l c)) else none
      | none => none
    | _, _, _ => none
  | .slice t x lo hi mx => match cOd x, cOpt lo, cOpt hi, cOpt mx, P.underlying t with
    | some x, some lo, some hi, some none, some .string => some (.p (.slStr x lo hi))
    | some x, some lo, some hi, some none, some (.array n el) => bif okI P el then some (.p (.slArr n (P.cellsOf el) x lo hi)) else none
    | some x, some lo, some hi, some mx, some (.slice el) => bif okI P el then some (.a (.slSl (P.cellsOf el) x lo hi mx)) else none
    | some x, some lo, some hi, some none, some (.pointer arr) => match P.underlying arr with
      | some (.array n el) => bif okI P el then some (.p (.slArr n (P.cellsOf el) x lo hi)) else none
      | _ => none
    | _, _, _, _, _ => none
  | .fieldAddr s x f => match cOd x, P.underlying s with
    | some x, some (.struct fs) => match fs[f]? with
      | some fd => bif Nat.beq (P.cellsOf fd.type) 0 then none else some (.p (.fadr fd.offset x))
      | none => none
    | _, _ => none
  | .field s x f => match cOd x, P.underlying s with
    | some x, some (.struct fs) => match fs[f]? with
      | some fd => bif okT P fd.type then some (.p (.fld fd.offset (P.cellsOf fd.type) (isAggT P fd.type) x)) else none
      | none => none
    | _, _ => none
  | .indexAddr t x ix => match cOd x, cOd ix, P.underlying t with
    | some x, some ix, some (.array len el) => bif okI P el then some (.p (.ixaA len (P.cellsOf el) x ix)) else none
    | some x, some ix, some (.slice el) => bif okI P el then some (.p (.ixaS (P.cellsOf el) x ix)) else none
    | _, _, _ => none
  | .index t x ix => match cOd x, cOd ix, P.underlying t with
    | some x, some ix, some (.array len el) => bif okT P el then some (.p (.ixA len (P.cellsOf el) (isAggT P el) x ix)) else none
    | some x, some ix, some .string => some (.p (.ixS x ix))
    | _, _, _ => none
  | .lookup t x ix ok => match cOd x, cOd ix, P.underlying t with
    | some x, some ix, some (.map key el) => match eqKey P key, zeroOf P el with
      | some e, some z => some (.r (.look e z ok x ix))
      | _, _ => none
    | _, _, _ => none
  | .mapUpdate t m k x | .insert t m k x => match cOd m, cOd k, cOd x, P.underlying t with
    | some m, some k, some x, some (.map key _) => match eqKey P key with
      | some e => bif noFlt e then some (.e (.upd e m k x)) else none
      | none => none
    | _, _, _, _ => none
  | .range t x => match cOd x, P.underlying t with
    | some x, some .string => some (.a (.rngS x))
    | _, _ => none
  | .next it true => (cOd it).map fun x => .e (.nextS x)
  | .typeAssert x _ t ok => match cOd x, P.underlying t, zeroOf P t with
    | some _, some (.interface _), _ => none
    | some x, some _, some z => some (.p (.tas t z ok x))
    | _, _, _ => none
  | .extract x i => (cOd x).map fun x => .p (.extr i x)
  | .panic x => (cOd x).map fun x => .e (.panic x)
  | .call c => match cOds c.args.toList with
    | some args => match c.callee with
      | .value (.func f) => bif isFn P f then some (.e (.call f args)) else some (.e (.ext f args))
      | .value x => (cOd x).map fun x => .e (.callv x args)
      | .builtin b => cBuiltin P b c.argTypes args
      | .invoke _ _ => none
    | none => none
  | _ => none

noncomputable def cOp (o : Op) : IOp := match cOp0 P o with
  | some i => i
  | none => .bad 50

structure Iop where
  dst : Option Ps
  guard : Option (Ps × Bool)
  op : IOp

/-- One operation of a region; n: how many slots there are. -/
noncomputable def cOper (n : Nat) (ops : Array Oper) (o : Oper) : Iop :=
  match (match o.dst with | none => some none | some d => bif Nat.blt d n then some (some (Ps.key d)) else none),
      (match o.guard with | none => some none | some (j, want) => match (ops[j]?).bind (·.dst) with | some d => some (some (Ps.key d, want)) | none => none) with
  | some d, some gd => { dst := d, guard := gd, op := cOp P o.op }
  | _, _ => { dst := none, guard := none, op := .bad 51 }

/-! ## Regions that draw their order -/

/-- An operation of such a region: its place, what it waits for, whether it waits for all effects ahead of it, the slots that it looks at. -/
structure DO where
  i : Nat
  pre : Nat
  alone : Bool
  sl : List Ps
  io : Iop

noncomputable def isEffOp : IOp → Bool
  | .e _ => true
  | _ => false

noncomputable def bitOf (m i : Nat) : Bool := Nat.beq ((m / 2 ^ i) % 2) 1

/-- The places of an order: ahead of each effect just what it waits for. -/
noncomputable def ordGo (bef : List Nat) : List Nat → Nat → List Nat
  | [], _ => []
  | e :: es, done =>
    let m := bef.getD e 0
    let l := (List.range e).filter fun j => bitOf m j && !(bitOf done j)
    l ++ e :: ordGo bef es (done ||| m ||| 2 ^ e)
noncomputable def orderOf (n : Nat) (bef : List Nat) (effs : List Nat) : List Nat :=
  let l := ordGo bef effs 0
  l ++ (List.range n).filter fun j => !(l.contains j)

noncomputable def operTmps (ops : Array Oper) (o : Oper) : List Nat :=
  (o.op.operands.toList.filterMap fun | .tmp t => some t | _ => none) ++
    (match o.guard with | some (j, _) => ((ops[j]?).bind (·.dst)).toList | none => [])

/-- Is an order one that may be walked instead of all? What each waits for stands ahead of it; all that stands ahead of an effect it waits for. -/
noncomputable def drChk (n : Nat) : List DO → Nat → Nat → Bool
  | [], done, _ => Nat.beq (done + 1) (2 ^ n)
  | d :: l, done, ed => Nat.blt d.i n && !(bitOf done d.i) && Nat.beq (d.pre &&& done) d.pre && (bif isEffOp d.io.op then Nat.beq d.pre done else true) &&
      (bif d.alone then Nat.beq (ed &&& d.pre) ed else true) && drChk n l (done ||| 2 ^ d.i) (bif isEffOp d.io.op then ed ||| 2 ^ d.i else ed)

noncomputable def befOf (bef : List Nat) (es : List Edge) : Nat := es.foldl (fun s e => bif Region.binds .any e then s ||| 2 ^ e.on ||| bef.getD e.on 0 else s) 0

noncomputable def drOp (ops : Array Oper) (bef : List Nat) (i : Nat) (o : Oper) : Bool :=
  -- edges lead back, and make what is waited for
  o.after.toList.all (fun e => !(Region.binds .any e) || Nat.blt e.on i)
    && Nat.beq (bef.getD i 0) (befOf bef o.after.toList)
    -- of two that one slot concerns the one waits for the other; no slot is written twice
    && (operTmps ops o).all (fun t => (List.range ops.size).all fun j => match ops[j]? with
      | some u => Nat.beq i j || !(u.dst == some t) || bitOf (bef.getD i 0) j || bitOf (bef.getD j 0) i
      | none => true)
    && (match o.dst with
      | some t => (List.range ops.size).all fun j => Nat.beq i j || (match ops[j]? with | some u => !(u.dst == some t) | none => true)
      | none => true)

noncomputable def drOk (ops : Array Oper) (bef : List Nat) (l : List DO) : Bool :=
  Nat.ble ops.size l.length && drChk ops.size l 0 0 && (List.range ops.size).all fun i => match ops[i]? with
    | some o => drOp ops bef i o
    | none => true

noncomputable def mkGo (n : Nat) (ops : Array Oper) (bef : List Nat) : List Nat → Nat → List DO
  | [], _ => []
  | i :: is, ed => match ops[i]? with
    | some o =>
      let io := cOper P n ops o
      { i := i, pre := bef.getD i 0, alone := Nat.beq (ed &&& bef.getD i 0) ed, sl := (operTmps ops o).map Ps.key, io := io } :: mkGo n ops bef is (bif isEffOp io.op then ed ||| 2 ^ i else ed)
    | none => mkGo n ops bef is ed

noncomputable def mkDO (n : Nat) (ops : Array Oper) (bef : List Nat) : List DO :=
  let effs := (List.range ops.size).filter fun i => match ops[i]? with | some o => isEffOp (cOp P o.op) | none => false
  mkGo P n ops bef (orderOf ops.size bef effs) 0

/-! ## Code -/

inductive IC
  | skip
  | reg (l : List Iop)
  | dra (l : List DO)
  | seq (a b : IC)
  | cond (c : Od) (a b : IC)
  | block (id : Nat) (b : IC)
  | loop (b : IC)
  | exit (id : Nat)
  | ret
  | bad (n : Nat)

noncomputable def cDra (n : Nat) (ops : Array Oper) : IC :=
  let bef := (Region.before ops).toList
  let l := mkDO P n ops bef
  bif drOk ops bef l then .dra l else .bad 60

noncomputable def cCode (n : Nat) : Code → IC
  | .skip | .label _ => .skip
  | .region _ ops false => .reg (ops.toList.map (cOper P n ops))
  | .region _ ops true => cDra P n ops
  | .seq a b => .seq (cCode n a) (cCode n b)
  | .cond c a b => match cOd c with
    | some c => .cond c (cCode n a) (cCode n b)
    | none => .bad 61
  | .block id b => .block id (cCode n b)
  | .loop b => .loop (cCode n b)
  | .exit id => .exit id
  | .ret => .ret
  | _ => .bad 62

inductive RV | tmp (p : Ps) | cell (p : Ps) (n : Nat) (agg : Bool) | bad

structure IF where
  body : IC
  res : List RV

noncomputable def cFn (f : FuncId) : Option IF := match P.funcs[f]? with
  | some fn => match fn.body with
    | some c => some { body := cCode P fn.ntmps c, res := fn.results.toList.map fun
        | .tmp t => .tmp (Ps.key t)
        | .cell a t => bif okT P t then (bif isAggT P t then .cell (Ps.key a) (P.cellsOf t) true else .cell (Ps.key a) 1 false) else .bad }
    | none => none
  | none => none
end
end Ax
namespace Ax
open Go
variable [Sy]

/-- What a call came to. -/
inductive CR | ret (v : AV) (h : Hp) | pan (v : AV) (h : Hp) | err (n : Nat)

abbrev Oc := List AV → Hp → Option CR
abbrev Ext := List AV → Hp → Option (AV × Hp)

structure Env where
  P : Program
  gl : T (List AV)
  orc : T Oc
  ext : T Ext

noncomputable def putO (fr : T AV) (d : Option Ps) (v : AV) : T AV := match d with
  | some p => fr.put (some v) p
  | none => fr

noncomputable def guardOk (fr : T AV) : Option (Ps × Bool) → Bool
  | none => true
  | some (p, want) => match fr.get p with
    | some (.bool b) => bif b then want else !want
    | _ => false

/-- Is it not known whether it is wanted? -/
noncomputable def guardAny (fr : T AV) : Option (Ps × Bool) → Bool
  | none => false
  | some (p, _) => match fr.get p with
    | some v => v.isAny
    | none => false

inductive RR | ok (fr : T AV) (h : Hp) | pan (v : AV) (fr : T AV) (h : Hp) | err (n : Nat)

noncomputable def stepIO (E : Env) (cal : FuncId → List AV → Hp → CR) (o : Iop) (fr : T AV) (h : Hp) : RR :=
  bif guardOk fr o.guard then
    match o.op with
    | .p q => match q.run fr with
      | some v => .ok (putO fr o.dst v) h
      | none => .err 101
    | .a q => match q.run fr h.nxt with
      | some (some ob, v) => .ok (putO fr o.dst v) (h.new ob)
      | some (none, v) => .ok (putO fr o.dst v) { tr := h.tr, nxt := h.nxt + 1 }
      | none => .err 102
    | .r q => match q.run E.gl fr h with
      | some v => .ok (putO fr o.dst v) h
      | none => .err 103
    | .e q => match q.run E.gl (isFn E.P) (fun f => E.ext.get (Ps.key f)) fr h with
      | .val v h => .ok (putO fr o.dst v) h
      | .ent f as h => match cal f as h with
        | .ret v h => .ok (putO fr o.dst v) h
        | .pan v h => .pan v fr h
        | .err n => .err n
      | .pan v h => .pan v fr h
      | .bad n => .err n
    | .bad n => .err n
  else bif guardAny fr o.guard then .err 105 else .ok (putO fr o.dst (.tup [])) h

noncomputable def runIOs (E : Env) (cal : FuncId → List AV → Hp → CR) (l : List Iop) : T AV → Hp → RR :=
  List.rec (motive := fun _ => T AV → Hp → RR) (fun fr h => .ok fr h)
    (fun o _ ih fr h => match stepIO E cal o fr h with
      | .ok fr h => ih fr h
      | .pan v fr h => .pan v fr h
      | .err n => .err n) l

/-! ## Regions that draw their order -/

/-- What was done at a place. -/
inductive Ev
  | val (d : DO) (v : AV)
  | al (d : DO) (v : AV) (id : Nat) (o : AO)
  | rd (d : DO) (v : AV) (q : RO) (s : T AV)
  | ef (d : DO) (v : AV) (hb ha : Hp)
noncomputable def Ev.d : Ev → DO
  | .val d _ | .al d _ _ _ | .rd d _ _ _ | .ef d _ _ _ => d
noncomputable def Ev.v : Ev → AV
  | .val _ v | .al _ v _ _ | .rd _ v _ _ | .ef _ v _ _ => v
noncomputable def Ev.isEf : Ev → Bool
  | .ef .. => true
  | _ => false

/-- A frame, of which only some slots are known. -/
noncomputable def sel (fr : T AV) (l : List Ps) : T AV := List.rec .nil (fun p _ t => t.put (fr.get p) p) l

/-- A heap, and of what was made behind it what a read waits for. -/
noncomputable def hpFor (pre : Nat) (A : Hp) : List Ev → Hp
  | [] => A
  | .al d _ id o :: l => bif bitOf pre d.i then (hpFor pre A l).set id o else hpFor pre A l
  | _ :: l => hpFor pre A l

mutual
noncomputable def avEq : AV → AV → Bool
  | .bool a, .bool b => a == b
  | .int k a, .int k' b => kEq k k' && iEq a b
  | .flt .f64 a, .flt .f64 b => Nat.beq a b
  | .str a, .str b => a.same b
  | .ptr none, .ptr none => true
  | .ptr (some (.own a, i)), .ptr (some (.own b, j)) => Nat.beq a b && Nat.beq i j
  | .ptr (some (.glob a, i)), .ptr (some (.glob b, j)) => Nat.beq a b && Nat.beq i j
  | .slc none l (.k c), .slc none l' (.k c') => Nat.beq l l' && Nat.beq c c'
  | .slc (some (.own a, i)) l (.k c), .slc (some (.own b, j)) l' (.k c') => Nat.beq a b && Nat.beq i j && Nat.beq l l' && Nat.beq c c'
  | .slc (some (.own a, i)) l (.u e), .slc (some (.own b, j)) l' (.u e') => Nat.beq a b && Nat.beq i j && Nat.beq l l' && Nat.beq e e'
  | .map none, .map none => true
  | .map (some a), .map (some b) => Nat.beq a b
  | .fn (.func f) a b, .fn (.func g) c d => Nat.beq f g && avEqL a c && avEqL b d
  | .nilFn, .nilFn => true
  | .ifc t v, .ifc u w => Nat.beq t u && avEq v w
  | .nilIfc, .nilIfc => true
  | .agg a, .agg b => avEqL a b
  | .tup a, .tup b => avEqL a b
  | .tstr i, .tstr j => Nat.beq i j
  | .any i, .any j => Nat.beq i j
  | _, _ => false
noncomputable def avEqL : List AV → List AV → Bool
  | [], [] => true
  | a :: l, b :: m => avEq a b && avEqL l m
  | _, _ => false
end

noncomputable def rdTest (E : Env) (q : RO) (fr : T AV) (v : AV) (h : Hp) : Bool := match q.run E.gl fr h with
  | some u => avEq u v
  | none => false

/-- Behind each effect: the heap, and what comes. -/
noncomputable def afters : List Ev → List (Hp × List Ev)
  | [] => []
  | .ef _ _ _ ha :: l => (ha, l) :: afters l
  | _ :: l => afters l
/-- Can a read stand there? -/
noncomputable def mayRead (d : DO) (rest : List Ev) : Bool := (rest.any fun ev => Nat.beq ev.d.i d.i) && !(rest.any fun ev => ev.isEf && bitOf d.pre ev.d.i)

/-- Does an effect stand ahead of the place i? -/
noncomputable def efBefore (i : Nat) : List Ev → Bool
  | [] => false
  | ev :: l => bif Nat.beq ev.d.i i then false else (bif ev.isEf then true else efBefore i l)

/-- A read gives the same wherever among the effects it may stand. -/
noncomputable def rdAll (E : Env) (A : Hp) (L : List Ev) : Bool := L.all fun ev => match ev with
  | .rd d v q s => d.alone || ((A, L) :: afters L).all fun x => !(mayRead d x.2 && efBefore d.i x.2) || rdTest E q s v (hpFor d.pre x.1 x.2)
  | _ => true

/-- Does it hold no address (and no function)? -/
noncomputable def leafV : AV → Bool
  | .bool _ => true
  | .int _ _ => true
  | .flt _ _ => true
  | .str _ => true
  | .tstr _ => true
  | _ => false
noncomputable def leafL : List AV → Bool
  | [] => true
  | v :: l => bif leafV v then leafL l else false
noncomputable def pureV : AV → Bool
  | .agg l => leafL l
  | v => leafV v
noncomputable def pureL : List AV → Bool
  | [] => true
  | v :: l => bif pureV v then pureL l else false
/-- A call with arguments that hold no address, whose run in the empty heap gives what holds none: a value, not an effect. -/
noncomputable def pureOf (cal : FuncId → List AV → Hp → CR) (q : EO) (s : T AV) : Option AV := match q with
  | .call f xs => match xs.map (Od.rd s) with
    | [] => none
    | v :: vs => bif pureL (v :: vs) then (match cal f (v :: vs) Hp.empty with
      | .ret u _ => bif pureV u then some u else none
      | _ => none) else none
  | _ => none

/-- 'A': the heap behind the last effect; 'seg': what was done since, the last first; 'log': all, the last first. -/
noncomputable def runDOs (E : Env) (cal : FuncId → List AV → Hp → CR) (base : Nat) (l : List DO) : T AV → Hp → Hp → List Ev → List Ev → (T AV → Hp → List Ev → RR) → RR :=
  List.rec (motive := fun _ => T AV → Hp → Hp → List Ev → List Ev → (T AV → Hp → List Ev → RR) → RR) (fun fr h _ _ log k => k fr h log)
    (fun d _ ih fr h A seg log k => match sel fr d.sl with
      | s => bif guardOk s d.io.guard then
          match d.io.op with
          | .p q => match q.run s with
            | some v => ih (putO fr d.io.dst v) h A (.val d v :: seg) (.val d v :: log) k
            | none => .err 201
          | .a q => match q.run s (base + d.i) with
            | some (some ob, v) => ih (putO fr d.io.dst v) (h.set (base + d.i) ob) A (.al d v (base + d.i) ob :: seg) (.al d v (base + d.i) ob :: log) k
            | some (none, v) => ih (putO fr d.io.dst v) h A (.val d v :: seg) (.val d v :: log) k
            | none => .err 202
          | .r q => match q.run E.gl s (hpFor d.pre A seg) with
            | some v => ih (putO fr d.io.dst v) h A (.rd d v q s :: seg) (.rd d v q s :: log) k
            | none => .err 203
          | .e q => match pureOf cal q s with
            | some v => ih (putO fr d.io.dst v) h A (.val d v :: seg) (.val d v :: log) k
            | none => match q.run E.gl (isFn E.P) (fun f => E.ext.get (Ps.key f)) s h with
                | .val v h' => ih (putO fr d.io.dst v) h' h' [] (.ef d v h h' :: log) k
                | .ent f as h1 => match cal f as h1 with
                  | .ret v h' => ih (putO fr d.io.dst v) h' h' [] (.ef d v h h' :: log) k
                  | .pan _ _ => .err 204
                  | .err n => .err n
                | .pan _ _ => .err 205
                | .bad n => .err n
          | .bad n => .err n
        else bif guardAny s d.io.guard then .err 207 else ih (putO fr d.io.dst (.tup [])) h A (.val d (.tup []) :: seg) (.val d (.tup []) :: log) k) l

noncomputable def runDra (E : Env) (cal : FuncId → List AV → Hp → CR) (l : List DO) (fr : T AV) (h : Hp) : RR :=
  match ({ tr := h.tr, nxt := h.nxt + l.length } : Hp) with
  | h1 => runDOs E cal h.nxt l fr h1 h1 [] [] fun fr' h' log => match log.reverse with
    | L => bif rdAll E h1 L then .ok fr' h' else .err 206

/-! ## Code and calls -/

inductive EX | nor | exi (id : Nat) | ret | pan (v : AV)
inductive XR | ok (x : EX) (fr : T AV) (h : Hp) | err (n : Nat)

noncomputable def RR.toXR : RR → XR
  | .ok fr h => .ok .nor fr h
  | .pan v fr h => .ok (.pan v) fr h
  | .err n => .err n

noncomputable def execStep (E : Env) (cal : FuncId → List AV → Hp → CR) (rec : IC → T AV → Hp → XR) (c : IC) (fr : T AV) (h : Hp) : XR :=
  match c with
  | .skip => .ok .nor fr h
  | .reg l => (runIOs E cal l fr h).toXR
  | .dra l => (runDra E cal l fr h).toXR
  | .seq a b => match rec a fr h with
    | .ok .nor fr h => rec b fr h
    | r => r
  | .cond c a b => match c.rd fr with
    | .bool t => bif t then rec a fr h else rec b fr h
    | _ => .err 301
  | .block id b => match rec b fr h with
    | .ok (.exi j) fr h => bif Nat.beq j id then .ok .nor fr h else .ok (.exi j) fr h
    | r => r
  | .loop b => match rec b fr h with
    | .ok .nor fr h => rec (.loop b) fr h
    | r => r
  | .exit id => .ok (.exi id) fr h
  | .ret => .ok .ret fr h
  | .bad n => .err n

noncomputable def ini : Nat → List AV → T AV → T AV
  | _, [], t => t
  | n, v :: l, t => ini (n + 1) l (t.put (some v) (Ps.key n))

noncomputable def resOne (E : Env) (fr : T AV) (h : Hp) : RV → Option AV
  | .tmp p => some ((Od.t p).rd fr)
  | .cell p n agg => (RO.load n agg (.t p)).run E.gl fr h
  | .bad => none
noncomputable def resL (E : Env) (fr : T AV) (h : Hp) : List RV → Option (List AV)
  | [] => some []
  | r :: l => match resOne E fr h r, resL E fr h l with
    | some x, some y => some (x :: y)
    | _, _ => none

noncomputable def finish (E : Env) (F : IF) (fr : T AV) (h : Hp) : CR := match resL E fr h F.res with
  | some [v] => .ret v h
  | some l => .ret (.tup l) h
  | none => .err 401

/-- A call by the program's own text. -/
noncomputable def natStep (E : Env) (rec : IC → T AV → Hp → XR) (f : FuncId) (args : List AV) (h : Hp) : CR :=
  match cFn E.P f with
    | some F => match rec F.body (ini 0 args .nil) h with
      | .ok .nor fr h => finish E F fr h
      | .ok .ret fr h => finish E F fr h
      | .ok (.pan v) _ h => .pan v h
      | .ok (.exi _) _ _ => .err 402
      | .err n => .err (n * 1000 + f)
    | none => .err 403
/-- A call: by what stands for the function, if that gives anything. -/
noncomputable def callStep (E : Env) (rec : IC → T AV → Hp → XR) (f : FuncId) (args : List AV) (h : Hp) : CR :=
  match E.orc.get (Ps.key f) with
  | some o => match o args h with
    | some r => r
    | none => natStep E rec f args h
  | none => natStep E rec f args h

noncomputable def exec (E : Env) (fuel : Nat) : IC → T AV → Hp → XR :=
  Nat.rec (motive := fun _ => IC → T AV → Hp → XR) (fun _ _ _ => .err 0) (fun _ ih => execStep E (callStep E ih) ih) fuel

noncomputable def call (E : Env) (fuel : Nat) (f : FuncId) (args : List AV) (h : Hp) : CR := callStep E (exec E fuel) f args h
end Ax
namespace Ax
open Go
variable [Sy]

/-- What the slots of a frame mean. -/
noncomputable def FR (φ : Mp) (fr : T AV) (a : Act) : Prop := ∀ t, g φ ((Od.t (Ps.key t)).rd fr) = some (a.tmps.getD t undef)

theorem FR.sub {φ φ' : Mp} {fr : T AV} {a : Act} (h : FR φ fr a) (s : Sub φ φ') : FR φ' fr a := fun t => g_sub s (h t)

theorem of1_ok {φ : Mp} {v : Value} {u : AV} (h : of1 v = some u) : g φ u = some v := by
  unfold of1 at h
  split at h
  all_goals first
    | (simp only [Option.some.injEq] at h; subst h; simp [g, BS.ofList_list]; done)
    | skip
  · rename_i f a b
    by_cases hab : a.isEmpty && b.isEmpty
    · simp only [hab, if_true, Option.some.injEq] at h
      subst h
      simp only [Bool.and_eq_true, Array.isEmpty_iff] at hab
      simp [g, gL, hab.1, hab.2]
    · simp [hab] at h
  · simp at h

theorem ofL_ok {φ : Mp} : ∀ {l : List Value} {u : List AV}, ofL l = some u → gL φ u = some l
  | [], u, h => by simp only [ofL, Option.some.injEq] at h; subst h; rfl
  | v :: l, u, h => by
    unfold ofL at h
    split at h
    · rename_i x y hx hy
      simp only [Option.some.injEq] at h; subst h
      simp [gL, of1_ok hx, ofL_ok hy]
    · simp at h

theorem ofV_ok {φ : Mp} {v : Value} {u : AV} (h : ofV v = some u) : g φ u = some v := by
  unfold ofV at h
  split at h
  · simp only [Option.map_eq_some_iff] at h; obtain ⟨l, hl, rfl⟩ := h; simp [g, ofL_ok hl]
  · simp only [Option.map_eq_some_iff] at h; obtain ⟨l, hl, rfl⟩ := h; simp [g, ofL_ok hl]
  · exact of1_ok h

theorem rd_ok {φ : Mp} {fr : T AV} {a : Act} (hF : FR φ fr a) {o : Operand} {d : Od} (h : cOd o = some d) : g φ (d.rd fr) = some (a.eval o) := by
  unfold cOd at h
  split at h
  · simp only [Option.some.injEq] at h; subst h; exact hF _
  · simp only [Option.map_eq_some_iff] at h; obtain ⟨u, hu, rfl⟩ := h; exact ofV_ok hu
  · simp only [Option.some.injEq] at h; subst h; simp [Od.rd, g, gA, Act.eval]
  · simp only [Option.some.injEq] at h; subst h; simp [Od.rd, g, gL, Act.eval]

theorem rds_ok {φ : Mp} {fr : T AV} {a : Act} (hF : FR φ fr a) : ∀ {l : List Operand} {ds : List Od}, cOds l = some ds → gL φ (ds.map (Od.rd fr)) = some (l.map a.eval)
  | [], ds, h => by simp only [cOds, Option.some.injEq] at h; subst h; rfl
  | x :: l, ds, h => by
    unfold cOds at h
    split at h
    · rename_i p q hp hq
      simp only [Option.some.injEq] at h; subst h
      simp [gL, rd_ok hF hp, rds_ok hF hq]
    · simp at h

/-! ## Inversions -/
section
variable {φ : Mp}
theorem g_bool {b : Bool} {x : Value} (h : g φ (.bool b) = some x) : x = .bool b := by simp only [g, Option.some.injEq] at h; exact h.symm
theorem g_int {k : IntKind} {n : Int} {x : Value} (h : g φ (.int k n) = some x) : x = .int k n := by simp only [g, Option.some.injEq] at h; exact h.symm
theorem g_flt {k : FloatKind} {n : Nat} {x : Value} (h : g φ (.flt k n) = some x) : x = .float k n := by simp only [g, Option.some.injEq] at h; exact h.symm
theorem g_str {s : BS} {x : Value} (h : g φ (.str s) = some x) : x = .string ⟨s.list.toArray⟩ := by simp only [g, Option.some.injEq] at h; exact h.symm
theorem g_ptr {a : Ad × Nat} {x : Value} (h : g φ (.ptr (some a)) = some x) : ∃ A, gA φ a = some A ∧ x = .pointer (some A) := by
  simp only [g, Option.map_eq_some_iff] at h; obtain ⟨A, hA, rfl⟩ := h; exact ⟨A, hA, rfl⟩
theorem g_agg {l : List AV} {x : Value} (h : g φ (.agg l) = some x) : ∃ xs, gL φ l = some xs ∧ x = .agg xs.toArray := by
  simp only [g, Option.map_eq_some_iff] at h; obtain ⟨A, hA, rfl⟩ := h; exact ⟨A, hA, rfl⟩
theorem g_tup {l : List AV} {x : Value} (h : g φ (.tup l) = some x) : ∃ xs, gL φ l = some xs ∧ x = .tuple xs.toArray := by
  simp only [g, Option.map_eq_some_iff] at h; obtain ⟨A, hA, rfl⟩ := h; exact ⟨A, hA, rfl⟩
theorem g_ifc {t : TypeId} {v : AV} {x : Value} (h : g φ (.ifc t v) = some x) : ∃ y, g φ v = some y ∧ x = .iface t y := by
  simp only [g, Option.map_eq_some_iff] at h; obtain ⟨A, hA, rfl⟩ := h; exact ⟨A, hA, rfl⟩
theorem g_slcS {a : Ad × Nat} {n c : Nat} {x : Value} (h : g φ (.slc (some a) n (.k c)) = some x) : ∃ A, gA φ a = some A ∧ x = .slice (some A) n c := by
  simp only [g, Option.map_eq_some_iff] at h; obtain ⟨A, hA, rfl⟩ := h; exact ⟨A, hA, rfl⟩
theorem g_slc {a : Ad × Nat} {n : Nat} {cap : Cp} {x : Value} (h : g φ (.slc (some a) n cap) = some x) : ∃ A c, gA φ a = some A ∧ x = .slice (some A) n c ∧ (match cap with | .k d => c = d | .u e => gCap φ e n a = some c) := by
  cases cap with
  | k c => obtain ⟨A, hA, rfl⟩ := g_slcS h; exact ⟨A, c, hA, rfl, rfl⟩
  | u e =>
    simp only [g, Option.map_eq_some_iff, Option.bind_eq_some_iff] at h
    obtain ⟨A, hA, c, hc, rfl⟩ := h
    exact ⟨A, c, hA, rfl, hc⟩
theorem g_fn {f : Fn} {a b : List AV} {x : Value} (h : g φ (.fn f a b) = some x) : ∃ xs ys, gL φ a = some xs ∧ gL φ b = some ys ∧ x = .func f xs.toArray ys.toArray := by
  simp only [g, Option.map_eq_some_iff, Option.bind_eq_some_iff] at h; obtain ⟨A, hA, B, hB, rfl⟩ := h; exact ⟨A, B, hA, hB, rfl⟩
theorem gA_spot {a : Ad × Nat} {A : Addr} (h : gA φ a = some A) : A.spot = none := by
  obtain ⟨d, o⟩ := a
  cases d with
  | glob n => simp only [gA, Option.some.injEq] at h; subst h; rfl
  | own id => simp only [gA, Option.map_eq_some_iff] at h; obtain ⟨L, hL, rfl⟩ := h; rfl
theorem gA_add {a : Ad × Nat} {A : Addr} (n : Nat) (h : gA φ a = some A) : gA φ (addA a n) = some (A.add n) := by
  obtain ⟨d, o⟩ := a
  have key : ∀ (B O : Nat), (⟨B, O, none⟩ : Addr).add n = ⟨B, O + n, none⟩ := by
    intro B O; unfold Addr.add; split
    · rename_i h0; subst h0; rfl
    · rfl
  cases d with
  | glob m => simp only [gA, Option.some.injEq] at h; subst h; simp [gA, addA, key]
  | own id =>
    simp only [gA, Option.map_eq_some_iff] at h; obtain ⟨L, hL, rfl⟩ := h
    simp [gA, addA, hL, key, Nat.add_assoc]
end

/-! ## Plain words -/
theorem sLt_eq : ∀ (a b : List UInt8), sLt a b = Op.bytesLess a b
  | _, [] => by simp [sLt, Op.bytesLess]
  | [], b :: y => by simp [sLt, Op.bytesLess]
  | a :: x, b :: y => by
    have ih := sLt_eq x y
    simp only [sLt, Op.bytesLess, bEq_eq, ih]
    have : Nat.blt a.toNat b.toNat = decide (a < b) := by
      rw [Bool.eq_iff_iff]; simp [Nat.blt, UInt8.lt_iff_toNat_lt, Nat.ble_eq]; omega
    rw [this]
    by_cases h : a < b
    · simp [h]
    · cases h2 : a == b <;> simp [h]
theorem blt_iff (a b : Nat) : (Nat.blt a b = true) ↔ a < b := by rw [Nat.blt, Nat.ble_eq]; omega
theorem iEq_eq (x y : Int) : iEq x y = decide (x = y) := by
  rw [Bool.eq_iff_iff, decide_eq_true_eq]
  cases x <;> cases y <;> simp only [iEq, Nat.beq_eq, Bool.false_eq_true, false_iff, Int.ofNat_eq_natCast] <;> omega
theorem iLt_eq (x y : Int) : iLt x y = decide (x < y) := by
  rw [Bool.eq_iff_iff, decide_eq_true_eq]
  cases x <;> cases y <;> simp only [iLt, blt_iff, Bool.false_eq_true, false_iff, true_iff, Int.ofNat_eq_natCast] <;> omega
theorem wr_eq (k : IntKind) (n : Int) : wr k n = k.wrap n := by
  unfold wr
  split
  · rename_i n
    cases h : Nat.blt n (roof k) with
    | false => rfl
    | true =>
      have h' : n < roof k := (blt_iff _ _).1 h
      simp only [cond_true]
      cases k <;> simp only [roof] at h' <;> simp [IntKind.wrap, IntKind.bits, IntKind.signed] <;> omega
  · rfl
theorem kEq_eq (j k : IntKind) : kEq j k = decide (j = k) := by cases j <;> cases k <;> rfl
end Ax
namespace Ax
open Go
variable [Sy]

section
variable {P : Program} {φ : Mp} {w : World}

theorem aInt_ok {op : BinOp} {k : IntKind} {x y : Int} {v : AV} (h : aInt op k x y = some v) (t : TypeId) :
    ∃ X, g φ v = some X ∧ (binOp op t (.int k x) (.int k y)).run P w = .ok X w := by
  cases op <;> simp only [aInt, wr_eq, iEq_eq, iLt_eq, Option.some.injEq, reduceCtorEq] at h
  case quo =>
    by_cases hy : y = 0
    · simp [hy] at h
    · simp only [hy, decide_false, cond_false, Option.some.injEq] at h; subst h
      exact ⟨_, rfl, by simp [binOp, Op.intDiv, hy]⟩
  case rem =>
    by_cases hy : y = 0
    · simp [hy] at h
    · simp only [hy, decide_false, cond_false, Option.some.injEq] at h; subst h
      exact ⟨_, rfl, by simp [binOp, Op.intDiv, hy]⟩
  all_goals
    subst h
    refine ⟨_, rfl, ?_⟩
    simp only [binOp, Op.intCmp, Op.intArith, Op.intBits, ne_eq, not_true_eq_false, if_false, Sem.run_pure]
  all_goals
    refine congrArg (fun b => Result.ok (Value.bool b) w) ?_
    rw [Bool.eq_iff_iff]
  all_goals simp

theorem aShift_ok {op : BinOp} {k yk : IntKind} {x y : Int} {v : AV} (h : aShift op k x y = some v) (t : TypeId) :
    ∃ X, g φ v = some X ∧ (binOp op t (.int k x) (.int yk y)).run P w = .ok X w := by
  unfold aShift at h
  split at h
  · simp at h
  · rename_i m
    have hn : ¬ ((Int.ofNat m : Int) < 0) := by simp only [Int.ofNat_eq_natCast]; omega
    split at h
    · simp only [Option.some.injEq, wr_eq] at h; subst h
      exact ⟨_, rfl, by simp only [binOp, Op.shift, hn, if_false]; simp⟩
    · simp only [Option.some.injEq] at h; subst h
      exact ⟨_, rfl, by simp only [binOp, Op.shift, hn, if_false]; simp⟩
    · simp at h

theorem aFlt_ok {op : BinOp} {x y : Nat} {v : AV} (h : aFlt op x y = some v) (t : TypeId) :
    ∃ X, g φ v = some X ∧ (binOp op t (.float .f64 x) (.float .f64 y)).run P w = .ok X w := by
  cases op <;> simp only [aFlt, Option.some.injEq, Option.map_eq_some_iff, reduceCtorEq] at h
  case add => obtain ⟨r, hr, rfl⟩ := h; exact ⟨_, rfl, by simp [binOp, Op.floatArith, hr]⟩
  case sub => obtain ⟨r, hr, rfl⟩ := h; exact ⟨_, rfl, by simp [binOp, Op.floatArith, hr]⟩
  case mul => obtain ⟨r, hr, rfl⟩ := h; exact ⟨_, rfl, by simp [binOp, Op.floatArith, hr]⟩
  case quo => obtain ⟨r, hr, rfl⟩ := h; exact ⟨_, rfl, by simp [binOp, Op.floatArith, hr]⟩
  all_goals
    subst h
    refine ⟨_, rfl, ?_⟩
    simp only [binOp, ne_eq, not_true_eq_false, if_false]
    simp [Op.floatCmp]

theorem aStr_ok {op : BinOp} {x y : BS} {v : AV} (h : aStr op x y = some v) (t : TypeId) :
    ∃ X, g φ v = some X ∧ (binOp op t (.string ⟨x.list.toArray⟩) (.string ⟨y.list.toArray⟩)).run P w = .ok X w := by
  have e1 : (⟨x.list.toArray⟩ : ByteArray).toList = x.list := by rw [ByteArray.toList_eq]
  have e2 : (⟨y.list.toArray⟩ : ByteArray).toList = y.list := by rw [ByteArray.toList_eq]
  cases op <;> simp only [aStr, Option.some.injEq, BS.eq_beq, sLt_eq, reduceCtorEq] at h
  case add =>
    cases hb : Nat.ble (x.len + y.len) 1099511627776 with
    | false => simp [hb] at h
    | true =>
      simp only [hb, cond_true, Option.some.injEq] at h; subst h
      have hb' : x.len + y.len ≤ 1099511627776 := by rw [Nat.ble_eq] at hb; exact hb
      have hs : ¬ (((⟨x.list.toArray⟩ : ByteArray).size + (⟨y.list.toArray⟩ : ByteArray).size : Nat) : Int) > IntKind.i64.max := by
        have s1 : (⟨x.list.toArray⟩ : ByteArray).size = x.len := by simp [ByteArray.size, BS.list_len]
        have s2 : (⟨y.list.toArray⟩ : ByteArray).size = y.len := by simp [ByteArray.size, BS.list_len]
        rw [s1, s2]
        have : IntKind.i64.max = 9223372036854775807 := by decide
        rw [this]; omega
      refine ⟨_, rfl, ?_⟩
      simp only [binOp, Op.stringOp, hs, if_false, Sem.run_pure, BS.app_list]
      congr 2
  all_goals
    subst h
    exact ⟨_, rfl, by simp [binOp, Op.stringOp, e1, e2]⟩

theorem aUn_ok {op : UnOp} {x v : AV} {X : Value} (h : aUn op x = some v) (hx : g φ x = some X) : ∃ Y, g φ v = some Y ∧ (Op.unary op X).run P w = .ok Y w := by
  unfold aUn at h
  split at h
  · have := g_int hx; subst this
    simp only [Option.some.injEq, wr_eq] at h; subst h
    exact ⟨_, rfl, by simp [Op.unary, Op.intArith]⟩
  · have := g_int hx; subst this
    simp only [aInt, Option.some.injEq] at h; subst h
    exact ⟨_, rfl, by simp [Op.unary, Op.intBits]⟩
  · have := g_bool hx; subst this
    simp only [Option.some.injEq] at h; subst h
    exact ⟨_, rfl, by simp [Op.unary]⟩
  · have := g_flt hx; subst this
    simp only [Option.some.injEq] at h; subst h
    exact ⟨_, rfl, by simp [Op.unary]⟩
  · simp at h

/-! ## Comparisons by type -/

/-- The type of a leaf. -/
noncomputable def LfT (P : Program) (t : TypeId) : Lf → Prop
  | .bool => P.underlying t = some .bool
  | .int => ∃ k, P.underlying t = some (.int k)
  | .str => P.underlying t = some .string
  | .flt => P.underlying t = some (.float .f64)

theorem eqLf_ok {l : Lf} {x y : AV} {b : Bool} {X Y : Value} (h : eqLf l x y = some b) (hx : g φ x = some X) (hy : g φ y = some Y) (d : Nat) (t : TypeId)
    (ht : LfT P t l) : (Op.equalIn (d + 1) t X Y).run P w = .ok b w := by
  unfold eqLf at h
  split at h
  · have := g_bool hx; subst this; have := g_bool hy; subst this
    simp only [Option.some.injEq] at h; subst h
    have ht : P.underlying t = some .bool := ht
    simp [Op.equalIn, run_underlying ht]
  · rename_i k a k' b'
    have := g_int hx; subst this; have := g_int hy; subst this
    obtain ⟨k0, ht⟩ := ht
    replace h : (bif kEq k k' then some (iEq a b') else none) = some b := h
    rw [kEq_eq] at h
    by_cases hk : k = k'
    · subst hk
      simp only [decide_true, cond_true, Option.some.injEq, iEq_eq] at h; subst h
      simp only [Op.equalIn, Sem.run_bind, run_underlying ht, Result.andThen_ok]
      simp
      rw [Bool.eq_iff_iff]; simp
    · simp [hk] at h
  · have := g_str hx; subst this; have := g_str hy; subst this
    have ht : P.underlying t = some .string := ht
    simp only [Option.some.injEq, BS.eq_beq] at h; subst h
    simp only [Op.equalIn, Sem.run_bind, run_underlying ht, Result.andThen_ok]
    simp only [Sem.run_pure, beq_toListBytes, ByteArray.toList_eq]
  · have := g_flt hx; subst this; have := g_flt hy; subst this
    have ht : P.underlying t = some (.float .f64) := ht
    simp only [Option.some.injEq] at h; subst h
    simp only [Op.equalIn, Sem.run_bind, run_underlying ht, Result.andThen_ok]
    simp
  · simp at h

/-! ## The leaves of a type -/

theorem info_of_und {t : TypeId} {d : TypeDesc} (h : P.underlying t = some d) : ∃ i, P.info? t = some i := by
  unfold Program.underlying at h
  cases hi : P.info? t with
  | none => simp [hi] at h
  | some i => exact ⟨i, rfl⟩

theorem run_sizeOf' {t : TypeId} {d : TypeDesc} (h : P.underlying t = some d) (w : World) : (Go.sizeOf t).run P w = .ok (P.cellsOf t) w := by
  obtain ⟨i, hi⟩ := info_of_und h
  simp [Go.sizeOf, typeInfo, hi, Program.cellsOf]

theorem run_isAgg' {t : TypeId} {d : TypeDesc} (h : P.underlying t = some d) (w : World) : (isAgg t).run P w = .ok (isAggT P t) w := by
  simp only [isAgg, isAggT, Sem.run_bind, run_underlying h, Result.andThen_ok, h]
  cases d <;> rfl

/-- The value of a type that some cells make up. -/
noncomputable def pk (P : Program) (t : TypeId) (xs : List Value) : Value := if isAggT P t then .agg xs.toArray else xs.headD undef

theorem run_part_pk {t : TypeId} {d : TypeDesc} (h : P.underlying t = some d) {pre mid post : List Value} (hl : mid.length = P.cellsOf t) (h1 : isAggT P t = false → mid.length = 1) (w : World) :
    (part t (pre ++ (mid ++ post)).toArray pre.length).run P w = .ok (pk P t mid) w := by
  simp only [part, Sem.run_bind, run_isAgg' h, Result.andThen_ok, pk]
  cases ha : isAggT P t with
  | true =>
    simp only [if_true, Sem.run_bind, run_sizeOf' h, Result.andThen_ok, Sem.run_pure]
    congr 2
    rw [← hl]
    simp [List.extract_eq_take_drop]
  | false =>
    have h1 := h1 ha
    obtain ⟨v, rfl⟩ : ∃ v, mid = [v] := List.length_eq_one_iff.1 h1
    simp

theorem eqLs_append {l r : List Lf} {xs ys : List AV} {b : Bool} (h : eqLs (l ++ r) xs ys = some b) :
    (eqLs l (xs.take l.length) (ys.take l.length) = some false ∧ b = false) ∨
    (eqLs l (xs.take l.length) (ys.take l.length) = some true ∧ eqLs r (xs.drop l.length) (ys.drop l.length) = some b) := by
  induction l generalizing xs ys with
  | nil => right; exact ⟨by simp [eqLs], by simpa using h⟩
  | cons a l ih =>
    cases xs with
    | nil => simp [eqLs] at h
    | cons x xs =>
      cases ys with
      | nil => simp [eqLs] at h
      | cons y ys =>
        simp only [List.cons_append, eqLs, List.length_cons, List.take_succ_cons, List.drop_succ_cons] at h ⊢
        cases he : eqLf a x y with
        | none => simp [he] at h
        | some c =>
          cases c with
          | false => simp [he] at h; left; exact ⟨rfl, h.symm ▸ rfl⟩
          | true => simp [he] at h; exact ih h

/-- What is to be shown of a type's comparison. -/
noncomputable def EqAt (P : Program) (φ : Mp) (D : Nat) (t : TypeId) (ls : List Lf) : Prop :=
  (isAggT P t = false → ls.length = 1) ∧ (∃ d, P.underlying t = some d) ∧
  ∀ d, D ≤ d → ∀ (xs ys : List AV) (b : Bool) (XS YS : List Value) (w : World), xs.length = ls.length → ys.length = ls.length → eqLs ls xs ys = some b → gL φ xs = some XS → gL φ ys = some YS →
    (Op.equalIn d t (pk P t XS) (pk P t YS)).run P w = .ok b w

theorem lvF_ok {D : Nat} {rec : TypeId → Option (List Lf)} (hrec : ∀ t ls, rec t = some ls → EqAt P φ D t ls) :
    ∀ (fs : List Field) (off : Nat) (ls : List Lf), lvF P rec fs off = some ls → ∀ d, D ≤ d → ∀ (px py : List Value) (xs ys : List AV) (b : Bool) (XS YS : List Value) (w : World),
      px.length = off → py.length = off → xs.length = ls.length → ys.length = ls.length → eqLs ls xs ys = some b → gL φ xs = some XS → gL φ ys = some YS →
      (Op.eqFields d (px ++ XS).toArray (py ++ YS).toArray fs).run P w = .ok b w
  | [], off, ls, h, d, hd, px, py, xs, ys, b, XS, YS, w, hpx, hpy, hlx, hly, he, hx, hy => by
    simp only [lvF, Option.some.injEq] at h; subst h
    obtain rfl : xs = [] := List.length_eq_zero_iff.1 hlx
    obtain rfl : ys = [] := List.length_eq_zero_iff.1 hly
    simp only [eqLs, Option.some.injEq] at he; subst he
    simp [Op.eqFields]
  | f :: fs, off, ls, h, d, hd, px, py, xs, ys, b, XS, YS, w, hpx, hpy, hlx, hly, he, hx, hy => by
    unfold lvF at h
    split at h
    · simp at h
    · rename_i l hl
      cases hc : (f.name != "_" && Nat.beq f.offset off && Nat.beq (P.cellsOf f.type) l.length) with
      | false => simp [hc] at h
      | true =>
        simp only [hc, cond_true] at h
        split at h
        · rename_i r hr
          simp only [Option.some.injEq] at h; subst h
          simp only [Bool.and_eq_true, bne_iff_ne, ne_eq, Nat.beq_eq] at hc
          obtain ⟨⟨hn, ho⟩, hcl⟩ := hc
          obtain ⟨h1, ⟨u, hu⟩, hq⟩ := hrec _ _ hl
          have lx := gL_length hx
          have ly := gL_length hy
          simp only [List.length_append] at hlx hly
          have ex : XS = XS.take l.length ++ XS.drop l.length := (List.take_append_drop _ _).symm
          have ey : YS = YS.take l.length ++ YS.drop l.length := (List.take_append_drop _ _).symm
          have tx : (XS.take l.length).length = P.cellsOf f.type := by rw [hcl, List.length_take]; omega
          have ty : (YS.take l.length).length = P.cellsOf f.type := by rw [hcl, List.length_take]; omega
          have p1 := run_part_pk (P := P) (t := f.type) (pre := px) (mid := XS.take l.length) (post := XS.drop l.length) hu tx (fun ha => by rw [tx, hcl]; exact h1 ha)
          have p2 := run_part_pk (P := P) (t := f.type) (pre := py) (mid := YS.take l.length) (post := YS.drop l.length) hu ty (fun ha => by rw [ty, hcl]; exact h1 ha)
          rw [← ex] at p1
          rw [← ey] at p2
          have fo : f.offset = px.length := by omega
          have fo' : px.length = py.length := by omega
          simp only [Op.eqFields, hn, ne_eq, not_false_eq_true, if_true, Sem.run_bind, fo, p1, Result.andThen_ok]
          rw [fo', p2]
          simp only [Result.andThen_ok]
          have g1 := gL_take l.length hx
          have g2 := gL_take l.length hy
          have q := fun b h => hq d hd (xs.take l.length) (ys.take l.length) b _ _ w (by rw [List.length_take]; omega) (by rw [List.length_take]; omega) h g1 g2
          rcases eqLs_append he with ⟨e1, rfl⟩ | ⟨e1, e2⟩
          · rw [q _ e1]; simp
          · rw [q _ e1]
            simp only [Result.andThen_ok, Bool.not_true, Bool.false_eq_true, if_false]
            have := lvF_ok hrec fs (off + l.length) r hr d hd (px ++ XS.take l.length) (py ++ YS.take l.length) (xs.drop l.length) (ys.drop l.length) b (XS.drop l.length) (YS.drop l.length) w
              (by rw [List.length_append, tx, hcl]; omega) (by rw [List.length_append, ty, hcl]; omega) (by rw [List.length_drop]; omega) (by rw [List.length_drop]; omega) e2 (gL_drop _ hx) (gL_drop _ hy)
            simpa only [List.append_assoc, List.take_append_drop] using this
        · simp at h

theorem lvA_ok {D : Nat} {e : TypeId} {l : List Lf} (hq : EqAt P φ D e l) (hcl : P.cellsOf e = l.length) :
    ∀ (n k : Nat) (d : Nat), D ≤ d → ∀ (px py : List Value) (xs ys : List AV) (b : Bool) (XS YS : List Value) (w : World),
      px.length = k * l.length → py.length = k * l.length → xs.length = (List.flatten (List.replicate n l)).length → ys.length = (List.flatten (List.replicate n l)).length →
      eqLs (List.flatten (List.replicate n l)) xs ys = some b → gL φ xs = some XS → gL φ ys = some YS →
      (Op.eqItems d e (P.cellsOf e) (px ++ XS).toArray (py ++ YS).toArray (List.range' k n)).run P w = .ok b w
  | 0, k, d, hd, px, py, xs, ys, b, XS, YS, w, hpx, hpy, hlx, hly, he, hx, hy => by
    simp only [List.replicate_zero, List.flatten_nil, List.length_nil, List.length_eq_zero_iff] at hlx hly
    subst hlx; subst hly
    simp only [List.replicate_zero, List.flatten_nil, eqLs, Option.some.injEq] at he; subst he
    simp [Op.eqItems]
  | n + 1, k, d, hd, px, py, xs, ys, b, XS, YS, w, hpx, hpy, hlx, hly, he, hx, hy => by
    simp only [List.replicate_succ, List.flatten_cons, List.length_append] at hlx hly he
    obtain ⟨h1, ⟨u, hu⟩, hq'⟩ := hq
    have lx := gL_length hx
    have ly := gL_length hy
    have ex : XS = XS.take l.length ++ XS.drop l.length := (List.take_append_drop _ _).symm
    have ey : YS = YS.take l.length ++ YS.drop l.length := (List.take_append_drop _ _).symm
    have tx : (XS.take l.length).length = P.cellsOf e := by rw [hcl, List.length_take]; omega
    have ty : (YS.take l.length).length = P.cellsOf e := by rw [hcl, List.length_take]; omega
    have p1 := run_part_pk (P := P) (t := e) (pre := px) (mid := XS.take l.length) (post := XS.drop l.length) hu tx (fun ha => by rw [tx, hcl]; exact h1 ha)
    have p2 := run_part_pk (P := P) (t := e) (pre := py) (mid := YS.take l.length) (post := YS.drop l.length) hu ty (fun ha => by rw [ty, hcl]; exact h1 ha)
    have hpx' : px.length = k * P.cellsOf e := by rw [hpx, hcl]
    have hpy' : py.length = k * P.cellsOf e := by rw [hpy, hcl]
    rw [← ex, hpx'] at p1
    rw [← ey, hpy'] at p2
    rw [List.range'_succ]
    simp only [Op.eqItems, Sem.run_bind, p1, p2, Result.andThen_ok]
    have g1 := gL_take l.length hx
    have g2 := gL_take l.length hy
    have q := fun b h => hq' d hd (xs.take l.length) (ys.take l.length) b _ _ w (by rw [List.length_take]; omega) (by rw [List.length_take]; omega) h g1 g2
    rcases eqLs_append he with ⟨e1, rfl⟩ | ⟨e1, e2⟩
    · rw [q _ e1]; simp
    · rw [q _ e1]
      simp only [Result.andThen_ok, Bool.not_true, Bool.false_eq_true, if_false]
      have := lvA_ok ⟨h1, ⟨u, hu⟩, hq'⟩ hcl n (k + 1) d hd (px ++ XS.take l.length) (py ++ YS.take l.length) (xs.drop l.length) (ys.drop l.length) b (XS.drop l.length) (YS.drop l.length) w
        (by rw [List.length_append, tx, hcl, hpx, Nat.succ_mul]) (by rw [List.length_append, ty, hcl, hpy, Nat.succ_mul]) (by rw [List.length_drop]; omega) (by rw [List.length_drop]; omega) e2 (gL_drop _ hx) (gL_drop _ hy)
      simpa only [List.append_assoc, List.take_append_drop] using this

theorem eqLs_one {l : Lf} {xs ys : List AV} {b : Bool} (h : eqLs [l] xs ys = some b) : ∃ x y, xs.head? = some x ∧ ys.head? = some y ∧ eqLf l x y = some b := by
  cases xs with
  | nil => simp [eqLs] at h
  | cons x xs =>
    cases ys with
    | nil => simp [eqLs] at h
    | cons y ys =>
      refine ⟨x, y, rfl, rfl, ?_⟩
      simp only [eqLs] at h
      cases he : eqLf l x y with
      | none => simp [he] at h
      | some c =>
        cases c with
        | false => simpa [he] using h
        | true =>
          simp only [he] at h
          cases xs <;> cases ys <;> simp_all [eqLs]

theorem EqAt.leaf {D : Nat} {t : TypeId} {l : Lf} (ha : isAggT P t = false) (hu : ∃ d, P.underlying t = some d) (ht : LfT P t l) : EqAt P φ (D + 1) t [l] := by
  refine ⟨fun _ => rfl, hu, fun d hd xs ys b XS YS w hlx hly he hx hy => ?_⟩
  obtain ⟨d, rfl⟩ : ∃ e, d = e + 1 := ⟨d - 1, by omega⟩
  obtain ⟨x, y, h1, h2, h3⟩ := eqLs_one he
  obtain ⟨x', rfl⟩ : ∃ v, xs = [v] := List.length_eq_one_iff.1 hlx
  obtain ⟨y', rfl⟩ : ∃ v, ys = [v] := List.length_eq_one_iff.1 hly
  simp only [List.head?_cons, Option.some.injEq] at h1 h2; subst h1; subst h2
  simp only [gL, Option.map_eq_some_iff, Option.bind_eq_some_iff, Option.some.injEq] at hx hy
  obtain ⟨X, hX, _, rfl, rfl⟩ := hx
  obtain ⟨Y, hY, _, rfl, rfl⟩ := hy
  simp only [pk, ha, Bool.false_eq_true, if_false, List.headD_cons]
  exact eqLf_ok h3 hX hY d t ht

theorem lvs_ok : ∀ (D : Nat) (t : TypeId) (ls : List Lf), lvs P D t = some ls → EqAt P φ D t ls
  | 0, t, ls, h => by simp [lvs] at h
  | D + 1, t, ls, h => by
    unfold lvs at h
    split at h
    · rename_i hu; simp only [Option.some.injEq] at h; subst h
      exact .leaf (by simp [isAggT, hu]) ⟨_, hu⟩ hu
    · rename_i k hu; simp only [Option.some.injEq] at h; subst h
      exact .leaf (by simp [isAggT, hu]) ⟨_, hu⟩ ⟨k, hu⟩
    · rename_i hu; simp only [Option.some.injEq] at h; subst h
      exact .leaf (by simp [isAggT, hu]) ⟨_, hu⟩ hu
    · rename_i hu; simp only [Option.some.injEq] at h; subst h
      exact .leaf (by simp [isAggT, hu]) ⟨_, hu⟩ hu
    · rename_i fs hu
      cases hs : P.stoodInHeld t with
      | true => simp [hs] at h
      | false =>
        simp only [hs, cond_false] at h
        have hagg : isAggT P t = true := by simp [isAggT, hu]
        refine ⟨fun h => by simp [hagg] at h, ⟨_, hu⟩, fun d hd xs ys b XS YS w hlx hly he hx hy => ?_⟩
        obtain ⟨d, rfl⟩ : ∃ e, d = e + 1 := ⟨d - 1, by omega⟩
        have hf : P.fieldsOf t = fs := by simp [Program.fieldsOf, hu]
        simp only [pk, hagg, if_true]
        rw [run_equalIn_struct w d t _ _ (by rw [hf]; exact hu) hs, hf]
        have := lvF_ok (P := P) (φ := φ) (D := D) (fun t ls h => lvs_ok D t ls h) fs.toList 0 ls h d (by omega) [] [] xs ys b XS YS w rfl rfl hlx hly he hx hy
        simpa using this
    · rename_i n e hu
      split at h
      · rename_i l hl
        cases hc : Nat.beq (P.cellsOf e) l.length with
        | false => simp [hc] at h
        | true =>
          simp only [hc, cond_true, Option.some.injEq] at h; subst h
          rw [Nat.beq_eq] at hc
          have hq := lvs_ok D e l hl
          have hagg : isAggT P t = true := by simp [isAggT, hu]
          refine ⟨fun h => by simp [hagg] at h, ⟨_, hu⟩, fun d hd xs ys b XS YS w hlx hly he hx hy => ?_⟩
          obtain ⟨d, rfl⟩ : ∃ e, d = e + 1 := ⟨d - 1, by omega⟩
          obtain ⟨_, ⟨u, hue⟩, _⟩ := id hq
          obtain ⟨i, hi⟩ := info_of_und hue
          simp only [pk, hagg, if_true]
          rw [run_equalIn_array w d _ _ hu hi, List.range_eq_range']
          have := lvA_ok (P := P) (φ := φ) hq hc n 0 d (by omega) [] [] xs ys b XS YS w (by simp) (by simp) hlx hly he hx hy
          simpa using this
      · simp at h
    · simp at h
end
end Ax
