/- Layer 1 has begun (a closed run), and the blocks that the reference hashes in closed runs; on no condition. -/
import Derived.Test.YtffbpmmagoiooaaGreatDoorOra
set_option linter.unusedVariables false
set_option linter.unusedSimpArgs false
set_option linter.unusedSectionVars false
namespace Tz
open Go Ax
variable [Ax.Sy]
noncomputable section
set_option maxRecDepth 1000000 in
theorem run1 (m : Int) : isTrue (call (EG m (orcA m 5)) 100000 275 [] Hp.empty) = true := by kernel_rfl
theorem begun1_ok (m : Int) (ng : Nat) : OOk Go.Proofs.Tryz.prog ng (gls m) 275 oTrue := true_ok m (orcA_ok m 5) (run1 m) ng
end
end Tz
namespace Tz
open Go Ax
variable [Ax.Sy]
noncomputable section
def K0 : List AV := [.agg [.int .u32 1779033703, .int .u32 3144134277, .int .u32 1013904242, .int .u32 2773480762, .int .u32 1359893119, .int .u32 2600822924, .int .u32 528734635, .int .u32 1541459225], .str [116, 114, 101, 101, 32, 55, 50, 0, 102, 32, 97, 0, 1, 0, 0, 0, 0, 0, 0, 0, 0, 0, 0, 0, 0, 0, 0, 0, 0, 0, 0, 0, 0, 0, 0, 0, 0, 0, 0, 0, 0, 0, 0, 0, 100, 32, 98, 0, 2, 0, 0, 0, 0, 0, 0, 0, 0, 0, 0, 0, 0, 0, 0, 0]]
def K1 : List AV := [.agg [.int .u32 572042807, .int .u32 4270510972, .int .u32 4153096308, .int .u32 1175833251, .int .u32 1707015951, .int .u32 37942321, .int .u32 3413126601, .int .u32 1303889203], .str [0, 0, 0, 0, 0, 0, 0, 0, 0, 0, 0, 0, 0, 0, 0, 0, 128, 0, 0, 0, 0, 0, 0, 0, 0, 0, 0, 0, 0, 0, 0, 0, 0, 0, 0, 0, 0, 0, 0, 0, 0, 0, 0, 0, 0, 0, 0, 0, 0, 0, 0, 0, 0, 0, 0, 0, 0, 0, 0, 0, 0, 0, 2, 128]]
def K2 : List AV := [.agg [.int .u32 1779033703, .int .u32 3144134277, .int .u32 1013904242, .int .u32 2773480762, .int .u32 1359893119, .int .u32 2600822924, .int .u32 528734635, .int .u32 1541459225], .str [98, 108, 111, 98, 32, 53, 0, 97, 98, 99, 100, 101, 128, 0, 0, 0, 0, 0, 0, 0, 0, 0, 0, 0, 0, 0, 0, 0, 0, 0, 0, 0, 0, 0, 0, 0, 0, 0, 0, 0, 0, 0, 0, 0, 0, 0, 0, 0, 0, 0, 0, 0, 0, 0, 0, 0, 0, 0, 0, 0, 0, 0, 0, 96]]
def K3 : List AV := [.agg [.int .u32 1779033703, .int .u32 3144134277, .int .u32 1013904242, .int .u32 2773480762, .int .u32 1359893119, .int .u32 2600822924, .int .u32 528734635, .int .u32 1541459225], .str [98, 108, 111, 98, 32, 49, 0, 120, 128, 0, 0, 0, 0, 0, 0, 0, 0, 0, 0, 0, 0, 0, 0, 0, 0, 0, 0, 0, 0, 0, 0, 0, 0, 0, 0, 0, 0, 0, 0, 0, 0, 0, 0, 0, 0, 0, 0, 0, 0, 0, 0, 0, 0, 0, 0, 0, 0, 0, 0, 0, 0, 0, 0, 64]]

/-- Does a run give just this? -/
def chkB (r : CR) (v : Option AV) : Bool := match r, v with
  | .ret u _, some v => avEq u v
  | _, _ => false
theorem chkB_ok {r : CR} {v : Option AV} {u : AV} (h : chkB r v = true) (hv : v = some u) : ∃ h', r = .ret u h' := by
  subst hv
  cases r with
  | ret a h' => exact ⟨h', by rw [avEq_ok _ _ (show avEq a u = true from h)]⟩
  | _ => cases h
end
end Tz
namespace Tz
open Go Ax
variable [Ax.Sy]
noncomputable section
set_option maxRecDepth 1000000 in
theorem blk0 (m : Int) : chkB (call (E0 m) 100000 183 K0 Hp.empty) (fBlk K0) = true := by kernel_rfl
set_option maxRecDepth 1000000 in
theorem blk1 (m : Int) : chkB (call (E0 m) 100000 183 K1 Hp.empty) (fBlk K1) = true := by kernel_rfl
end
end Tz
namespace Tz
open Go Ax
variable [Ax.Sy]
noncomputable section
set_option maxRecDepth 1000000 in
theorem blk2 (m : Int) : chkB (call (E0 m) 100000 183 K2 Hp.empty) (fBlk K2) = true := by kernel_rfl
set_option maxRecDepth 1000000 in
theorem blk3 (m : Int) : chkB (call (E0 m) 100000 183 K3 Hp.empty) (fBlk K3) = true := by kernel_rfl
end
end Tz
namespace Tz
open Go Ax
variable [Ax.Sy]
noncomputable section
def fTab (ar : List AV) : Option AV := bif avEqL ar K0 then fBlk K0 else bif avEqL ar K1 then fBlk K1 else bif avEqL ar K2 then fBlk K2 else bif avEqL ar K3 then fBlk K3 else none
theorem fBlk_plain {ar : List AV} {v : AV} (hF : fBlk ar = some v) : (∃ X, gL (fun _ => none) ar = some X) ∧ ∃ V, g (fun _ => none) v = some V := by
  unfold fBlk at hF
  split at hF
  · rename_i l s
    split at hF
    · rename_i hs h1
      rw [Bool.cond_eq_ite] at hF
      split at hF
      · simp only [Option.some.injEq] at hF; subst hF
        obtain rfl := u32L_ok h1
        exact ⟨⟨_, by simp only [gL, g, gL_ints, Option.map_some, Option.bind_some]; rfl⟩, ⟨_, by rw [g, gL_ints]; rfl⟩⟩
      · cases hF
    · cases hF
  · cases hF
theorem tab_one {m : Int} {K : List AV} {ar : List AV} {v : AV} (h : avEqL ar K = true) (hF : fBlk K = some v) (hb : chkB (call (E0 m) 100000 183 K Hp.empty) (fBlk K) = true) :
    (∃ X, gL (fun _ => none) ar = some X) ∧ (∃ V, g (fun _ => none) v = some V) ∧ ∃ h', call (E0 m) 100000 183 ar Hp.empty = .ret v h' := by
  rw [avEqL_ok _ _ h]
  obtain ⟨h1, h2⟩ := fBlk_plain hF
  exact ⟨h1, h2, chkB_ok hb hF⟩
theorem blk_ok (m : Int) (ng : Nat) : OOk Go.Proofs.Tryz.prog ng (gls m) 183 (oClo fTab) := by
  refine oClo_ok (E := E0 m) (plain m) (E0_ok m ng) fun ar v hF => ?_
  unfold fTab at hF
  simp only [Bool.cond_eq_ite] at hF
  split at hF
  · rename_i h; exact tab_one h hF (blk0 m)
  split at hF
  · rename_i h; exact tab_one h hF (blk1 m)
  split at hF
  · rename_i h; exact tab_one h hF (blk2 m)
  split at hF
  · rename_i h; exact tab_one h hF (blk3 m)
  · cases hF
def orcB (m : Int) : T Oc := ((orcA m 5).put (some (oClo fTab)) (Ps.key 183)).put (some oTrue) (Ps.key 275)
theorem orcB_ok (m : Int) (ng : Nat) : OrcsOk Go.Proofs.Tryz.prog ng (gls m) (orcB m) := orcs_put (orcs_put (orcA_ok m 5 ng) (blk_ok m ng)) (begun1_ok m ng)
end
end Tz
