/- Installs into a store, each a closed run over its own objects; on no condition. -/
import Derived.Test.YtiikdbnblacbhaaGreatDoorMna
set_option linter.unusedVariables false
set_option linter.unusedSimpArgs false
set_option linter.unusedSectionVars false
namespace Tz
open Go Ax
variable [Ax.Sy]
noncomputable section
abbrev u8 (n : Nat) : AV := .int .u8 (.ofNat n)
def inst0 : Frag := { as0 := [.ptr (some (.own 0, 0)), .slc (some (.own 1, 0)) 1 (.k 1), .bool true, .slc none 0 (.k 0), .slc none 0 (.k 0)], n0 := 6, H0 := [(0, .row 85 (.gen [.ptr (some (.own 2, 0)), .map (some 3), .slc none 0 (.k 0), .slc none 0 (.k 0), .bool false, .bool false]) none),
  (1, .row 48 (.gen [.int .i64 (.ofNat 1), .str (.pk 1 48), .slc none 0 (.k 0), u8 0, u8 0, u8 0, u8 0, u8 0, u8 0, u8 0, u8 0, u8 0, u8 0, u8 0, u8 0, u8 0, u8 0, u8 0, u8 0, u8 0, u8 0, u8 0, u8 0, u8 0, u8 0, u8 0, u8 0, u8 0, u8 0, u8 0, u8 0, u8 0, u8 0, u8 0, u8 0, .slc none 0 (.k 0), .flt .f64 0, .str (.pk 0 0)]) none),
  (2, .row 80 (.gen [.map (some 4), .map (some 5), .slc none 0 (.k 0), .int .i64 (.ofNat 0), .int .i64 (.negSucc 0), .bool false]) none),
  (3, .mp List.nil),
  (4, .mp List.nil),
  (5, .mp List.nil)], v0 := .int .i64 (.ofNat 0), n1 := 495, chg := [(0, some (.row 85 (.gen [.ptr (some (.own 2, 0)), .map (some 80), .slc none 0 (.k 0), .slc none 0 (.k 0), .bool true, .bool false]) none)),
  (2, some (.row 80 (.gen [.map (some 4), .map (some 494), .slc none 0 (.k 0), .int .i64 (.ofNat 4), .int .i64 (.negSucc 0), .bool false]) none)),
  (3, none),
  (4, some (.mp [(.str (.pk 5 435744240755), .str (.pk 39 1570703653479504663575104011322028311192079753925047735263505076257959633793908679468805905165))])),
  (5, none),
  (80, some (.mp [(.agg [u8 57, u8 130, u8 53, u8 47, u8 47, u8 201, u8 99, u8 213, u8 124, u8 17, u8 123, u8 75, u8 146, u8 138, u8 74, u8 184, u8 158, u8 194, u8 99, u8 164, u8 102, u8 136, u8 37, u8 86, u8 186, u8 242, u8 28, u8 9, u8 250, u8 195, u8 187, u8 38], .agg [.int .i64 (.ofNat 1), .str (.pk 1 48), .bool true])])),
  (494, some (.mp [(.str (.pk 5 435744240755), .str (.pk 39 1570703653479504663575104011322028311192079753925047735263505076257959633793908679468805905165))]))] }
set_option maxRecDepth 1000000 in
theorem inst0_run (m : Int) : chkF inst0 (callF (EG m (orcMb m)) 100000 12 inst0.as0 (hpOf inst0.H0 inst0.n0)) = true := by kernel_rfl
theorem inst0_ok (m : Int) (ng : Nat) : OOk Go.Proofs.Tryz.prog ng (gls m) 12 (oFrag inst0) := oFrag_ok (plain m) (EG_ok m ng (orcMb_ok m ng)) (by rw [← callF_eq]; exact inst0_run m)
def inst1 : Frag := { as0 := [.ptr (some (.own 0, 0)), .slc (some (.own 1, 0)) 1 (.k 1), .bool false, .slc none 0 (.k 0), .slc none 0 (.k 0)], n0 := 6, H0 := [(0, .row 85 (.gen [.ptr (some (.own 2, 0)), .map (some 3), .slc none 0 (.k 0), .slc none 0 (.k 0), .bool true, .bool false]) none),
  (1, .row 48 (.gen [.int .i64 (.ofNat 1), .str (.pk 1 48), .slc none 0 (.k 0), u8 0, u8 0, u8 0, u8 0, u8 0, u8 0, u8 0, u8 0, u8 0, u8 0, u8 0, u8 0, u8 0, u8 0, u8 0, u8 0, u8 0, u8 0, u8 0, u8 0, u8 0, u8 0, u8 0, u8 0, u8 0, u8 0, u8 0, u8 0, u8 0, u8 0, u8 0, u8 0, .slc none 0 (.k 0), .flt .f64 0, .str (.pk 0 0)]) none),
  (2, .row 80 (.gen [.map (some 4), .map (some 5), .slc none 0 (.k 0), .int .i64 (.ofNat 4), .int .i64 (.negSucc 0), .bool false]) none),
  (3, .mp [(.agg [u8 57, u8 130, u8 53, u8 47, u8 47, u8 201, u8 99, u8 213, u8 124, u8 17, u8 123, u8 75, u8 146, u8 138, u8 74, u8 184, u8 158, u8 194, u8 99, u8 164, u8 102, u8 136, u8 37, u8 86, u8 186, u8 242, u8 28, u8 9, u8 250, u8 195, u8 187, u8 38], .agg [.int .i64 (.ofNat 1), .str (.pk 1 48), .bool true])]),
  (4, .mp [(.str (.pk 5 435744240755), .str (.pk 39 1570703653479504663575104011322028311192079753925047735263505076257959633793908679468805905165))]),
  (5, .mp [(.str (.pk 5 435744240755), .str (.pk 39 1570703653479504663575104011322028311192079753925047735263505076257959633793908679468805905165))])], v0 := .int .i64 (.ofNat 0), n1 := 495, chg := [(0, some (.row 85 (.gen [.ptr (some (.own 2, 0)), .map (some 80), .slc none 0 (.k 0), .slc none 0 (.k 0), .bool true, .bool false]) none)),
  (2, some (.row 80 (.gen [.map (some 4), .map (some 494), .slc none 0 (.k 0), .int .i64 (.ofNat 8), .int .i64 (.negSucc 0), .bool false]) none)),
  (3, none),
  (4, some (.mp [(.str (.pk 5 435744240755), .str (.pk 39 1570704648125977571898792758069470614358894356711712270008880648789811346185433319100591451107))])),
  (5, none),
  (80, some (.mp [(.agg [u8 57, u8 130, u8 53, u8 47, u8 47, u8 201, u8 99, u8 213, u8 124, u8 17, u8 123, u8 75, u8 146, u8 138, u8 74, u8 184, u8 158, u8 194, u8 99, u8 164, u8 102, u8 136, u8 37, u8 86, u8 186, u8 242, u8 28, u8 9, u8 250, u8 195, u8 187, u8 38], .agg [.int .i64 (.ofNat 1), .str (.pk 1 48), .bool false])])),
  (494, some (.mp [(.str (.pk 5 435744240755), .str (.pk 39 1570704648125977571898792758069470614358894356711712270008880648789811346185433319100591451107))]))] }
set_option maxRecDepth 1000000 in
theorem inst1_run (m : Int) : chkF inst1 (callF (EG m (orcMb m)) 100000 12 inst1.as0 (hpOf inst1.H0 inst1.n0)) = true := by kernel_rfl
theorem inst1_ok (m : Int) (ng : Nat) : OOk Go.Proofs.Tryz.prog ng (gls m) 12 (oFrag inst1) := oFrag_ok (plain m) (EG_ok m ng (orcMb_ok m ng)) (by rw [← callF_eq]; exact inst1_run m)
def inst2 : Frag := { as0 := [.ptr (some (.own 0, 0)), .slc (some (.own 1, 0)) 1 (.k 1), .bool false, .slc none 0 (.k 0), .slc none 0 (.k 0)], n0 := 6, H0 := [(0, .row 85 (.gen [.ptr (some (.own 2, 0)), .map (some 3), .slc none 0 (.k 0), .slc none 0 (.k 0), .bool true, .bool false]) none),
  (1, .row 48 (.gen [.int .i64 (.ofNat 1), .str (.pk 1 49), .slc none 0 (.k 0), u8 0, u8 0, u8 0, u8 0, u8 0, u8 0, u8 0, u8 0, u8 0, u8 0, u8 0, u8 0, u8 0, u8 0, u8 0, u8 0, u8 0, u8 0, u8 0, u8 0, u8 0, u8 0, u8 0, u8 0, u8 0, u8 0, u8 0, u8 0, u8 0, u8 0, u8 0, u8 0, .slc none 0 (.k 0), .flt .f64 0, .str (.pk 0 0)]) none),
  (2, .row 80 (.gen [.map (some 4), .map (some 5), .slc none 0 (.k 0), .int .i64 (.ofNat 8), .int .i64 (.negSucc 0), .bool false]) none),
  (3, .mp [(.agg [u8 57, u8 130, u8 53, u8 47, u8 47, u8 201, u8 99, u8 213, u8 124, u8 17, u8 123, u8 75, u8 146, u8 138, u8 74, u8 184, u8 158, u8 194, u8 99, u8 164, u8 102, u8 136, u8 37, u8 86, u8 186, u8 242, u8 28, u8 9, u8 250, u8 195, u8 187, u8 38], .agg [.int .i64 (.ofNat 1), .str (.pk 1 48), .bool false])]),
  (4, .mp [(.str (.pk 5 435744240755), .str (.pk 39 1570704648125977571898792758069470614358894356711712270008880648789811346185433319100591451107))]),
  (5, .mp [(.str (.pk 5 435744240755), .str (.pk 39 1570704648125977571898792758069470614358894356711712270008880648789811346185433319100591451107))])], v0 := .int .i64 (.ofNat 0), n1 := 512, chg := [(0, some (.row 85 (.gen [.ptr (some (.own 2, 0)), .map (some 80), .slc none 0 (.k 0), .slc none 0 (.k 0), .bool true, .bool false]) none)),
  (2, some (.row 80 (.gen [.map (some 4), .map (some 511), .slc none 0 (.k 0), .int .i64 (.ofNat 12), .int .i64 (.negSucc 0), .bool false]) none)),
  (3, none),
  (4, some (.mp [(.str (.pk 5 435744240755), .str (.pk 45 442114054250578840280585707758020518574030340418139149868837070017831243629345668515022898400299881125314279))])),
  (5, none),
  (80, some (.mp [(.agg [u8 57, u8 130, u8 53, u8 47, u8 47, u8 201, u8 99, u8 213, u8 124, u8 17, u8 123, u8 75, u8 146, u8 138, u8 74, u8 184, u8 158, u8 194, u8 99, u8 164, u8 102, u8 136, u8 37, u8 86, u8 186, u8 242, u8 28, u8 9, u8 250, u8 195, u8 187, u8 38], .agg [.int .i64 (.ofNat 1), .str (.pk 1 48), .bool false]), (.agg [u8 54, u8 69, u8 109, u8 155, u8 135, u8 242, u8 31, u8 197, u8 78, u8 213, u8 186, u8 191, u8 18, u8 34, u8 169, u8 171, u8 15, u8 187, u8 208, u8 196, u8 173, u8 35, u8 154, u8 121, u8 51, u8 82, u8 45, u8 94, u8 68, u8 71, u8 4, u8 156], .agg [.int .i64 (.ofNat 1), .str (.pk 1 49), .bool false])])),
  (511, some (.mp [(.str (.pk 5 435744240755), .str (.pk 45 442114054250578840280585707758020518574030340418139149868837070017831243629345668515022898400299881125314279))]))] }
set_option maxRecDepth 1000000 in
theorem inst2_run (m : Int) : chkF inst2 (callF (EG m (orcMb m)) 100000 12 inst2.as0 (hpOf inst2.H0 inst2.n0)) = true := by kernel_rfl
theorem inst2_ok (m : Int) (ng : Nat) : OOk Go.Proofs.Tryz.prog ng (gls m) 12 (oFrag inst2) := oFrag_ok (plain m) (EG_ok m ng (orcMb_ok m ng)) (by rw [← callF_eq]; exact inst2_run m)
end
end Tz
