/- What the functions that the statement reaches give, as equations. No condition. -/
import Derived.Test.YtdlambaphhklpaaProg
import Derived.Test.YtdlambaphhklpaaM2
namespace Go.Proofs.Ytdlambaphhklpaa.X
open Go Go.Proofs.Ytdlambaphhklpaa.TM
noncomputable section
set_option maxRecDepth 100000
set_option linter.unusedVariables false
def Y0 : List (ST × Fg) := [(.str, .z), (.str, .z), (.sl [.sl [.int .i64]], .sl .fz [.sl .fz [.z]])]
def L_laws_FnExactHasDecrease : Lb := ⟨5, 0, none, [.agg Y0], [], [], [[]], [.one (.bool) (.z)]⟩
def L_laws_szSizeGraph : Lb := ⟨19, 0, none, [.agg Y0, .one (.int .i64) (.z)], [], [], [[], []], [.one (.int .i64) (.z)]⟩
def L_spec_HasDecrease : Lb := ⟨20, 0, none, [.agg Y0], [], [], [[]], [.one (.bool) (.z)]⟩
def L_spec_HasDecrease_l0 : Lb := ⟨20, 0, some [0, 0, 0, 0, 1, 0, 1], [.agg Y0], [(1, .addr (1, 0) 0), (3, .c (.int .i64) (.z))], [((1, 0), true, Y0), ((0, 1), false, [])], [[]], [.one (.bool) (.z)]⟩
def L_laws_toSizeGraph : Lb := ⟨21, 0, none, [.agg Y0], [], [], [[]], [.agg [(.str, .z), (.str, .z), (.sl [.sl [.int .i64]], .sl .own [.sl .own [.z]])]]⟩
def L_impl_HasDecrease : Lb := ⟨22, 0, none, [.agg Y0], [], [], [[]], [.one (.bool) (.z)]⟩
def L_impl_HasDecrease_l0 : Lb := ⟨22, 0, some [0, 0, 0, 1, 0, 1, 1], [.agg Y0], [(11, .c (.sl [.sl [.int .i64]]) (.sl .fz [.sl .fz [.z]])), (12, .c (.int .i64) (.z)), (13, .c (.int .i64) (.z))], [((0, 1), false, [])], [[]], [.one (.bool) (.z)]⟩
def L_laws_eqSizeGraph : Lb := ⟨23, 0, none, [.agg Y0, .agg Y0], [], [], [[], []], [.one (.bool) (.z)]⟩
def L_laws_szIntSS : Lb := ⟨46, 0, none, [.one (.sl [.sl [.int .i64]]) (.sl .fz [.sl .fz [.z]]), .one (.int .i64) (.z)], [], [], [[], []], [.one (.int .i64) (.z)]⟩
def L_laws_szIntSS_l0 : Lb := ⟨46, 0, some [0, 0, 0, 0, 1, 0, 1, 1, 1], [.one (.sl [.sl [.int .i64]]) (.sl .fz [.sl .fz [.z]]), .one (.int .i64) (.z)], [(0, .c (.sl [.sl [.int .i64]]) (.sl .fz [.sl .fz [.z]])), (1, .c (.int .i64) (.z)), (5, .c (.int .i64) (.z))], [((0, 1), false, []), ((1, 1), false, [])], [[], []], [.one (.int .i64) (.z)]⟩
def L_laws_toIntSS : Lb := ⟨47, 0, none, [.one (.sl [.sl [.int .i64]]) (.sl .fz [.sl .fz [.z]])], [], [], [[]], [.one (.sl [.sl [.int .i64]]) (.sl .own [.sl .own [.z]])]⟩
def L_laws_toIntSS_l0 : Lb := ⟨47, 0, some [0, 0, 0, 0, 1, 0, 1, 1], [.one (.sl [.sl [.int .i64]]) (.sl .fz [.sl .fz [.z]])], [(0, .c (.sl [.sl [.int .i64]]) (.sl .fz [.sl .fz [.z]])), (3, .ref (26, 0) 0), (4, .c (.int .i64) (.z))], [((26, 0), false, [(.sl [.sl [.int .i64]], .sl .own [.sl .own [.z]])]), ((0, 1), false, [])], [[]], [.one (.sl [.sl [.int .i64]]) (.sl .own [.sl .own [.z]])]⟩
def L_laws_eqIntSS : Lb := ⟨48, 0, none, [.one (.sl [.sl [.int .i64]]) (.sl .fz [.sl .fz [.z]]), .one (.sl [.sl [.int .i64]]) (.sl .fz [.sl .fz [.z]])], [], [], [[], []], [.one (.bool) (.z)]⟩
def L_laws_eqIntSS_l0 : Lb := ⟨48, 0, some [0, 0, 0, 0, 1, 0, 1, 1], [.one (.sl [.sl [.int .i64]]) (.sl .fz [.sl .fz [.z]]), .one (.sl [.sl [.int .i64]]) (.sl .fz [.sl .fz [.z]])], [(0, .c (.sl [.sl [.int .i64]]) (.sl .fz [.sl .fz [.z]])), (1, .c (.sl [.sl [.int .i64]]) (.sl .fz [.sl .fz [.z]])), (5, .c (.int .i64) (.z))], [((0, 1), false, []), ((1, 1), false, [])], [[], []], [.one (.bool) (.z)]⟩
def L_laws_szIntS : Lb := ⟨71, 0, none, [.one (.sl [.int .i64]) (.sl .fz [.z]), .one (.int .i64) (.z)], [], [], [[], []], [.one (.int .i64) (.z)]⟩
def L_laws_toIntS : Lb := ⟨72, 0, none, [.one (.sl [.int .i64]) (.sl .fz [.z])], [], [], [[]], [.one (.sl [.int .i64]) (.sl .own [.z])]⟩
def L_laws_toIntS_l0 : Lb := ⟨72, 0, some [0, 0, 0, 0, 1, 0, 1, 1], [.one (.sl [.int .i64]) (.sl .fz [.z])], [(0, .c (.sl [.int .i64]) (.sl .fz [.z])), (3, .ref (25, 0) 0), (4, .c (.int .i64) (.z))], [((25, 0), false, [(.sl [.int .i64], .sl .own [.z])]), ((0, 1), false, [])], [[]], [.one (.sl [.int .i64]) (.sl .own [.z])]⟩
def L_laws_eqIntS : Lb := ⟨73, 0, none, [.one (.sl [.int .i64]) (.sl .fz [.z]), .one (.sl [.int .i64]) (.sl .fz [.z])], [], [], [[], []], [.one (.bool) (.z)]⟩
def L_laws_eqIntS_l0 : Lb := ⟨73, 0, some [0, 0, 0, 0, 1, 0, 1, 1], [.one (.sl [.int .i64]) (.sl .fz [.z]), .one (.sl [.int .i64]) (.sl .fz [.z])], [(0, .c (.sl [.int .i64]) (.sl .fz [.z])), (1, .c (.sl [.int .i64]) (.sl .fz [.z])), (5, .c (.int .i64) (.z))], [((0, 1), false, []), ((1, 1), false, [])], [[], []], [.one (.bool) (.z)]⟩
def tbl : List (Nat × List Lb) := [(5, [L_laws_FnExactHasDecrease]), (19, [L_laws_szSizeGraph]), (20, [L_spec_HasDecrease, L_spec_HasDecrease_l0]), (21, [L_laws_toSizeGraph]), (22, [L_impl_HasDecrease, L_impl_HasDecrease_l0]), (23, [L_laws_eqSizeGraph]), (46, [L_laws_szIntSS, L_laws_szIntSS_l0]), (47, [L_laws_toIntSS, L_laws_toIntSS_l0]), (48, [L_laws_eqIntSS, L_laws_eqIntSS_l0]), (71, [L_laws_szIntS]), (72, [L_laws_toIntS, L_laws_toIntS_l0]), (73, [L_laws_eqIntS, L_laws_eqIntS_l0])]
def tb : Nat → List Lb := lookTb tbl
def laws_FnExactHasDecrease (a0 a1 : List UInt8) (a2 : List (List Int)) : Option (Bool) := evL Try.prog tb L_laws_FnExactHasDecrease (a0, a1, a2)
def laws_szSizeGraph (a0 a1 : List UInt8) (a2 : List (List Int)) (a3 : Int) : Option (Int) := evL Try.prog tb L_laws_szSizeGraph (a0, a1, a2, a3)
def spec_HasDecrease (a0 a1 : List UInt8) (a2 : List (List Int)) : Option (Bool) := evL Try.prog tb L_spec_HasDecrease (a0, a1, a2)
def spec_HasDecrease_l0 (a0 : Int) (a1 a2 : List UInt8) (a3 : List (List Int)) : Option (Bool) := evL Try.prog tb L_spec_HasDecrease_l0 (a0, a1, a2, a3)
def laws_toSizeGraph (a0 a1 : List UInt8) (a2 : List (List Int)) : Option (List UInt8 × List UInt8 × List (List Int)) := evL Try.prog tb L_laws_toSizeGraph (a0, a1, a2)
def impl_HasDecrease (a0 a1 : List UInt8) (a2 : List (List Int)) : Option (Bool) := evL Try.prog tb L_impl_HasDecrease (a0, a1, a2)
def impl_HasDecrease_l0 (a0 : List (List Int)) (a1 a2 : Int) : Option (Bool) := evL Try.prog tb L_impl_HasDecrease_l0 (a0, a1, a2)
def laws_eqSizeGraph (a0 a1 : List UInt8) (a2 : List (List Int)) (a3 a4 : List UInt8) (a5 : List (List Int)) : Option (Bool) := evL Try.prog tb L_laws_eqSizeGraph (a0, a1, a2, a3, a4, a5)
def laws_szIntSS (a0 : List (List Int)) (a1 : Int) : Option (Int) := evL Try.prog tb L_laws_szIntSS (a0, a1)
def laws_szIntSS_l0 (a0 : List (List Int)) (a1 a2 : Int) : Option (Int) := evL Try.prog tb L_laws_szIntSS_l0 (a0, a1, a2)
def laws_toIntSS (a0 : List (List Int)) : Option (List (List Int)) := evL Try.prog tb L_laws_toIntSS a0
def laws_toIntSS_l0 (a0 : List (List Int)) (a1 : Int) (a2 : List (List Int)) : Option (List (List Int)) := evL Try.prog tb L_laws_toIntSS_l0 (a0, a1, a2)
def laws_eqIntSS (a0 a1 : List (List Int)) : Option (Bool) := evL Try.prog tb L_laws_eqIntSS (a0, a1)
def laws_eqIntSS_l0 (a0 a1 : List (List Int)) (a2 : Int) : Option (Bool) := evL Try.prog tb L_laws_eqIntSS_l0 (a0, a1, a2)
def laws_szIntS (a0 : List Int) (a1 : Int) : Option (Int) := evL Try.prog tb L_laws_szIntS (a0, a1)
def laws_toIntS (a0 : List Int) : Option (List Int) := evL Try.prog tb L_laws_toIntS a0
def laws_toIntS_l0 (a0 : List Int) (a1 : Int) (a2 : List Int) : Option (List Int) := evL Try.prog tb L_laws_toIntS_l0 (a0, a1, a2)
def laws_eqIntS (a0 a1 : List Int) : Option (Bool) := evL Try.prog tb L_laws_eqIntS (a0, a1)
def laws_eqIntS_l0 (a0 a1 : List Int) (a2 : Int) : Option (Bool) := evL Try.prog tb L_laws_eqIntS_l0 (a0, a1, a2)
theorem laws_FnExactHasDecrease_eq (a0 a1 : List UInt8) (a2 : List (List Int)) : laws_FnExactHasDecrease a0 a1 a2 = (laws_szSizeGraph a0 a1 a2 1048576).bind fun x0 => cond (decide (x0 < 0)) (some true) ((laws_toSizeGraph a0 a1 a2).bind fun x1 => (spec_HasDecrease x1.1 x1.2.1 x1.2.2).bind fun x2 => (laws_toSizeGraph a0 a1 a2).bind fun x3 => (impl_HasDecrease x3.1 x3.2.1 x3.2.2).bind fun x4 => cond (!(x4 == x2)) (some false) ((laws_toSizeGraph a0 a1 a2).bind fun x5 => (laws_eqSizeGraph x3.1 x3.2.1 x3.2.2 x5.1 x5.2.1 x5.2.2).bind fun x6 => cond (!x6) (some false) (some true))) := (evL_eq Try.prog tb L_laws_FnExactHasDecrease _).trans (by kernel_rfl)
theorem laws_szSizeGraph_eq (a0 a1 : List UInt8) (a2 : List (List Int)) (a3 : Int) : laws_szSizeGraph a0 a1 a2 a3 = cond (decide ((w64 (a3 - (a0.length : Int))) < 0)) (some (-1)) (cond (decide ((w64 ((w64 (a3 - (a0.length : Int))) - (a1.length : Int))) < 0)) (some (-1)) ((laws_szIntSS a2 (w64 ((w64 (a3 - (a0.length : Int))) - (a1.length : Int)))).bind fun x0 => cond (decide (x0 < 0)) (some (-1)) (some x0))) := (evL_eq Try.prog tb L_laws_szSizeGraph _).trans (by kernel_rfl)
theorem spec_HasDecrease_eq (a0 a1 : List UInt8) (a2 : List (List Int)) : spec_HasDecrease a0 a1 a2 = spec_HasDecrease_l0 0 a0 a1 a2 := (evL_eq Try.prog tb L_spec_HasDecrease _).trans (by kernel_rfl)
theorem spec_HasDecrease_l0_eq (a0 : Int) (a1 a2 : List UInt8) (a3 : List (List Int)) : spec_HasDecrease_l0 a0 a1 a2 a3 = cond (decide (a0 < (a3.length : Int))) (at_ a3 a0 fun x0 x1 => cond (decide (a0 < (x1.length : Int))) (at_ a3 a0 fun x2 x3 => at_ x3 a0 fun x4 x5 => cond (x5 == 2) (some true) (spec_HasDecrease_l0 (w64 (a0 + 1)) a1 a2 a3)) (spec_HasDecrease_l0 (w64 (a0 + 1)) a1 a2 a3)) (some (!(a1 == a2))) := (evL_eq Try.prog tb L_spec_HasDecrease_l0 _).trans (by kernel_rfl)
theorem laws_toSizeGraph_eq (a0 a1 : List UInt8) (a2 : List (List Int)) : laws_toSizeGraph a0 a1 a2 = (laws_toIntSS a2).bind fun x0 => some (a0, a1, x0) := (evL_eq Try.prog tb L_laws_toSizeGraph _).trans (by kernel_rfl)
theorem impl_HasDecrease_eq (a0 a1 : List UInt8) (a2 : List (List Int)) : impl_HasDecrease a0 a1 a2 = cond (!(a0 == a1)) (some true) (impl_HasDecrease_l0 a2 (a2.length : Int) 0) := (evL_eq Try.prog tb L_impl_HasDecrease _).trans (by kernel_rfl)
theorem impl_HasDecrease_l0_eq (a0 : List (List Int)) (a1 a2 : Int) : impl_HasDecrease_l0 a0 a1 a2 = cond (decide (a2 < a1)) (at_ a0 a2 fun x0 x1 => cond (decide (a2 < (x1.length : Int))) (at_ x1 a2 fun x2 x3 => cond (x3 == 2) (some true) (impl_HasDecrease_l0 a0 a1 (w64 (a2 + 1)))) (impl_HasDecrease_l0 a0 a1 (w64 (a2 + 1)))) (some false) := (evL_eq Try.prog tb L_impl_HasDecrease_l0 _).trans (by kernel_rfl)
theorem laws_eqSizeGraph_eq (a0 a1 : List UInt8) (a2 : List (List Int)) (a3 a4 : List UInt8) (a5 : List (List Int)) : laws_eqSizeGraph a0 a1 a2 a3 a4 a5 = cond (!(a0 == a3)) (some false) (cond (!(a1 == a4)) (some false) ((laws_eqIntSS a2 a5).bind fun x0 => cond (!x0) (some false) (some true))) := (evL_eq Try.prog tb L_laws_eqSizeGraph _).trans (by kernel_rfl)
theorem laws_szIntSS_eq (a0 : List (List Int)) (a1 : Int) : laws_szIntSS a0 a1 = cond (decide ((w64 (a1 - (a0.length : Int))) < 0)) (some (-1)) (laws_szIntSS_l0 a0 (w64 (a1 - (a0.length : Int))) 0) := (evL_eq Try.prog tb L_laws_szIntSS _).trans (by kernel_rfl)
theorem laws_szIntSS_l0_eq (a0 : List (List Int)) (a1 a2 : Int) : laws_szIntSS_l0 a0 a1 a2 = cond (decide (a2 < (a0.length : Int))) (at_ a0 a2 fun x0 x1 => (laws_szIntS x1 a1).bind fun x2 => cond (decide (x2 < 0)) (some (-1)) (laws_szIntSS_l0 a0 x2 (w64 (a2 + 1)))) (some a1) := (evL_eq Try.prog tb L_laws_szIntSS_l0 _).trans (by kernel_rfl)
theorem laws_toIntSS_eq (a0 : List (List Int)) : laws_toIntSS a0 = rep_ (a0.length : Int) [] fun x0 => laws_toIntSS_l0 a0 0 x0 := (evL_eq Try.prog tb L_laws_toIntSS _).trans (by kernel_rfl)
theorem laws_toIntSS_l0_eq (a0 : List (List Int)) (a1 : Int) (a2 : List (List Int)) : laws_toIntSS_l0 a0 a1 a2 = cond (decide (a1 < (a0.length : Int))) (at_ a0 a1 fun x0 x1 => (laws_toIntS x1).bind fun x2 => at_ a2 a1 fun x3 x4 => atN a2 x3 fun x5 => atN a2 x3 fun x6 => laws_toIntSS_l0 a0 (w64 (a1 + 1)) (a2.set x3 x2)) (some a2) := (evL_eq Try.prog tb L_laws_toIntSS_l0 _).trans (by kernel_rfl)
theorem laws_eqIntSS_eq (a0 a1 : List (List Int)) : laws_eqIntSS a0 a1 = cond (!((a0.length : Int) == (a1.length : Int))) (some false) (laws_eqIntSS_l0 a0 a1 0) := (evL_eq Try.prog tb L_laws_eqIntSS _).trans (by kernel_rfl)
theorem laws_eqIntSS_l0_eq (a0 a1 : List (List Int)) (a2 : Int) : laws_eqIntSS_l0 a0 a1 a2 = cond (decide (a2 < (a0.length : Int))) (at_ a0 a2 fun x0 x1 => at_ a1 a2 fun x2 x3 => (laws_eqIntS x1 x3).bind fun x4 => cond (!x4) (some false) (laws_eqIntSS_l0 a0 a1 (w64 (a2 + 1)))) (some true) := (evL_eq Try.prog tb L_laws_eqIntSS_l0 _).trans (by kernel_rfl)
theorem laws_szIntS_eq (a0 : List Int) (a1 : Int) : laws_szIntS a0 a1 = cond (decide ((w64 (a1 - (a0.length : Int))) < 0)) (some (-1)) (some (w64 (a1 - (a0.length : Int)))) := (evL_eq Try.prog tb L_laws_szIntS _).trans (by kernel_rfl)
theorem laws_toIntS_eq (a0 : List Int) : laws_toIntS a0 = rep_ (a0.length : Int) 0 fun x0 => laws_toIntS_l0 a0 0 x0 := (evL_eq Try.prog tb L_laws_toIntS _).trans (by kernel_rfl)
theorem laws_toIntS_l0_eq (a0 : List Int) (a1 : Int) (a2 : List Int) : laws_toIntS_l0 a0 a1 a2 = cond (decide (a1 < (a0.length : Int))) (at_ a0 a1 fun x0 x1 => at_ a2 a1 fun x2 x3 => atN a2 x2 fun x4 => atN a2 x2 fun x5 => laws_toIntS_l0 a0 (w64 (a1 + 1)) (a2.set x2 x1)) (some a2) := (evL_eq Try.prog tb L_laws_toIntS_l0 _).trans (by kernel_rfl)
theorem laws_eqIntS_eq (a0 a1 : List Int) : laws_eqIntS a0 a1 = cond (!((a0.length : Int) == (a1.length : Int))) (some false) (laws_eqIntS_l0 a0 a1 0) := (evL_eq Try.prog tb L_laws_eqIntS _).trans (by kernel_rfl)
theorem laws_eqIntS_l0_eq (a0 a1 : List Int) (a2 : Int) : laws_eqIntS_l0 a0 a1 a2 = cond (decide (a2 < (a0.length : Int))) (at_ a0 a2 fun x0 x1 => at_ a1 a2 fun x2 x3 => cond (!(x1 == x3)) (some false) (laws_eqIntS_l0 a0 a1 (w64 (a2 + 1)))) (some true) := (evL_eq Try.prog tb L_laws_eqIntS_l0 _).trans (by kernel_rfl)
end
end Go.Proofs.Ytdlambaphhklpaa.X
