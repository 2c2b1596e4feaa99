/- What the functions that the statement reaches give, as equations. No condition. -/
import Derived.Test.YtodeihooadbbkaaProg
import Derived.Test.YtodeihooadbbkaaMA3
namespace Go.Proofs.Ytodeihooadbbkaa.X
open Go Go.Proofs.Ytodeihooadbbkaa.TM
noncomputable section
set_option maxRecDepth 100000
set_option linter.unusedVariables false
def Y0 : List (ST × Fg) := [(.bool, .z), (.int .i64, .z), (.sl [.int .i64], .sl .fz [.z])]
def Y1 : List (ST × Fg) := [(.int .i64, .z), (.bool, .z), (.int .i64, .z), (.sl [.int .i64], .sl .fz [.z]), (.int .i64, .z), (.int .i64, .z)]
def L_laws_FnExactTotalCost : Lb := ⟨3, 0, none, [.agg Y1, .one (.int .i64) (.z)], [], [], [[], []], [.one (.bool) (.z)]⟩
def L_laws_szOutcome : Lb := ⟨4, 0, none, [.agg Y1, .one (.int .i64) (.z)], [], [], [[], []], [.one (.int .i64) (.z)]⟩
def L_spec_TotalCost : Lb := ⟨5, 0, none, [.agg Y1, .one (.int .i64) (.z)], [], [], [[], []], [.one (.int .i64) (.z)]⟩
def L_laws_toOutcome : Lb := ⟨6, 0, none, [.agg Y1], [], [], [[]], [.agg [(.int .i64, .z), (.bool, .z), (.int .i64, .z), (.sl [.int .i64], .sl .own [.z]), (.int .i64, .z), (.int .i64, .z)]]⟩
def L_impl_TotalCost : Lb := ⟨7, 0, none, [.agg Y1, .one (.int .i64) (.z)], [], [], [[], []], [.one (.int .i64) (.z)]⟩
def L_laws_eqOutcome : Lb := ⟨8, 0, none, [.agg Y1, .agg Y1], [], [], [[], []], [.one (.bool) (.z)]⟩
def L_laws_szValue : Lb := ⟨9, 0, none, [.agg Y0, .one (.int .i64) (.z)], [], [], [[], []], [.one (.int .i64) (.z)]⟩
def L_laws_toValue : Lb := ⟨10, 0, none, [.agg Y0], [], [], [[]], [.agg [(.bool, .z), (.int .i64, .z), (.sl [.int .i64], .sl .own [.z])]]⟩
def L_laws_eqValue : Lb := ⟨11, 0, none, [.agg Y0, .agg Y0], [], [], [[], []], [.one (.bool) (.z)]⟩
def L_laws_szIntS : Lb := ⟨12, 0, none, [.one (.sl [.int .i64]) (.sl .fz [.z]), .one (.int .i64) (.z)], [], [], [[], []], [.one (.int .i64) (.z)]⟩
def L_laws_toIntS : Lb := ⟨13, 0, none, [.one (.sl [.int .i64]) (.sl .fz [.z])], [], [], [[]], [.one (.sl [.int .i64]) (.sl .own [.z])]⟩
def L_laws_toIntS_l0 : Lb := ⟨13, 0, some [0, 0, 0, 0, 1, 0, 1, 1], [.one (.sl [.int .i64]) (.sl .fz [.z])], [(0, .c (.sl [.int .i64]) (.sl .fz [.z])), (3, .ref (25, 0) 0), (4, .c (.int .i64) (.z))], [((25, 0), false, [(.sl [.int .i64], .sl .own [.z])]), ((0, 1), false, [])], [[]], [.one (.sl [.int .i64]) (.sl .own [.z])]⟩
def L_laws_eqIntS : Lb := ⟨14, 0, none, [.one (.sl [.int .i64]) (.sl .fz [.z]), .one (.sl [.int .i64]) (.sl .fz [.z])], [], [], [[], []], [.one (.bool) (.z)]⟩
def L_laws_eqIntS_l0 : Lb := ⟨14, 0, some [0, 0, 0, 0, 1, 0, 1, 1], [.one (.sl [.int .i64]) (.sl .fz [.z]), .one (.sl [.int .i64]) (.sl .fz [.z])], [(0, .c (.sl [.int .i64]) (.sl .fz [.z])), (1, .c (.sl [.int .i64]) (.sl .fz [.z])), (5, .c (.int .i64) (.z))], [((0, 1), false, []), ((1, 1), false, [])], [[], []], [.one (.bool) (.z)]⟩
def tbl : List (Nat × List Lb) := [(3, [L_laws_FnExactTotalCost]), (4, [L_laws_szOutcome]), (5, [L_spec_TotalCost]), (6, [L_laws_toOutcome]), (7, [L_impl_TotalCost]), (8, [L_laws_eqOutcome]), (9, [L_laws_szValue]), (10, [L_laws_toValue]), (11, [L_laws_eqValue]), (12, [L_laws_szIntS]), (13, [L_laws_toIntS, L_laws_toIntS_l0]), (14, [L_laws_eqIntS, L_laws_eqIntS_l0])]
def tb : Nat → List Lb := lookTb tbl
def laws_FnExactTotalCost (a0 : Int) (a1 : Bool) (a2 : Int) (a3 : List Int) (a4 a5 a6 : Int) : Option (Bool) := evL Try.prog tb L_laws_FnExactTotalCost (a0, a1, a2, a3, a4, a5, a6)
def laws_szOutcome (a0 : Int) (a1 : Bool) (a2 : Int) (a3 : List Int) (a4 a5 a6 : Int) : Option (Int) := evL Try.prog tb L_laws_szOutcome (a0, a1, a2, a3, a4, a5, a6)
def spec_TotalCost (a0 : Int) (a1 : Bool) (a2 : Int) (a3 : List Int) (a4 a5 a6 : Int) : Option (Int) := evL Try.prog tb L_spec_TotalCost (a0, a1, a2, a3, a4, a5, a6)
def laws_toOutcome (a0 : Int) (a1 : Bool) (a2 : Int) (a3 : List Int) (a4 a5 : Int) : Option (Int × Bool × Int × List Int × Int × Int) := evL Try.prog tb L_laws_toOutcome (a0, a1, a2, a3, a4, a5)
def impl_TotalCost (a0 : Int) (a1 : Bool) (a2 : Int) (a3 : List Int) (a4 a5 a6 : Int) : Option (Int) := evL Try.prog tb L_impl_TotalCost (a0, a1, a2, a3, a4, a5, a6)
def laws_eqOutcome (a0 : Int) (a1 : Bool) (a2 : Int) (a3 : List Int) (a4 a5 a6 : Int) (a7 : Bool) (a8 : Int) (a9 : List Int) (a10 a11 : Int) : Option (Bool) := evL Try.prog tb L_laws_eqOutcome (a0, a1, a2, a3, a4, a5, a6, a7, a8, a9, a10, a11)
def laws_szValue (a0 : Bool) (a1 : Int) (a2 : List Int) (a3 : Int) : Option (Int) := evL Try.prog tb L_laws_szValue (a0, a1, a2, a3)
def laws_toValue (a0 : Bool) (a1 : Int) (a2 : List Int) : Option (Bool × Int × List Int) := evL Try.prog tb L_laws_toValue (a0, a1, a2)
def laws_eqValue (a0 : Bool) (a1 : Int) (a2 : List Int) (a3 : Bool) (a4 : Int) (a5 : List Int) : Option (Bool) := evL Try.prog tb L_laws_eqValue (a0, a1, a2, a3, a4, a5)
def laws_szIntS (a0 : List Int) (a1 : Int) : Option (Int) := evL Try.prog tb L_laws_szIntS (a0, a1)
def laws_toIntS (a0 : List Int) : Option (List Int) := evL Try.prog tb L_laws_toIntS a0
def laws_toIntS_l0 (a0 : List Int) (a1 : Int) (a2 : List Int) : Option (List Int) := evL Try.prog tb L_laws_toIntS_l0 (a0, a1, a2)
def laws_eqIntS (a0 a1 : List Int) : Option (Bool) := evL Try.prog tb L_laws_eqIntS (a0, a1)
def laws_eqIntS_l0 (a0 a1 : List Int) (a2 : Int) : Option (Bool) := evL Try.prog tb L_laws_eqIntS_l0 (a0, a1, a2)
theorem laws_FnExactTotalCost_eq (a0 : Int) (a1 : Bool) (a2 : Int) (a3 : List Int) (a4 a5 a6 : Int) : laws_FnExactTotalCost a0 a1 a2 a3 a4 a5 a6 = (laws_szOutcome a0 a1 a2 a3 a4 a5 1048576).bind fun x0 => cond (decide (x0 < 0)) (some true) ((laws_toOutcome a0 a1 a2 a3 a4 a5).bind fun x1 => (spec_TotalCost x1.1 x1.2.1 x1.2.2.1 x1.2.2.2.1 x1.2.2.2.2.1 x1.2.2.2.2.2 a6).bind fun x2 => (laws_toOutcome a0 a1 a2 a3 a4 a5).bind fun x3 => (impl_TotalCost x3.1 x3.2.1 x3.2.2.1 x3.2.2.2.1 x3.2.2.2.2.1 x3.2.2.2.2.2 a6).bind fun x4 => cond (!(x4 == x2)) (some false) ((laws_toOutcome a0 a1 a2 a3 a4 a5).bind fun x5 => (laws_eqOutcome x3.1 x3.2.1 x3.2.2.1 x3.2.2.2.1 x3.2.2.2.2.1 x3.2.2.2.2.2 x5.1 x5.2.1 x5.2.2.1 x5.2.2.2.1 x5.2.2.2.2.1 x5.2.2.2.2.2).bind fun x6 => cond (!x6) (some false) (some true))) := (evL_eq Try.prog tb L_laws_FnExactTotalCost _).trans (by kernel_rfl)
theorem laws_szOutcome_eq (a0 : Int) (a1 : Bool) (a2 : Int) (a3 : List Int) (a4 a5 a6 : Int) : laws_szOutcome a0 a1 a2 a3 a4 a5 a6 = (laws_szValue a1 a2 a3 a6).bind fun x0 => cond (decide (x0 < 0)) (some (-1)) (some x0) := (evL_eq Try.prog tb L_laws_szOutcome _).trans (by kernel_rfl)
theorem spec_TotalCost_eq (a0 : Int) (a1 : Bool) (a2 : Int) (a3 : List Int) (a4 a5 a6 : Int) : spec_TotalCost a0 a1 a2 a3 a4 a5 a6 = cond (a6 == 1) (some a4) (cond (a6 == 2) (some a5) (some 0)) := (evL_eq Try.prog tb L_spec_TotalCost _).trans (by kernel_rfl)
theorem laws_toOutcome_eq (a0 : Int) (a1 : Bool) (a2 : Int) (a3 : List Int) (a4 a5 : Int) : laws_toOutcome a0 a1 a2 a3 a4 a5 = (laws_toValue a1 a2 a3).bind fun x0 => some (a0, x0.1, x0.2.1, x0.2.2, a4, a5) := (evL_eq Try.prog tb L_laws_toOutcome _).trans (by kernel_rfl)
theorem impl_TotalCost_eq (a0 : Int) (a1 : Bool) (a2 : Int) (a3 : List Int) (a4 a5 a6 : Int) : impl_TotalCost a0 a1 a2 a3 a4 a5 a6 = cond (a6 == 1) (some a4) (cond (a6 == 2) (some a5) (some 0)) := (evL_eq Try.prog tb L_impl_TotalCost _).trans (by kernel_rfl)
theorem laws_eqOutcome_eq (a0 : Int) (a1 : Bool) (a2 : Int) (a3 : List Int) (a4 a5 a6 : Int) (a7 : Bool) (a8 : Int) (a9 : List Int) (a10 a11 : Int) : laws_eqOutcome a0 a1 a2 a3 a4 a5 a6 a7 a8 a9 a10 a11 = cond (!(a0 == a6)) (some false) ((laws_eqValue a1 a2 a3 a7 a8 a9).bind fun x0 => cond (!x0) (some false) (cond (!(a4 == a10)) (some false) (cond (!(a5 == a11)) (some false) (some true)))) := (evL_eq Try.prog tb L_laws_eqOutcome _).trans (by kernel_rfl)
theorem laws_szValue_eq (a0 : Bool) (a1 : Int) (a2 : List Int) (a3 : Int) : laws_szValue a0 a1 a2 a3 = (laws_szIntS a2 a3).bind fun x0 => cond (decide (x0 < 0)) (some (-1)) (some x0) := (evL_eq Try.prog tb L_laws_szValue _).trans (by kernel_rfl)
theorem laws_toValue_eq (a0 : Bool) (a1 : Int) (a2 : List Int) : laws_toValue a0 a1 a2 = (laws_toIntS a2).bind fun x0 => some (a0, a1, x0) := (evL_eq Try.prog tb L_laws_toValue _).trans (by kernel_rfl)
theorem laws_eqValue_eq (a0 : Bool) (a1 : Int) (a2 : List Int) (a3 : Bool) (a4 : Int) (a5 : List Int) : laws_eqValue a0 a1 a2 a3 a4 a5 = cond (!(a0 == a3)) (some false) (cond (!(a1 == a4)) (some false) ((laws_eqIntS a2 a5).bind fun x0 => cond (!x0) (some false) (some true))) := (evL_eq Try.prog tb L_laws_eqValue _).trans (by kernel_rfl)
theorem laws_szIntS_eq (a0 : List Int) (a1 : Int) : laws_szIntS a0 a1 = cond (decide ((w64 (a1 - (a0.length : Int))) < 0)) (some (-1)) (some (w64 (a1 - (a0.length : Int)))) := (evL_eq Try.prog tb L_laws_szIntS _).trans (by kernel_rfl)
theorem laws_toIntS_eq (a0 : List Int) : laws_toIntS a0 = rep_ (a0.length : Int) 0 fun x0 => laws_toIntS_l0 a0 0 x0 := (evL_eq Try.prog tb L_laws_toIntS _).trans (by kernel_rfl)
theorem laws_toIntS_l0_eq (a0 : List Int) (a1 : Int) (a2 : List Int) : laws_toIntS_l0 a0 a1 a2 = cond (decide (a1 < (a0.length : Int))) (at_ a0 a1 fun x0 x1 => at_ a2 a1 fun x2 x3 => atN a2 x2 fun x4 => atN a2 x2 fun x5 => laws_toIntS_l0 a0 (w64 (a1 + 1)) (a2.set x2 x1)) (some a2) := (evL_eq Try.prog tb L_laws_toIntS_l0 _).trans (by kernel_rfl)
theorem laws_eqIntS_eq (a0 a1 : List Int) : laws_eqIntS a0 a1 = cond (!((a0.length : Int) == (a1.length : Int))) (some false) (laws_eqIntS_l0 a0 a1 0) := (evL_eq Try.prog tb L_laws_eqIntS _).trans (by kernel_rfl)
theorem laws_eqIntS_l0_eq (a0 a1 : List Int) (a2 : Int) : laws_eqIntS_l0 a0 a1 a2 = cond (decide (a2 < (a0.length : Int))) (at_ a0 a2 fun x0 x1 => at_ a1 a2 fun x2 x3 => cond (!(x1 == x3)) (some false) (laws_eqIntS_l0 a0 a1 (w64 (a2 + 1)))) (some true) := (evL_eq Try.prog tb L_laws_eqIntS_l0 _).trans (by kernel_rfl)
