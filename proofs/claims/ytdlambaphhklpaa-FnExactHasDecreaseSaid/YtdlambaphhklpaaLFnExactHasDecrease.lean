/- The statement holds for every input. No condition. -/
import Derived.Test.YtdlambaphhklpaaRows
import Derived.Test.YtdlambaphhklpaaUFnExactHasDecrease
import Derived.WalkKit
import Derived.ProofKit
import Derived.OpenShut
import Derived.ShutString
import Derived.ChangeOld
import Derived.Below
import Derived.SizedLaws
namespace Go.Proofs.Ytdlambaphhklpaa
open Go Go.Proofs.Ytdlambaphhklpaa.TM Go.ChangeShapes Go.WideShapes Go.ChangeAt Go.RowKit
namespace L1
open Go.Proofs.Ytdlambaphhklpaa.X
set_option linter.unusedVariables false
def ys : List Ty := [.st [.str, .str, .sl (.sl .int)]]
theorem own : ownKnob Try.prog.godebug = none := by kernel_rfl
set_option maxRecDepth 100000 in
theorem lifted (os : Os) (started : os.Started) (H : Type) (enc : TypeId × Value → H) :
    ReturnsInHanded {} Try.checked os 5 .any (Rows.fnExactHasDecreaseSpec.pre6 enc Try.prog Try.f5 Rows.fnExactHasDecreaseRow.domain false) (Rows.fnExactHasDecreaseSpec.post enc Try.prog Try.f5 false true false false) := by
  refine returnsInHanded_of_change_sized (C := Try.checked) own started (by kernel_rfl) Try.func5
    (ChangeSpec.witness6 (enc := enc) (C := Try.checked) false ⟨#[], #[.agg #[.string ⟨#[]⟩, .string ⟨#[]⟩, .slice none 0 0]], []⟩ 8 (by kernel_rfl) (by kernel_rfl) (by kernel_rfl) (by kernel_rfl)) ?_
  intro W base args ds gs before hval hW hcnd hsz0 _
  refine law_post (P := Try.prog) (evL_right tb (by kernel_rfl)) rfl hval hW (ys := ys) (by kernel_rfl) (by kernel_rfl) (by kernel_rfl) (tb := 4) (by kernel_rfl) (by kernel_rfl) ?_ (l := L_laws_FnExactHasDecrease) rfl rfl rfl (z := (true : Bool)) rfl ?_
  · intro ds hds
    match ds, hds with
    | [d], _ => rfl
  · rintro ⟨a, b, c⟩ h
    have h : okR [.str, .str, .sl [.sl [.int .i64]]] (a, b, c) := h
    simp only [okR, okV] at h
    obtain ⟨ha, hb, hc, he⟩ := h
    exact FnExactHasDecrease_ok ha hb hc fun x hx => (he x hx).1
theorem over : Rows.fnExactHasDecreaseRow.holds Try.pinned (OpenSpec.ofChange Rows.fnExactHasDecreaseSpec) :=
  OpenClaim.holds_of_wide 5 Try.f5 rfl rfl rfl rfl rfl rfl rfl ⟨rfl, rfl, rfl, rfl, rfl⟩ rfl rfl rfl rfl rfl (by kernel_rfl) Try.func5 (by kernel_rfl)
    (of_decide_eq_true (by kernel_rfl)) (by unfold Func.isWrapper; first | (rw [if_pos (by decide +kernel)]; kernel_rfl) | (rw [if_neg (by decide +kernel)]; exact ⟨rfl, rfl⟩))
    (fun os started H enc _ => lifted os started H enc)
theorem proved : Rows.FnExactHasDecreaseSaid := over
end L1
theorem fnExactHasDecrease_holds : Rows.FnExactHasDecreaseSaid := L1.proved
end Go.Proofs.Ytdlambaphhklpaa
