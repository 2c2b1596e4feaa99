/- The statement FnExactIsTermination holds for every input: the function returns true, and its arguments read as before. No condition. -/
import Derived.Test.YtodeihooadbbkaeRows
import Derived.Test.YtodeihooadbbkaeUFnExactIsTermination
import Derived.WalkKit
import Derived.ProofKit
import Derived.OpenShut
import Derived.ShutString
import Derived.ChangeOld
import Derived.Below
import Derived.SizedLaws
namespace Go.Proofs.Ytodeihooadbbkae
open Go Go.Proofs.Ytodeihooadbbkae.TM Go.ChangeShapes Go.WideShapes Go.ChangeAt Go.RowKit
namespace L1
open Go.Proofs.Ytodeihooadbbkae.X
def ys : List Ty := [.st [.int, .st [.int, .sl (.st [.int, .sl (.int)])], .st [.sl (.sl (.st [.int, .sl (.int)])), .sl (.int)], .sl (.st [.str, .str, .sl (.sl (.int))]), .sl (.st [.int, .sl (.int)]), .str, .sl (.st [.bool, .int, .sl (.int)])]]
theorem own : ownKnob Try.prog.godebug = none := by kernel_rfl
set_option maxRecDepth 100000 in
theorem lifted (os : Os) (started : os.Started) (H : Type) (enc : TypeId × Value → H) :
    ReturnsInHanded {} Try.checked os 3 .any (Rows.fnExactIsTerminationSpec.pre6 enc Try.prog Try.f3 Rows.fnExactIsTerminationRow.domain false) (Rows.fnExactIsTerminationSpec.post enc Try.prog Try.f3 false true false false) := by
  refine returnsInHanded_of_change_sized (C := Try.checked) own started (by kernel_rfl) Try.func3
    (ChangeSpec.witness6 (enc := enc) (C := Try.checked) false ⟨#[], #[.agg #[.int .i64 0, .int .i64 0, .slice none 0 0, .slice none 0 0, .slice none 0 0, .slice none 0 0, .slice none 0 0, .string ⟨#[]⟩, .slice none 0 0]], []⟩ 8 (by kernel_rfl) (by kernel_rfl) (by kernel_rfl) (by kernel_rfl)) ?_
  intro W base args ds gs before hval hW hcnd hsz0 _
  refine law_post (P := Try.prog) (evL_right tb (by kernel_rfl)) rfl hval hW (ys := ys) (by kernel_rfl) (by kernel_rfl) (by kernel_rfl) (tb := 4) (by kernel_rfl) (by kernel_rfl) ?_ (l := L_laws_FnExactIsTermination) rfl rfl rfl (z := (true : Bool)) rfl ?_
  · intro ds hds
    match ds, hds with
    | [d0], _ => rfl
  · rintro ⟨a0, a1, a2, a3, a4, a5, a6, a7, a8⟩ h
    have h : okR [.int .i64, .int .i64, .sl [.int .i64, .sl [.int .i64]], .sl [.sl [.int .i64, .sl [.int .i64]]], .sl [.int .i64], .sl [.str, .str, .sl [.sl [.int .i64]]], .sl [.int .i64, .sl [.int .i64]], .str, .sl [.bool, .int .i64, .sl [.int .i64]]] (a0, a1, a2, a3, a4, a5, a6, a7, a8) := h
    simp only [okR, okV] at h
    exact FnExactIsTermination_ok (⟨trivial, ⟨trivial, ⟨⟨le_maxLen h.2.2.1.1, fun x0 hx0 => ⟨trivial, ⟨le_maxLen (h.2.2.1.2 x0 hx0).2.1, fun x1 hx1 => trivial⟩⟩⟩, ⟨⟨le_maxLen h.2.2.2.1.1, fun x2 hx2 => ⟨le_maxLen (h.2.2.2.1.2 x2 hx2).1, fun x3 hx3 => ⟨trivial, ⟨le_maxLen ((h.2.2.2.1.2 x2 hx2).2 x3 hx3).2.1, fun x4 hx4 => trivial⟩⟩⟩⟩, ⟨⟨le_maxLen h.2.2.2.2.1.1, fun x5 hx5 => trivial⟩, ⟨⟨le_maxLen h.2.2.2.2.2.1.1, fun x6 hx6 => ⟨⟨le_maxLen (h.2.2.2.2.2.1.2 x6 hx6).1, fun _ _ => trivial⟩, ⟨⟨le_maxLen (h.2.2.2.2.2.1.2 x6 hx6).2.1, fun _ _ => trivial⟩, ⟨le_maxLen (h.2.2.2.2.2.1.2 x6 hx6).2.2.1, fun x7 hx7 => ⟨le_maxLen ((h.2.2.2.2.2.1.2 x6 hx6).2.2.2 x7 hx7).1, fun x8 hx8 => trivial⟩⟩⟩⟩⟩, ⟨⟨le_maxLen h.2.2.2.2.2.2.1.1, fun x9 hx9 => ⟨trivial, ⟨le_maxLen (h.2.2.2.2.2.2.1.2 x9 hx9).2.1, fun x10 hx10 => trivial⟩⟩⟩, ⟨⟨le_maxLen h.2.2.2.2.2.2.2.1, fun _ _ => trivial⟩, ⟨le_maxLen h.2.2.2.2.2.2.2.2.1, fun x11 hx11 => ⟨trivial, ⟨trivial, ⟨le_maxLen (h.2.2.2.2.2.2.2.2.2 x11 hx11).2.2.1, fun x12 hx12 => trivial⟩⟩⟩⟩⟩⟩⟩⟩⟩⟩⟩⟩) (⟨h.1, ⟨h.2.1, ⟨fun x13 hx13 => ⟨(h.2.2.1.2 x13 hx13).1, fun x14 hx14 => ((h.2.2.1.2 x13 hx13).2.2 x14 hx14)⟩, ⟨fun x15 hx15 => fun x16 hx16 => ⟨((h.2.2.2.1.2 x15 hx15).2 x16 hx16).1, fun x17 hx17 => (((h.2.2.2.1.2 x15 hx15).2 x16 hx16).2.2 x17 hx17)⟩, ⟨fun x18 hx18 => (h.2.2.2.2.1.2 x18 hx18), ⟨fun x19 hx19 => ⟨fun _ _ => trivial, ⟨fun _ _ => trivial, fun x20 hx20 => fun x21 hx21 => (((h.2.2.2.2.2.1.2 x19 hx19).2.2.2 x20 hx20).2 x21 hx21)⟩⟩, ⟨fun x22 hx22 => ⟨(h.2.2.2.2.2.2.1.2 x22 hx22).1, fun x23 hx23 => ((h.2.2.2.2.2.2.1.2 x22 hx22).2.2 x23 hx23)⟩, ⟨fun _ _ => trivial, fun x24 hx24 => ⟨trivial, ⟨(h.2.2.2.2.2.2.2.2.2 x24 hx24).2.1, fun x25 hx25 => ((h.2.2.2.2.2.2.2.2.2 x24 hx24).2.2.2 x25 hx25)⟩⟩⟩⟩⟩⟩⟩⟩⟩⟩)
theorem over : Rows.fnExactIsTerminationRow.holds Try.pinned (OpenSpec.ofChange Rows.fnExactIsTerminationSpec) :=
  OpenClaim.holds_of_wide 3 Try.f3 rfl rfl rfl rfl rfl rfl rfl ⟨rfl, rfl, rfl, rfl, rfl⟩ rfl rfl rfl rfl rfl (by kernel_rfl) Try.func3 (by kernel_rfl)
    (of_decide_eq_true (by kernel_rfl)) (by unfold Func.isWrapper; first | (rw [if_pos (by decide +kernel)]; kernel_rfl) | (rw [if_neg (by decide +kernel)]; exact ⟨rfl, rfl⟩))
    (fun os started H enc _ => lifted os started H enc)
theorem proved : Rows.FnExactIsTerminationSaid := over
end L1
theorem fnExactIsTermination_holds : Rows.FnExactIsTerminationSaid := L1.proved
end Go.Proofs.Ytodeihooadbbkae
