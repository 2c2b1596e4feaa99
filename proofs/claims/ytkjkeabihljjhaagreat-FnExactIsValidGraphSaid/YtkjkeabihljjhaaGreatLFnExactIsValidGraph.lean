/- The statement FnExactIsValidGraph holds for every input: the function returns true, and its arguments read as before. No condition. -/
import Derived.Test.YtkjkeabihljjhaaGreatRows
import Derived.Test.YtkjkeabihljjhaaGreatUFnExactIsValidGraph
import Derived.WalkKit
import Derived.ProofKit
import Derived.OpenShut
import Derived.ShutString
import Derived.ChangeOld
import Derived.Below
import Derived.SizedLaws
namespace Go.Proofs.YtkjkeabihljjhaaGreat
open Go Go.Proofs.YtkjkeabihljjhaaGreat.TM Go.ChangeShapes Go.WideShapes Go.ChangeAt Go.RowKit
namespace L1
open Go.Proofs.YtkjkeabihljjhaaGreat.X
def ys:List Ty:=[.st [.sl (.st [.str,.sl (.str),.bool,.sl (.st [.int,.sl (.int)])]),.sl (.st [.str,.sl (.st [.str,.bool,.str,.str]),.sl (.st [.int,.sl (.st [.int,.str])]),.sl (.st [.str,.str,.sl (.st [.bool,.sl (.st [.int,.sl (.st [.int,.str])]),.str])]),.st [.bool,.sl (.st [.int,.sl (.st [.int,.str])]),.str]])],.st [.str,.str,.sl (.sl (.int))]]
theorem own:ownKnob Tryz.prog.godebug=none:=by kernel_rfl
set_option maxRecDepth 100000 in
theorem lifted (os:Os) (started:os.Started) (H:Type) (enc:TypeId×Value→H) :
  ReturnsInHanded {} Tryz.checked os 3 .any (Rows.fnExactIsValidGraphSpec.pre6 enc Tryz.prog Tryz.f3 Rows.fnExactIsValidGraphRow.domain false) (Rows.fnExactIsValidGraphSpec.post enc Tryz.prog Tryz.f3 false true false false):=by
 refine returnsInHanded_of_change_sized (C:=Tryz.checked) own started (by kernel_rfl) Tryz.func3
  (ChangeSpec.witness6 (enc:=enc) (C:=Tryz.checked) false ⟨#[],#[.agg #[.slice none 0 0,.slice none 0 0],.agg #[.string ⟨#[]⟩,.string ⟨#[]⟩,.slice none 0 0]],[]⟩ 8 (by kernel_rfl) (by kernel_rfl) (by kernel_rfl) (by kernel_rfl)) ?_
 intro W base args ds gs before hval hW hcnd hsz0 _
 refine law_post (P:=Tryz.prog) (evL_right tb (by kernel_rfl)) rfl hval hW (ys:=ys) (by kernel_rfl) (by kernel_rfl) (by kernel_rfl) (tb:=4) (by kernel_rfl) (by kernel_rfl) ?_ (l:=L_laws_FnExactIsValidGraph) rfl rfl rfl (z:=(true:Bool)) rfl ?_
 ·intro ds hds
  match ds,hds with
  |[d0,d1],_=>rfl
 ·rintro ⟨a0,a1,a2,a3,a4⟩ h
  have h:okR [.sl [.str,.sl [.str],.bool,.sl [.int .i64,.sl [.int .i64]]],.sl [.str,.sl [.str,.bool,.str,.str],.sl [.int .i64,.sl [.int .i64,.str]],.sl [.str,.str,.sl [.bool,.sl [.int .i64,.sl [.int .i64,.str]],.str]],.bool,.sl [.int .i64,.sl [.int .i64,.str]],.str],.str,.str,.sl [.sl [.int .i64]]] (a0,a1,a2,a3,a4):=h
  simp only[okR,okV] at h
  exact FnExactIsValidGraph_ok (⟨⟨le_maxLen h.1.1,fun x0 hx0=>⟨⟨le_maxLen (h.1.2 x0 hx0).1,fun _ _=>trivial⟩,⟨⟨le_maxLen (h.1.2 x0 hx0).2.1.1,fun x1 hx1=>⟨le_maxLen ((h.1.2 x0 hx0).2.1.2 x1 hx1),fun _ _=>trivial⟩⟩,⟨trivial,⟨le_maxLen (h.1.2 x0 hx0).2.2.2.1,fun x2 hx2=>⟨trivial,⟨le_maxLen ((h.1.2 x0 hx0).2.2.2.2 x2 hx2).2.1,fun x3 hx3=>trivial⟩⟩⟩⟩⟩⟩⟩,⟨⟨le_maxLen h.2.1.1,fun x4 hx4=>⟨⟨le_maxLen (h.2.1.2 x4 hx4).1,fun _ _=>trivial⟩,⟨⟨le_maxLen (h.2.1.2 x4 hx4).2.1.1,fun x5 hx5=>⟨⟨le_maxLen ((h.2.1.2 x4 hx4).2.1.2 x5 hx5).1,fun _ _=>trivial⟩,⟨trivial,⟨⟨le_maxLen ((h.2.1.2 x4 hx4).2.1.2 x5 hx5).2.2.1,fun _ _=>trivial⟩,⟨le_maxLen ((h.2.1.2 x4 hx4).2.1.2 x5 hx5).2.2.2,fun _ _=>trivial⟩⟩⟩⟩⟩,⟨⟨le_maxLen (h.2.1.2 x4 hx4).2.2.1.1,fun x6 hx6=>⟨trivial,⟨le_maxLen ((h.2.1.2 x4 hx4).2.2.1.2 x6 hx6).2.1,fun x7 hx7=>⟨trivial,⟨le_maxLen (((h.2.1.2 x4 hx4).2.2.1.2 x6 hx6).2.2 x7 hx7).2,fun _ _=>trivial⟩⟩⟩⟩⟩,⟨⟨le_maxLen (h.2.1.2 x4 hx4).2.2.2.1.1,fun x8 hx8=>⟨⟨le_maxLen ((h.2.1.2 x4 hx4).2.2.2.1.2 x8 hx8).1,fun _ _=>trivial⟩,⟨⟨le_maxLen ((h.2.1.2 x4 hx4).2.2.2.1.2 x8 hx8).2.1,fun _ _=>trivial⟩,⟨le_maxLen ((h.2.1.2 x4 hx4).2.2.2.1.2 x8 hx8).2.2.1,fun x9 hx9=>⟨trivial,⟨⟨le_maxLen (((h.2.1.2 x4 hx4).2.2.2.1.2 x8 hx8).2.2.2 x9 hx9).2.1.1,fun x10 hx10=>⟨trivial,⟨le_maxLen ((((h.2.1.2 x4 hx4).2.2.2.1.2 x8 hx8).2.2.2 x9 hx9).2.1.2 x10 hx10).2.1,fun x11 hx11=>⟨trivial,⟨le_maxLen (((((h.2.1.2 x4 hx4).2.2.2.1.2 x8 hx8).2.2.2 x9 hx9).2.1.2 x10 hx10).2.2 x11 hx11).2,fun _ _=>trivial⟩⟩⟩⟩⟩,⟨le_maxLen (((h.2.1.2 x4 hx4).2.2.2.1.2 x8 hx8).2.2.2 x9 hx9).2.2,fun _ _=>trivial⟩⟩⟩⟩⟩⟩⟩,⟨trivial,⟨⟨le_maxLen (h.2.1.2 x4 hx4).2.2.2.2.2.1.1,fun x12 hx12=>⟨trivial,⟨le_maxLen ((h.2.1.2 x4 hx4).2.2.2.2.2.1.2 x12 hx12).2.1,fun x13 hx13=>⟨trivial,⟨le_maxLen (((h.2.1.2 x4 hx4).2.2.2.2.2.1.2 x12 hx12).2.2 x13 hx13).2,fun _ _=>trivial⟩⟩⟩⟩⟩,⟨le_maxLen (h.2.1.2 x4 hx4).2.2.2.2.2.2,fun _ _=>trivial⟩⟩⟩⟩⟩⟩⟩⟩,⟨⟨le_maxLen h.2.2.1,fun _ _=>trivial⟩,⟨⟨le_maxLen h.2.2.2.1,fun _ _=>trivial⟩,⟨le_maxLen h.2.2.2.2.1,fun x14 hx14=>⟨le_maxLen (h.2.2.2.2.2 x14 hx14).1,fun x15 hx15=>trivial⟩⟩⟩⟩⟩⟩) (⟨fun x16 hx16=>⟨fun _ _=>trivial,⟨fun x17 hx17=>fun _ _=>trivial,⟨trivial,fun x18 hx18=>⟨((h.1.2 x16 hx16).2.2.2.2 x18 hx18).1,fun x19 hx19=>(((h.1.2 x16 hx16).2.2.2.2 x18 hx18).2.2 x19 hx19)⟩⟩⟩⟩,⟨fun x20 hx20=>⟨fun _ _=>trivial,⟨fun x21 hx21=>⟨fun _ _=>trivial,⟨trivial,⟨fun _ _=>trivial,fun _ _=>trivial⟩⟩⟩,⟨fun x22 hx22=>⟨((h.2.1.2 x20 hx20).2.2.1.2 x22 hx22).1,fun x23 hx23=>⟨(((h.2.1.2 x20 hx20).2.2.1.2 x22 hx22).2.2 x23 hx23).1,fun _ _=>trivial⟩⟩,⟨fun x24 hx24=>⟨fun _ _=>trivial,⟨fun _ _=>trivial,fun x25 hx25=>⟨trivial,⟨fun x26 hx26=>⟨((((h.2.1.2 x20 hx20).2.2.2.1.2 x24 hx24).2.2.2 x25 hx25).2.1.2 x26 hx26).1,fun x27 hx27=>⟨(((((h.2.1.2 x20 hx20).2.2.2.1.2 x24 hx24).2.2.2 x25 hx25).2.1.2 x26 hx26).2.2 x27 hx27).1,fun _ _=>trivial⟩⟩,fun _ _=>trivial⟩⟩⟩⟩,⟨trivial,⟨fun x28 hx28=>⟨((h.2.1.2 x20 hx20).2.2.2.2.2.1.2 x28 hx28).1,fun x29 hx29=>⟨(((h.2.1.2 x20 hx20).2.2.2.2.2.1.2 x28 hx28).2.2 x29 hx29).1,fun _ _=>trivial⟩⟩,fun _ _=>trivial⟩⟩⟩⟩⟩⟩,⟨fun _ _=>trivial,⟨fun _ _=>trivial,fun x30 hx30=>fun x31 hx31=>((h.2.2.2.2.2 x30 hx30).2 x31 hx31)⟩⟩⟩⟩)
theorem over:Rows.fnExactIsValidGraphRow.holds Tryz.pinned (OpenSpec.ofChange Rows.fnExactIsValidGraphSpec):=
 OpenClaim.holds_of_wide 3 Tryz.f3 rfl rfl rfl rfl rfl rfl rfl ⟨rfl,rfl,rfl,rfl,rfl⟩ rfl rfl rfl rfl rfl (by kernel_rfl) Tryz.func3 (by kernel_rfl)
  (of_decide_eq_true (by kernel_rfl)) (by unfold Func.isWrapper;first | (rw[if_pos (by decide +kernel)];kernel_rfl) | (rw[if_neg (by decide +kernel)];exact ⟨rfl,rfl⟩))
  (fun os started H enc _=>lifted os started H enc)
theorem proved:Rows.FnExactIsValidGraphSaid:=over
end L1
theorem fnExactIsValidGraph_holds:Rows.FnExactIsValidGraphSaid:=L1.proved
end Go.Proofs.YtkjkeabihljjhaaGreat
