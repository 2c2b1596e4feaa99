/- The statement FnExactSampleArgs holds for every input: the function returns true, and its arguments read as before. No condition. -/
import Derived.Test.YtkjkeabihljjhabGreatRows
import Derived.Test.YtkjkeabihljjhabGreatUFnExactSampleArgs
import Derived.WalkKit
import Derived.ProofKit
import Derived.OpenShut
import Derived.ShutString
import Derived.ChangeOld
import Derived.Below
import Derived.SizedLaws
namespace Go.Proofs.YtkjkeabihljjhabGreat
open Go Go.Proofs.YtkjkeabihljjhabGreat.TM Go.ChangeShapes Go.WideShapes Go.ChangeAt Go.RowKit
namespace L1
open Go.Proofs.YtkjkeabihljjhabGreat.X
def ys:List Ty:=[.st [.sl (.st [.str,.sl (.str),.bool,.sl (.st [.int,.sl (.int)])]),.sl (.st [.str,.sl (.st [.str,.bool,.str,.str]),.sl (.st [.int,.sl (.st [.int,.str])]),.sl (.st [.str,.str,.sl (.st [.bool,.sl (.st [.int,.sl (.st [.int,.str])]),.str])]),.st [.bool,.sl (.st [.int,.sl (.st [.int,.str])]),.str]])],.str]
theorem own:ownKnob Tryz.prog.godebug=none:=by kernel_rfl
set_option maxRecDepth 100000 in
theorem lifted (os:Os) (started:os.Started) (H:Type) (enc:TypeId×Value→H) :
  ReturnsInHanded {} Tryz.checked os 3 .any (Rows.fnExactSampleArgsSpec.pre6 enc Tryz.prog Tryz.f3 Rows.fnExactSampleArgsRow.domain false) (Rows.fnExactSampleArgsSpec.post enc Tryz.prog Tryz.f3 false true false false):=by
 refine returnsInHanded_of_change_sized (C:=Tryz.checked) own started (by kernel_rfl) Tryz.func3
  (ChangeSpec.witness6 (enc:=enc) (C:=Tryz.checked) false ⟨#[],#[.agg #[.slice none 0 0,.slice none 0 0],.string ⟨#[]⟩],[]⟩ 8 (by kernel_rfl) (by kernel_rfl) (by kernel_rfl) (by kernel_rfl)) ?_
 intro W base args ds gs before hval hW hcnd hsz0 _
 refine law_post (P:=Tryz.prog) (evL_right tb (by kernel_rfl)) rfl hval hW (ys:=ys) (by kernel_rfl) (by kernel_rfl) (by kernel_rfl) (tb:=4) (by kernel_rfl) (by kernel_rfl) ?_ (l:=L_laws_FnExactSampleArgs) rfl rfl rfl (z:=(true:Bool)) rfl ?_
 ·intro ds hds
  match ds,hds with
  |[d0,d1],_=>rfl
 ·rintro ⟨a0,a1,a2⟩ h
  have h:okR [.sl [.str,.sl [.str],.bool,.sl [.int .i64,.sl [.int .i64]]],.sl [.str,.sl [.str,.bool,.str,.str],.sl [.int .i64,.sl [.int .i64,.str]],.sl [.str,.str,.sl [.bool,.sl [.int .i64,.sl [.int .i64,.str]],.str]],.bool,.sl [.int .i64,.sl [.int .i64,.str]],.str],.str] (a0,a1,a2):=h
  simp only[okR,okV] at h
  exact FnExactSampleArgs_ok (⟨⟨le_maxLen h.1.1,fun x0 hx0=>⟨⟨le_maxLen (h.1.2 x0 hx0).1,fun _ _=>trivial⟩,⟨⟨le_maxLen (h.1.2 x0 hx0).2.1.1,fun x1 hx1=>⟨le_maxLen ((h.1.2 x0 hx0).2.1.2 x1 hx1),fun _ _=>trivial⟩⟩,⟨trivial,⟨le_maxLen (h.1.2 x0 hx0).2.2.2.1,fun x2 hx2=>⟨trivial,⟨le_maxLen ((h.1.2 x0 hx0).2.2.2.2 x2 hx2).2.1,fun x3 hx3=>trivial⟩⟩⟩⟩⟩⟩⟩,⟨⟨le_maxLen h.2.1.1,fun x4 hx4=>⟨⟨le_maxLen (h.2.1.2 x4 hx4).1,fun _ _=>trivial⟩,⟨⟨le_maxLen (h.2.1.2 x4 hx4).2.1.1,fun x5 hx5=>⟨⟨le_maxLen ((h.2.1.2 x4 hx4).2.1.2 x5 hx5).1,fun _ _=>trivial⟩,⟨trivial,⟨⟨le_maxLen ((h.2.1.2 x4 hx4).2.1.2 x5 hx5).2.2.1,fun _ _=>trivial⟩,⟨le_maxLen ((h.2.1.2 x4 hx4).2.1.2 x5 hx5).2.2.2,fun _ _=>trivial⟩⟩⟩⟩⟩,⟨⟨le_maxLen (h.2.1.2 x4 hx4).2.2.1.1,fun x6 hx6=>⟨trivial,⟨le_maxLen ((h.2.1.2 x4 hx4).2.2.1.2 x6 hx6).2.1,fun x7 hx7=>⟨trivial,⟨le_maxLen (((h.2.1.2 x4 hx4).2.2.1.2 x6 hx6).2.2 x7 hx7).2,fun _ _=>trivial⟩⟩⟩⟩⟩,⟨⟨le_maxLen (h.2.1.2 x4 hx4).2.2.2.1.1,fun x8 hx8=>⟨⟨le_maxLen ((h.2.1.2 x4 hx4).2.2.2.1.2 x8 hx8).1,fun _ _=>trivial⟩,⟨⟨le_maxLen ((h.2.1.2 x4 hx4).2.2.2.1.2 x8 hx8).2.1,fun _ _=>trivial⟩,⟨le_maxLen ((h.2.1.2 x4 hx4).2.2.2.1.2 x8 hx8).2.2.1,fun x9 hx9=>⟨trivial,⟨⟨le_maxLen (((h.2.1.2 x4 hx4).2.2.2.1.2 x8 hx8).2.2.2 x9 hx9).2.1.1,fun x10 hx10=>⟨trivial,⟨le_maxLen ((((h.2.1.2 x4 hx4).2.2.2.1.2 x8 hx8).2.2.2 x9 hx9).2.1.2 x10 hx10).2.1,fun x11 hx11=>⟨trivial,⟨le_maxLen (((((h.2.1.2 x4 hx4).2.2.2.1.2 x8 hx8).2.2.2 x9 hx9).2.1.2 x10 hx10).2.2 x11 hx11).2,fun _ _=>trivial⟩⟩⟩⟩⟩,⟨le_maxLen (((h.2.1.2 x4 hx4).2.2.2.1.2 x8 hx8).2.2.2 x9 hx9).2.2,fun _ _=>trivial⟩⟩⟩⟩⟩⟩⟩,⟨trivial,⟨⟨le_maxLen (h.2.1.2 x4 hx4).2.2.2.2.2.1.1,fun x12 hx12=>⟨trivial,⟨le_maxLen ((h.2.1.2 x4 hx4).2.2.2.2.2.1.2 x12 hx12).2.1,fun x13 hx13=>⟨trivial,⟨le_maxLen (((h.2.1.2 x4 hx4).2.2.2.2.2.1.2 x12 hx12).2.2 x13 hx13).2,fun _ _=>trivial⟩⟩⟩⟩⟩,⟨le_maxLen (h.2.1.2 x4 hx4).2.2.2.2.2.2,fun _ _=>trivial⟩⟩⟩⟩⟩⟩⟩⟩,⟨le_maxLen h.2.2,fun _ _=>trivial⟩⟩⟩) (⟨fun x14 hx14=>⟨fun _ _=>trivial,⟨fun x15 hx15=>fun _ _=>trivial,⟨trivial,fun x16 hx16=>⟨((h.1.2 x14 hx14).2.2.2.2 x16 hx16).1,fun x17 hx17=>(((h.1.2 x14 hx14).2.2.2.2 x16 hx16).2.2 x17 hx17)⟩⟩⟩⟩,⟨fun x18 hx18=>⟨fun _ _=>trivial,⟨fun x19 hx19=>⟨fun _ _=>trivial,⟨trivial,⟨fun _ _=>trivial,fun _ _=>trivial⟩⟩⟩,⟨fun x20 hx20=>⟨((h.2.1.2 x18 hx18).2.2.1.2 x20 hx20).1,fun x21 hx21=>⟨(((h.2.1.2 x18 hx18).2.2.1.2 x20 hx20).2.2 x21 hx21).1,fun _ _=>trivial⟩⟩,⟨fun x22 hx22=>⟨fun _ _=>trivial,⟨fun _ _=>trivial,fun x23 hx23=>⟨trivial,⟨fun x24 hx24=>⟨((((h.2.1.2 x18 hx18).2.2.2.1.2 x22 hx22).2.2.2 x23 hx23).2.1.2 x24 hx24).1,fun x25 hx25=>⟨(((((h.2.1.2 x18 hx18).2.2.2.1.2 x22 hx22).2.2.2 x23 hx23).2.1.2 x24 hx24).2.2 x25 hx25).1,fun _ _=>trivial⟩⟩,fun _ _=>trivial⟩⟩⟩⟩,⟨trivial,⟨fun x26 hx26=>⟨((h.2.1.2 x18 hx18).2.2.2.2.2.1.2 x26 hx26).1,fun x27 hx27=>⟨(((h.2.1.2 x18 hx18).2.2.2.2.2.1.2 x26 hx26).2.2 x27 hx27).1,fun _ _=>trivial⟩⟩,fun _ _=>trivial⟩⟩⟩⟩⟩⟩,fun _ _=>trivial⟩⟩)
theorem over:Rows.fnExactSampleArgsRow.holds Tryz.pinned (OpenSpec.ofChange Rows.fnExactSampleArgsSpec):=
 OpenClaim.holds_of_wide 3 Tryz.f3 rfl rfl rfl rfl rfl rfl rfl ⟨rfl,rfl,rfl,rfl,rfl⟩ rfl rfl rfl rfl rfl (by kernel_rfl) Tryz.func3 (by kernel_rfl)
  (of_decide_eq_true (by kernel_rfl)) (by unfold Func.isWrapper;first | (rw[if_pos (by decide +kernel)];kernel_rfl) | (rw[if_neg (by decide +kernel)];exact ⟨rfl,rfl⟩))
  (fun os started H enc _=>lifted os started H enc)
theorem proved:Rows.FnExactSampleArgsSaid:=over
end L1
theorem fnExactSampleArgs_holds:Rows.FnExactSampleArgsSaid:=L1.proved
end Go.Proofs.YtkjkeabihljjhabGreat
