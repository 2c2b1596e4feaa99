/- The statement FnSamples holds for every input: the function returns true, and its arguments read as before. No condition. -/
import Derived.Test.YtkjkeabihljjhacGreatRows
import Derived.Test.YtkjkeabihljjhacGreatUFnSamples
import Derived.WalkKit
import Derived.ProofKit
import Derived.OpenShut
import Derived.ShutString
import Derived.ChangeOld
import Derived.Below
import Derived.SizedLaws
namespace Go.Proofs.YtkjkeabihljjhacGreat
open Go Go.Proofs.YtkjkeabihljjhacGreat.TM Go.ChangeShapes Go.WideShapes Go.ChangeAt Go.RowKit
namespace L1
open Go.Proofs.YtkjkeabihljjhacGreat.X
def ys:List Ty:=[.sl (.u8)]
theorem own:ownKnob Tryz.prog.godebug=none:=by kernel_rfl
set_option maxRecDepth 100000 in
theorem lifted (os:Os) (started:os.Started) (H:Type) (enc:TypeId×Value→H) :
  ReturnsInHanded {} Tryz.checked os 3 .any (Rows.fnSamplesSpec.pre6 enc Tryz.prog Tryz.f3 Rows.fnSamplesRow.domain false) (Rows.fnSamplesSpec.post enc Tryz.prog Tryz.f3 false true false false):=by
 refine returnsInHanded_of_change_sized (C:=Tryz.checked) own started (by kernel_rfl) Tryz.func3
  (ChangeSpec.witness6 (enc:=enc) (C:=Tryz.checked) false ⟨#[],#[.slice none 0 0],[]⟩ 8 (by kernel_rfl) (by kernel_rfl) (by kernel_rfl) (by kernel_rfl)) ?_
 intro W base args ds gs before hval hW hcnd hsz0 _
 refine law_post (P:=Tryz.prog) (evL_right tb (by kernel_rfl)) rfl hval hW (ys:=ys) (by kernel_rfl) (by kernel_rfl) (by kernel_rfl) (tb:=4) (by kernel_rfl) (by kernel_rfl) ?_ (l:=L_laws_FnSamples) rfl rfl rfl (z:=(true:Bool)) rfl ?_
 ·intro ds hds
  match ds,hds with
  |[d0],_=>rfl
 ·intro a0 h
  have h:okR [.sl [.int .u8]] a0:=h
  simp only[okR,okV] at h
  exact FnSamples_ok (⟨le_maxLen h.1,fun x0 hx0=>trivial⟩) (fun x1 hx1=>(h.2 x1 hx1))
theorem over:Rows.fnSamplesRow.holds Tryz.pinned (OpenSpec.ofChange Rows.fnSamplesSpec):=
 OpenClaim.holds_of_wide 3 Tryz.f3 rfl rfl rfl rfl rfl rfl rfl ⟨rfl,rfl,rfl,rfl,rfl⟩ rfl rfl rfl rfl rfl (by kernel_rfl) Tryz.func3 (by kernel_rfl)
  (of_decide_eq_true (by kernel_rfl)) (by unfold Func.isWrapper;first | (rw[if_pos (by decide +kernel)];kernel_rfl) | (rw[if_neg (by decide +kernel)];exact ⟨rfl,rfl⟩))
  (fun os started H enc _=>lifted os started H enc)
theorem proved:Rows.FnSamplesSaid:=over
end L1
theorem fnSamples_holds:Rows.FnSamplesSaid:=L1.proved
end Go.Proofs.YtkjkeabihljjhacGreat
