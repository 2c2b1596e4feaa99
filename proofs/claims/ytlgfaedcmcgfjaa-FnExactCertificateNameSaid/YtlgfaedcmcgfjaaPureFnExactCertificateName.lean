/- The certificate names that the program returns are those that the reference returns, for every kind. No condition. -/
import Derived.Test.YtlgfaedcmcgfjaaPFnExactCertificateNamex1
namespace Go.Proofs.Ytlgfaedcmcgfjaa.Pure
open Go.RowKit Go.Proofs.Ytlgfaedcmcgfjaa.PFnExactCertificateName Go.Proofs.YtlgfaedcmcgfjaaW.PrintWords Go.Proofs.YtlgfaedcmcgfjaaW.PrintLast

theorem FnExactCertificateName : laws_FnExactCertificateName.Pure := by
  intro a0 _
  have e : impl_CertificateName.f a0 = spec_CertificateName.f a0 := rfl
  have h : ∃ r, spec_CertificateName.f a0 = some r := by
    by_cases h : 0 ≤ a0 ∧ a0 ≤ 4
    · have h5 : a0 = 0 ∨ a0 = 1 ∨ a0 = 2 ∨ a0 = 3 ∨ a0 = 4 := by omega
      rcases h5 with rfl | rfl | rfl | rfl | rfl <;> exact ⟨_, rfl⟩
    · have h1 : spec_l1In.f a0 0 4 = some false := by
        unfold spec_l1In.f
        by_cases h0 : a0 ≥ 0
        · rw [if_pos h0, decide_eq_false (by omega)]
        · rw [if_neg h0]
      unfold spec_CertificateName.f
      rw [h1]
      exact ⟨_, rfl⟩
  obtain ⟨r, hr⟩ := h
  unfold laws_FnExactCertificateName.f
  rw [e, hr]
  simp

end Go.Proofs.Ytlgfaedcmcgfjaa.Pure
