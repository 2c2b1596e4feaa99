/- Plain lemmas on these equations. No condition. -/
import Derived.Test.YtpoekafccggehahEFnExactCandidateConditions
import Derived.IntWalk
namespace Go.Proofs.Ytpoekafccggehah.TM
open Go
section
variable {ρ α β : Type}
theorem w64_id {n : Int} (h : -9223372036854775808 ≤ n) (h' : n ≤ 9223372036854775807) : w64 n = n := IntWalk.i64_in n ⟨h, h'⟩
theorem w64_nat {n : Nat} (h : n < 9223372036854775807) : w64 ((n : Int) + 1) = ((n + 1 : Nat) : Int) := by rw [w64_id (by omega) (by omega)]; rfl
theorem at_of {l : List α} {n : Nat} {x : α} (h : l[n]? = some x) (k : Nat → α → Option ρ) : at_ l (n : Int) k = k n x := by unfold at_; simp [h]
theorem atN_of {l : List α} {n : Nat} {x : α} (h : l[n]? = some x) (k : α → Option ρ) : atN l n k = k x := by unfold atN; simp [h]
theorem loopD (l : List α) (M : Nat → List α → Prop) (h0 : M l.length []) (h1 : ∀ k x suf, l.drop k = x :: suf → l[k]? = some x → k < l.length → M (k + 1) suf → M k (x :: suf)) : M 0 l := by
  have key : ∀ n k, k + n = l.length → M k (l.drop k) := by
    intro n
    induction n with
    | zero =>
      intro k hk
      have : k = l.length := by omega
      subst this
      rw [List.drop_length]
      exact h0
    | succ n ih =>
      intro k hk
      have hlt : k < l.length := by omega
      rw [List.drop_eq_getElem_cons hlt]
      exact h1 k _ _ (List.drop_eq_getElem_cons hlt) (List.getElem?_eq_getElem hlt) hlt (ih (k + 1) (by omega))
  simpa using key l.length 0 (by omega)
def sums : List Nat → Nat
  | [] => 0
  | x :: l => x + sums l
end
end Go.Proofs.Ytpoekafccggehah.TM
namespace Go.Proofs.Ytpoekafccggehah.TM
open Go
class Dat (α : Type) where
  size : α → Nat
  okd : α → Prop
  inr : α → Prop
  ok_of : ∀ x, size x ≤ 9223372036854775807 → okd x
open Dat (size okd inr)
instance : Dat Int := ⟨fun _ => 0, fun _ => True, fun n => -9223372036854775808 ≤ n ∧ n ≤ 9223372036854775807, fun _ _ => trivial⟩
instance : Dat Bool := ⟨fun _ => 0, fun _ => True, fun _ => True, fun _ _ => trivial⟩
instance : Dat UInt8 := ⟨fun _ => 0, fun _ => True, fun _ => True, fun _ _ => trivial⟩
theorem sums_mem {l : List Nat} {x : Nat} (h : x ∈ l) : x ≤ sums l := by
  induction l with
  | nil => simp at h
  | cons y l ih =>
    simp only [sums]
    rcases List.mem_cons.1 h with rfl | h
    · omega
    · have := ih h; omega
instance {α : Type} [Dat α] : Dat (List α) := ⟨fun l => l.length + sums (l.map size), fun l => l.length ≤ 9223372036854775807 ∧ ∀ x ∈ l, okd x, fun l => ∀ x ∈ l, inr x,
  fun l h => ⟨by omega, fun x hx => Dat.ok_of x (by have := sums_mem (List.mem_map_of_mem (f := size) hx); omega)⟩⟩
instance {α β : Type} [Dat α] [Dat β] : Dat (α × β) := ⟨fun x => size x.1 + size x.2, fun x => okd x.1 ∧ okd x.2, fun x => inr x.1 ∧ inr x.2, fun x h => ⟨Dat.ok_of _ (by omega), Dat.ok_of _ (by omega)⟩⟩
section
variable {α β γ ρ : Type}
theorem okd_of [Dat α] {x : α} (h : size x ≤ 1048576) : okd x := Dat.ok_of x (by omega)
theorem selfList [Dat α] {F : List α → List α → Int → Option Bool} {e : α → α → Option Bool}
    (hF : ∀ a b i, F a b i = cond (decide (i < (a.length : Int))) (at_ a i fun _ x => at_ b i fun _ y => (e x y).bind fun r => cond (!r) (some false) (F a b (w64 (i + 1)))) (some true))
    (he : ∀ x, okd x → e x x = some true) {a : List α} (ha : okd a) : cond (!((a.length : Int) == (a.length : Int))) (some false) (F a a 0) = some true := by
  have := loopD a (fun k s => F a a (k : Int) = some true) (by rw [hF]; simp) (fun k x suf hd hx hk ih => by
    rw [hF, at_of hx, at_of hx, he _ (ha.2 x (List.mem_of_getElem? hx)), w64_nat (by have := ha.1; omega), ih]
    simp)
  simpa using this
end
end Go.Proofs.Ytpoekafccggehah.TM
namespace Go.Proofs.Ytpoekafccggehah.X
open Go Go.Proofs.Ytpoekafccggehah.TM
open Go.Proofs.Ytpoekafccggehah.TM.Dat (size okd inr)
theorem laws_eqIntS_self {a0 : List Int} (h : okd a0) : laws_eqIntS a0 a0 = some true := by
  rw [laws_eqIntS_eq]
  exact selfList (F := laws_eqIntS_l0) (e := fun x y => some (x == y)) laws_eqIntS_l0_eq (fun x _ => by simp) h
theorem laws_eqLin_self {a0 : Int} {a1 : List Int} (h : okd (a0, a1)) : laws_eqLin a0 a1 a0 a1 = some true := by
  simp only [laws_eqLin_eq, laws_eqIntS_self h.2, Option.bind_some, beq_self_eq_true, Bool.not_true, cond_false]
theorem laws_eqLinS_self {a0 : List (Int × List Int)} (h : okd a0) : laws_eqLinS a0 a0 = some true := by
  rw [laws_eqLinS_eq]
  exact selfList (F := laws_eqLinS_l0) laws_eqLinS_l0_eq (fun x h => laws_eqLin_self h) h
end Go.Proofs.Ytpoekafccggehah.X
namespace Go.Proofs.Ytpoekafccggehah.X
open Go Go.Proofs.Ytpoekafccggehah.TM
open Go.Proofs.Ytpoekafccggehah.TM.Dat (size okd inr)
theorem getm {α : Type} (pre : List α) (e : α) (suf : List α) : (pre ++ e :: suf)[pre.length]? = some e := by simp
theorem setm {α : Type} (pre : List α) (e e' : α) (suf : List α) : (pre ++ e :: suf).set pre.length e' = pre ++ e' :: suf := by simp
theorem ltm {α : Type} (pre : List α) (e : α) (suf : List α) : decide ((pre.length : Int) < ((pre ++ e :: suf).length : Int)) = true := by simp; omega
theorem nltm {α : Type} (l : List α) : decide ((l.length : Int) < (l.length : Int)) = false := by simp
theorem markList {α : Type} {F : Int → Int → List α → Option (List α × Int)} {H : List α → Int → Int → Option Int} {wt : α → Nat} (ok : α → Prop)
    (hF1 : ∀ k l, F k (l.length : Int) l = some (l, k)) (hH1 : ∀ l k, H l k (l.length : Int) = some k)
    (hFe : ∀ (pre : List α) (e : α) (suf : List α) (k : Int), ok e → pre.length < 4611686018427387904 → 0 ≤ k → k + wt e ≤ 4611686018427387904 → ∃ e', F k (pre.length : Int) (pre ++ e :: suf) = F (k + wt e) ((pre.length + 1 : Nat) : Int) (pre ++ e' :: suf) ∧ ∀ pre' suf' : List α, pre'.length = pre.length → H (pre' ++ e' :: suf') k (pre'.length : Int) = H (pre' ++ e' :: suf') (k + wt e) ((pre'.length + 1 : Nat) : Int)) :
    ∀ (l : List α) (k : Int), (∀ x ∈ l, ok x) → 0 ≤ k → k + (sums (l.map wt) : Nat) ≤ 4611686018427387904 → l.length ≤ 4611686018427387904 → ∃ l', F k 0 l = some (l', k + (sums (l.map wt) : Nat)) ∧ H l' k 0 = some (k + (sums (l.map wt) : Nat)) := by
  have key : ∀ (suf pre : List α) (k : Int), (∀ x ∈ suf, ok x) → 0 ≤ k → k + (sums (suf.map wt) : Nat) ≤ 4611686018427387904 → pre.length + suf.length ≤ 4611686018427387904 → ∃ suf' : List α, F k (pre.length : Int) (pre ++ suf) = some (pre ++ suf', k + (sums (suf.map wt) : Nat)) ∧ ∀ pre' : List α, pre'.length = pre.length → H (pre' ++ suf') k (pre'.length : Int) = some (k + (sums (suf.map wt) : Nat)) := by
    intro suf
    induction suf with
    | nil => intro pre k _ _ _ _; exact ⟨[], by simpa [sums] using hF1 k pre, fun pre' _ => by simpa [sums] using hH1 pre' k⟩
    | cons e suf ih =>
      intro pre k ho h0 h1 h2
      simp only [List.map_cons, sums, List.length_cons] at h1 h2 ⊢
      obtain ⟨e', q1, q2⟩ := hFe pre e suf k (ho e (by simp)) (by omega) h0 (by omega)
      obtain ⟨suf', q3, q4⟩ := ih (pre ++ [e']) (k + wt e) (fun x hx => ho x (by simp [hx])) (by omega) (by omega) (by simp; omega)
      refine ⟨e' :: suf', ?_, fun pre' hp => ?_⟩
      · rw [q1]
        rw [show (pre.length + 1 : Nat) = (pre ++ [e']).length by simp, show pre ++ e' :: suf = pre ++ [e'] ++ suf by simp, q3]
        simp only [List.append_assoc, List.singleton_append]
        congr 2
        omega
      · rw [q2 pre' suf' hp]
        have := q4 (pre' ++ [e']) (by simp [hp])
        rw [show (pre'.length + 1 : Nat) = (pre' ++ [e']).length by simp, show pre' ++ e' :: suf' = pre' ++ [e'] ++ suf' by simp, this]
        congr 1
        omega
  intro l k ho h0 h1 h2
  obtain ⟨l', q1, q2⟩ := key l [] k ho h0 h1 (by simpa using h2)
  exact ⟨l', by simpa using q1, by simpa using q2 [] rfl⟩
theorem w64_up {k : Int} (h0 : 0 ≤ k) (h : k ≤ 4611686018427387904) : w64 (k + 1) = k + 1 := w64_id (by omega) (by omega)
theorem w64_upn {n : Nat} (h : n < 4611686018427387904) : w64 ((n : Int) + 1) = ((n + 1 : Nat) : Int) := w64_nat (by omega)
def Marks {α : Type} (M : α → Int → Option (α × Int)) (H : α → Int → Option Int) (wt : α → Nat) (ok : α → Prop) : Prop :=
  ∀ (x : α) (k : Int), ok x → 0 ≤ k → k + (wt x : Int) ≤ 4611686018427387904 → ∃ y : α, M x k = some (y, k + (wt x : Int)) ∧ H y k = some (k + (wt x : Int))
def wtI (l : List Int) : Nat := sums (l.map fun _ => 1)
theorem wtI_len (l : List Int) : wtI l = l.length := by
  unfold wtI
  induction l with
  | nil => rfl
  | cons x l ih => simp only [List.map_cons, sums, ih, List.length_cons]; omega
theorem mark_IntS : Marks laws_markIntS laws_heldIntS wtI (fun l => l.length ≤ 4611686018427387904) := by
  intro x k hx h0 h1
  have := markList (F := fun k i l => laws_markIntS_l0 k i l) (H := fun l k i => laws_heldIntS_l0 l k i) (wt := fun _ => 1) (fun _ => True)
    (fun k l => by rw [laws_markIntS_l0_eq, nltm, cond_false]) (fun l k => by rw [laws_heldIntS_l0_eq, nltm, cond_false])
    (fun pre e suf k _ hp h0 h1 => ⟨k, by
      rw [laws_markIntS_l0_eq, ltm, cond_true, at_of (getm pre e suf), atN_of (getm pre e suf), atN_of (getm pre e suf), setm, w64_up h0 (by omega), w64_upn hp]; rfl, fun pre' suf' hl => by
      rw [laws_heldIntS_l0_eq, ltm, cond_true, at_of (getm pre' k suf'), w64_up h0 (by omega), w64_upn (by omega)]; simp⟩) x k (fun _ _ => trivial) h0 h1 hx
  obtain ⟨l', q1, q2⟩ := this
  exact ⟨l', by rw [laws_markIntS_eq]; exact q1, by rw [laws_heldIntS_eq]; exact q2⟩
def wtL (x : Int × List Int) : Nat := 1 + wtI x.2
theorem mark_LinS : Marks laws_markLinS laws_heldLinS (fun l => sums (l.map wtL)) (fun l => l.length ≤ 4611686018427387904) := by
  intro x k hx h0 h1
  have := markList (F := fun k i l => laws_markLinS_l0 k i l) (H := fun l k i => laws_heldLinS_l0 l k i) (wt := wtL) (fun _ => True)
    (fun k l => by rw [laws_markLinS_l0_eq, nltm, cond_false]) (fun l k => by rw [laws_heldLinS_l0_eq, nltm, cond_false])
    (fun pre e suf k _ hp h0 h1 => by
      have hw : wtL e = 1 + wtI e.2 := rfl
      obtain ⟨e', q1, q2⟩ := mark_IntS e.2 (k + 1) (by have := wtI_len e.2; omega) (by omega) (by omega)
      refine ⟨(k, e'), ?_, fun pre' suf' hl => ?_⟩
      · rw [laws_markLinS_l0_eq, ltm, cond_true, at_of (getm pre e suf), atN_of (getm pre e suf), atN_of (getm pre e suf), setm, at_of (getm pre _ suf), atN_of (getm pre _ suf), atN_of (getm pre _ suf), w64_up h0 (by omega)]
        simp only
        rw [q1, Option.bind_some, atN_of (getm pre _ suf), setm, w64_upn hp]
        simp only
        rw [hw]
        congr 1
        omega
      · rw [laws_heldLinS_l0_eq, ltm, cond_true, at_of (getm pre' _ suf'), at_of (getm pre' _ suf'), w64_up h0 (by omega)]
        simp only
        rw [q2, Option.bind_some, w64_upn (by omega)]
        have : ¬ k + 1 + (wtI e.2 : Int) < 0 := by omega
        simp only [beq_self_eq_true, Bool.not_true, cond_false, this, decide_false]
        rw [hw]
        congr 1
        omega) x k (fun _ _ => trivial) h0 h1 hx
  obtain ⟨l', q1, q2⟩ := this
  exact ⟨l', by rw [laws_markLinS_eq]; exact q1, by rw [laws_heldLinS_eq]; exact q2⟩
end Go.Proofs.Ytpoekafccggehah.X
namespace Go.Proofs.Ytpoekafccggehah.X
open Go Go.Proofs.Ytpoekafccggehah.TM
open Go.Proofs.Ytpoekafccggehah.TM.Dat (size okd inr)
def cand1 : List (Int × List Int) := [(0, [1]), (-1, [1]), (1, [1]), (0, [-1]), (-1, [-1]), (1, [-1])]
def cand2 : List (Int × List Int) := [(0, [1, 0]), (-1, [1, 0]), (1, [1, 0]), (0, [-1, 0]), (-1, [-1, 0]), (1, [-1, 0]), (0, [0, 1]), (-1, [0, 1]), (1, [0, 1]), (0, [0, -1]), (-1, [0, -1]), (1, [0, -1]), (0, [1, -1]), (-1, [1, -1]), (1, [1, -1]), (0, [-1, 1]), (-1, [-1, 1]), (1, [-1, 1])]
theorem impl_cand1 : impl_CandidateConditions 1 = some cand1 := by
  rw [impl_CandidateConditions_eq]
  simp [impl_within_eq]
  repeat ((first | rw [impl_CandidateConditions_l2_eq] | rw [impl_CandidateConditions_l4_eq] | rw [impl_CandidateConditions_l1_eq] | rw [impl_CandidateConditions_l3_eq] | rw [impl_CandidateConditions_l0_eq]) <;> simp [at_, atN, app_, rep_, w64_id, impl_ConstLin_eq, impl_within_eq, impl_coeffOk_eq])
  rfl
theorem spec_cand1 : spec_CandidateConditions 1 = some cand1 := by
  rw [spec_CandidateConditions_eq]
  simp [spec_l1In_eq]
  repeat ((first | rw [spec_CandidateConditions_l2_eq] | rw [spec_CandidateConditions_l4_eq] | rw [spec_CandidateConditions_l1_eq] | rw [spec_CandidateConditions_l3_eq] | rw [spec_CandidateConditions_l0_eq]) <;> simp [at_, atN, app_, rep_, w64_id, spec_ConstLin_eq, spec_l1In_eq, spec_l3In_eq, spec_l26Lin_eq])
  rfl
theorem impl_cand2 : impl_CandidateConditions 2 = some cand2 := by
  rw [impl_CandidateConditions_eq]
  simp [impl_within_eq]
  repeat ((first | rw [impl_CandidateConditions_l2_eq] | rw [impl_CandidateConditions_l4_eq] | rw [impl_CandidateConditions_l1_eq] | rw [impl_CandidateConditions_l3_eq] | rw [impl_CandidateConditions_l0_eq]) <;> simp [at_, atN, app_, rep_, w64_id, impl_ConstLin_eq, impl_within_eq, impl_coeffOk_eq, List.replicate])
  rfl
theorem spec_cand2 : spec_CandidateConditions 2 = some cand2 := by
  rw [spec_CandidateConditions_eq]
  simp [spec_l1In_eq]
  repeat ((first | rw [spec_CandidateConditions_l2_eq] | rw [spec_CandidateConditions_l4_eq] | rw [spec_CandidateConditions_l1_eq] | rw [spec_CandidateConditions_l3_eq] | rw [spec_CandidateConditions_l0_eq]) <;> simp [at_, atN, app_, rep_, w64_id, spec_ConstLin_eq, spec_l1In_eq, spec_l3In_eq, spec_l26Lin_eq, List.replicate])
  rfl
theorem impl_cand0 : impl_CandidateConditions 0 = some [] := by
  rw [impl_CandidateConditions_eq]
  simp [impl_within_eq]
  rw [impl_CandidateConditions_l0_eq]
  simp
theorem spec_cand0 : spec_CandidateConditions 0 = some [] := by
  rw [spec_CandidateConditions_eq]
  simp [spec_l1In_eq]
  rw [spec_CandidateConditions_l0_eq]
  simp
  rw [spec_CandidateConditions_l3_eq]
  simp
theorem CandidateConditions_core (a0 : Int) : ∃ r, spec_CandidateConditions a0 = some r ∧ impl_CandidateConditions a0 = some r ∧ (r = [] ∨ r = cand1 ∨ r = cand2) := by
  by_cases h0 : a0 = 0
  · subst h0; exact ⟨_, spec_cand0, impl_cand0, .inl rfl⟩
  by_cases h1 : a0 = 1
  · subst h1; exact ⟨_, spec_cand1, impl_cand1, .inr (.inl rfl)⟩
  by_cases h2 : a0 = 2
  · subst h2; exact ⟨_, spec_cand2, impl_cand2, .inr (.inr rfl)⟩
  refine ⟨[], ?_, ?_, .inl rfl⟩
  · rw [spec_CandidateConditions_eq, spec_l1In_eq]
    by_cases h : 0 ≤ a0
    · have h3 : ¬ a0 ≤ 2 := by omega
      simp [h, h3]
    · simp [h]
  · rw [impl_CandidateConditions_eq, impl_within_eq]
    by_cases h : 0 ≤ a0
    · have h3 : ¬ a0 ≤ 2 := by omega
      simp [h, h3]
    · simp [h]
end Go.Proofs.Ytpoekafccggehah.X
namespace Go.Proofs.Ytpoekafccggehah.X
open Go Go.Proofs.Ytpoekafccggehah.TM
open Go.Proofs.Ytpoekafccggehah.TM.Dat (size okd inr)
theorem FnExactCandidateConditions_ok {a0 : Int} (_ : okd a0) (_ : inr a0) : laws_FnExactCandidateConditions a0 = some true := by
  obtain ⟨r, e1, e2, hr⟩ := CandidateConditions_core a0
  have ho : okd r := okd_of (by rcases hr with rfl | rfl | rfl <;> decide)
  have hw : (sums (r.map wtL) : Nat) ≤ 1000 ∧ r.length ≤ 1000 := by rcases hr with rfl | rfl | rfl <;> decide
  obtain ⟨y, m1, m2⟩ := mark_LinS r 1 (by omega) (by omega) (show (1 : Int) + ((sums (r.map wtL) : Nat) : Int) ≤ 4611686018427387904 by omega)
  rw [laws_FnExactCandidateConditions_eq]
  have hn : ¬ (1 : Int) + (sums (r.map wtL) : Nat) < 0 := by omega
  simp only [e1, e2, Option.bind_some, laws_eqLinS_self ho, m1, m2, hn, decide_false, beq_self_eq_true, Bool.not_true, cond_false]
end Go.Proofs.Ytpoekafccggehah.X
