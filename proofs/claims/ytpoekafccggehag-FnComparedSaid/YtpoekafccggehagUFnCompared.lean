/- Plain lemmas on these equations. No condition. -/
import Derived.Test.YtpoekafccggehagEFnCompared
import Derived.IntWalk
namespace Go.Proofs.Ytpoekafccggehag.TM
open Go
section
variable {ρ α β : Type}
theorem w64_id {n : Int} (h : -9223372036854775808 ≤ n) (h' : n ≤ 9223372036854775807) : w64 n = n := IntWalk.i64_in n ⟨h, h'⟩
theorem w64_nat {n : Nat} (h : n < 9223372036854775807) : w64 ((n : Int) + 1) = ((n + 1 : Nat) : Int) := by rw [w64_id (by omega) (by omega)]; rfl
theorem at_of {l : List α} {n : Nat} {x : α} (h : l[n]? = some x) (k : Nat → α → Option ρ) : at_ l (n : Int) k = k n x := by unfold at_; simp [h]
theorem atN_of {l : List α} {n : Nat} {x : α} (h : l[n]? = some x) (k : α → Option ρ) : atN l n k = k x := by unfold atN; simp [h]
theorem app_of {l m : List α} (h : l.length + m.length ≤ 1073741824) (k : List α → Option ρ) : app_ l m k = k (l ++ m) := if_pos h
theorem rep_of {n : Nat} {e : α} (h : n ≤ 1073741824) (k : List α → Option ρ) : rep_ (n : Int) e k = k (List.replicate n e) := by unfold rep_; rw [if_pos (by omega)]; rfl
theorem loopD (l : List α) (M : Nat → List α → Prop) (h0 : M l.length []) (h1 : ∀ k x suf, l.drop k = x :: suf → l[k]? = some x → k < l.length → M (k + 1) suf → M k (x :: suf)) : M 0 l := by
  have key : ∀ n k, k + n = l.length → M k (l.drop k) := by
    intro n
    induction n with
    | zero =>
      intro k hk
      have : k = l.length := by omega
      subst this
      rw [List.drop_length]
      exact h0
    | succ n ih =>
      intro k hk
      have hlt : k < l.length := by omega
      rw [List.drop_eq_getElem_cons hlt]
      exact h1 k _ _ (List.drop_eq_getElem_cons hlt) (List.getElem?_eq_getElem hlt) hlt (ih (k + 1) (by omega))
  simpa using key l.length 0 (by omega)
def sums : List Nat → Nat
  | [] => 0
  | x :: l => x + sums l
end
end Go.Proofs.Ytpoekafccggehag.TM
namespace Go.Proofs.Ytpoekafccggehag.TM
open Go
class Dat (α : Type) where
  size : α → Nat
  okd : α → Prop
  inr : α → Prop
  ok_of : ∀ x, size x ≤ 9223372036854775807 → okd x
open Dat (size okd inr)
instance : Dat Int := ⟨fun _ => 0, fun _ => True, fun n => -9223372036854775808 ≤ n ∧ n ≤ 9223372036854775807, fun _ _ => trivial⟩
instance : Dat Bool := ⟨fun _ => 0, fun _ => True, fun _ => True, fun _ _ => trivial⟩
instance : Dat UInt8 := ⟨fun _ => 0, fun _ => True, fun _ => True, fun _ _ => trivial⟩
theorem sums_mem {l : List Nat} {x : Nat} (h : x ∈ l) : x ≤ sums l := by
  induction l with
  | nil => simp at h
  | cons y l ih =>
    simp only [sums]
    rcases List.mem_cons.1 h with rfl | h
    · omega
    · have := ih h; omega
instance {α : Type} [Dat α] : Dat (List α) := ⟨fun l => l.length + sums (l.map size), fun l => l.length ≤ 9223372036854775807 ∧ ∀ x ∈ l, okd x, fun l => ∀ x ∈ l, inr x,
  fun l h => ⟨by omega, fun x hx => Dat.ok_of x (by have := sums_mem (List.mem_map_of_mem (f := size) hx); omega)⟩⟩
instance {α β : Type} [Dat α] [Dat β] : Dat (α × β) := ⟨fun x => size x.1 + size x.2, fun x => okd x.1 ∧ okd x.2, fun x => inr x.1 ∧ inr x.2, fun x h => ⟨Dat.ok_of _ (by omega), Dat.ok_of _ (by omega)⟩⟩
section
variable {α β γ ρ : Type}
theorem idxLoop {F : Int → Option Int} {e : α → Option Bool} {p : α → Bool} {a : List α}
    (hF : ∀ i, F i = cond (decide (i < (a.length : Int))) (at_ a i fun _ x => (e x).bind fun r => cond r (some i) (F (w64 (i + 1)))) (some (-1)))
    (he : ∀ x ∈ a, e x = some (p x)) (hs : a.length ≤ 9223372036854775807) : ((F 0).bind fun r => some (decide (0 ≤ r))) = some (a.any p) := by
  have := loopD a (fun k s => ((F (k : Int)).bind fun r => some (decide (0 ≤ r))) = some (s.any p)) (by rw [hF]; simp) (fun k x suf hd hx hk ih => by
    rw [hF, at_of hx, he _ (List.mem_of_getElem? hx), w64_nat (by omega)]
    cases h1 : p x
    · simp only [hk, Int.ofNat_lt, decide_true, cond_true, Option.bind_some, cond_false, List.any_cons, h1, Bool.false_or]
      exact ih
    · simp [hk, h1])
  simpa using this
theorem le_maxLen {n : Nat} (h : n ≤ maxLen) : n ≤ 9223372036854775807 := h
end
end Go.Proofs.Ytpoekafccggehag.TM
namespace Go.Proofs.Ytpoekafccggehag.X
open Go Go.Proofs.Ytpoekafccggehag.TM
open Go.Proofs.Ytpoekafccggehag.TM.Dat (size okd inr)
end Go.Proofs.Ytpoekafccggehag.X
namespace Go.Proofs.Ytpoekafccggehag.X
open Go Go.Proofs.Ytpoekafccggehag.TM
open Go.Proofs.Ytpoekafccggehag.TM.Dat (size okd inr)
theorem beqD {α : Type} [BEq α] [LawfulBEq α] [DecidableEq α] (x y : α) : (x == y) = decide (x = y) := by by_cases h : x = y <;> simp [h]
end Go.Proofs.Ytpoekafccggehag.X
namespace Go.Proofs.Ytpoekafccggehag.X
open Go Go.Proofs.Ytpoekafccggehag.TM
open Go.Proofs.Ytpoekafccggehag.TM.Dat (size okd inr)
theorem within_ok (a b c : Int) : impl_within a b c = some (decide (b ≤ a) && decide (a ≤ c)) := by
  rw [impl_within_eq]
  cases decide (b ≤ a) <;> rfl
theorem l1In_ok (a b c : Int) : spec_l1In a b c = some (decide (b ≤ a) && decide (a ≤ c)) := by
  rw [spec_l1In_eq]
  cases decide (b ≤ a) <;> rfl
def inC (x : Int) : Bool := decide (-1000000000 ≤ x) && decide (x ≤ 1000000000)
theorem inC_iff {x : Int} : inC x = true ↔ -1000000000 ≤ x ∧ x ≤ 1000000000 := by unfold inC; simp
theorem coeffOk_ok (x : Int) : impl_coeffOk x = some (inC x) := by rw [impl_coeffOk_eq, within_ok]; rfl
theorem l3In_ok (x : Int) : spec_l3In x = some (inC x) := by rw [spec_l3In_eq, l1In_ok]; rfl
def mulL (a b : Int) : Int × Bool := cond (inC a && (inC b && inC (a * b))) (a * b, true) (0, false)
def addL (a b : Int) : Int × Bool := cond (inC a && (inC b && inC (a + b))) (a + b, true) (0, false)
theorem mul_bound {a b : Int} (ha : inC a = true) (hb : inC b = true) : -1000000000000000000 ≤ a * b ∧ a * b ≤ 1000000000000000000 := by
  obtain ⟨a1, a2⟩ := inC_iff.1 ha
  obtain ⟨b1, b2⟩ := inC_iff.1 hb
  have h : (a * b).natAbs ≤ 1000000000 * 1000000000 := by
    rw [Int.natAbs_mul]
    exact Nat.mul_le_mul (by omega) (by omega)
  omega
theorem spec_MulLimited_ok (a b : Int) : spec_MulLimited a b = some (mulL a b) := by
  rw [spec_MulLimited_eq, l3In_ok, l3In_ok]
  unfold mulL
  cases ha : inC a
  · rfl
  · cases hb : inC b
    · rfl
    · obtain ⟨h1, h2⟩ := mul_bound ha hb
      rw [w64_id (by omega) (by omega)]
      simp only [Option.bind_some, l3In_ok]
      cases inC (a * b) <;> rfl
theorem impl_MulLimited_ok (a b : Int) : impl_MulLimited a b = some (mulL a b) := by
  rw [impl_MulLimited_eq, coeffOk_ok, coeffOk_ok]
  unfold mulL
  cases ha : inC a
  · rfl
  · cases hb : inC b
    · rfl
    · obtain ⟨h1, h2⟩ := mul_bound ha hb
      rw [w64_id (by omega) (by omega)]
      simp only [Option.bind_some, coeffOk_ok]
      cases inC (a * b) <;> rfl
theorem spec_AddLimited_ok (a b : Int) : spec_AddLimited a b = some (addL a b) := by
  rw [spec_AddLimited_eq, l3In_ok, l3In_ok]
  unfold addL
  cases ha : inC a
  · rfl
  · cases hb : inC b
    · rfl
    · obtain ⟨a1, a2⟩ := inC_iff.1 ha
      obtain ⟨b1, b2⟩ := inC_iff.1 hb
      rw [w64_id (by omega) (by omega)]
      simp only [Option.bind_some, l3In_ok]
      cases inC (a + b) <;> rfl
theorem impl_AddLimited_ok (a b : Int) : impl_AddLimited a b = some (addL a b) := by
  rw [impl_AddLimited_eq, coeffOk_ok, coeffOk_ok]
  unfold addL
  cases ha : inC a
  · rfl
  · cases hb : inC b
    · rfl
    · obtain ⟨a1, a2⟩ := inC_iff.1 ha
      obtain ⟨b1, b2⟩ := inC_iff.1 hb
      rw [w64_id (by omega) (by omega)]
      simp only [Option.bind_some, coeffOk_ok]
      cases inC (a + b) <;> rfl
theorem mulL_comm (a b : Int) : mulL a b = mulL b a := by
  unfold mulL
  rw [Int.mul_comm a b]
  cases inC a <;> cases inC b <;> rfl
theorem addL_in {a b : Int} (h : (addL a b).2 = true) : (addL a b).1 = a + b ∧ inC (a + b) = true := by
  unfold addL at h ⊢
  cases h1 : (inC a && (inC b && inC (a + b)))
  · rw [h1] at h; cases h
  · simp only [Bool.and_eq_true] at h1
    exact ⟨rfl, h1.2.2⟩
def okS (x s y : Int) : Bool := (mulL s y).2 && (addL x (mulL s y).1).2
def sumS (x s y : Int) : Int := (addL x (mulL s y).1).1
theorem l4Sum_ok (x s y : Int) : ∃ v, spec_l4Sum x s y = some (v, okS x s y) ∧ (okS x s y = true → v = sumS x s y) := by
  rw [spec_l4Sum_eq, spec_MulLimited_ok, Option.bind_some, spec_AddLimited_ok, Option.bind_some]
  unfold okS sumS
  cases (mulL s y).2
  · exact ⟨0, rfl, fun h => by cases h⟩
  · exact ⟨_, rfl, fun _ => rfl⟩
theorem scaled_ok (x s y : Int) : impl_scaled x s y = some (sumS x s y, okS x s y) := by
  rw [impl_scaled_eq, impl_MulLimited_ok, Option.bind_some, impl_AddLimited_ok, Option.bind_some]
  unfold okS sumS
  cases (mulL s y).2 <;> rfl
theorem sumS_in {x s y : Int} (h : okS x s y = true) : inC (sumS x s y) = true := by
  unfold okS at h
  unfold sumS
  simp only [Bool.and_eq_true] at h
  obtain ⟨e, h1⟩ := addL_in h.2
  rw [e]
  exact h1
def validL (c : Int) (cs : List Int) (n : Int) : Bool := decide (0 ≤ n) && decide (n ≤ 8) && decide ((cs.length : Int) = n) && inC c && cs.all inC
theorem validL_iff {c : Int} {cs : List Int} {n : Int} : validL c cs n = true ↔ (0 ≤ n ∧ n ≤ 8) ∧ (cs.length : Int) = n ∧ inC c = true ∧ ∀ x ∈ cs, inC x = true := by
  unfold validL
  simp only [Bool.and_eq_true, decide_eq_true_eq, List.all_eq_true]
  constructor
  · rintro ⟨⟨⟨⟨h1, h2⟩, h3⟩, h4⟩, h5⟩; exact ⟨⟨h1, h2⟩, h3, h4, h5⟩
  · rintro ⟨⟨h1, h2⟩, h3, h4, h5⟩; exact ⟨⟨⟨⟨h1, h2⟩, h3⟩, h4⟩, h5⟩
theorem spec_IsValidLin_ok {c : Int} {cs : List Int} {n : Int} (hl : cs.length ≤ 9223372036854775806) : spec_IsValidLin c cs n = some (validL c cs n) := by
  rw [spec_IsValidLin_eq]
  have := loopD cs (fun k s => spec_IsValidLin_l0 n (k : Int) c cs = some (cond (s.all inC) (decide (0 ≤ n) && decide (n ≤ 8) && decide ((cs.length : Int) = n) && inC c) false))
    (by
      rw [spec_IsValidLin_l0_eq, l1In_ok, l3In_ok]
      simp only [Int.lt_irrefl, decide_false, cond_false, Option.bind_some, List.all_nil, cond_true, beqD]
      cases decide (0 ≤ n) <;> cases decide (n ≤ 8) <;> cases decide ((cs.length : Int) = n) <;> rfl)
    (fun k x suf hd hx hk ih => by
      rw [spec_IsValidLin_l0_eq, at_of hx, l3In_ok, w64_nat (by omega), ih]
      simp only [hk, Int.ofNat_lt, decide_true, cond_true, Option.bind_some, List.all_cons]
      cases inC x <;> rfl)
  rw [show (0 : Int) = ((0 : Nat) : Int) from rfl, this]
  unfold validL
  cases cs.all inC
  · simp
  · simp
theorem cont2_ok {cs : List Int} (hl : cs.length ≤ 9223372036854775806) : slices_ContainsFunc_2 cs () = some (cs.any fun x => !inC x) := by
  rw [slices_ContainsFunc_2_eq, slices_IndexFunc_2_eq]
  exact idxLoop (F := fun i => slices_IndexFunc_2_l0 cs cs.length i) (fun i => slices_IndexFunc_2_l0_eq cs _ i) (fun x _ => by rw [impl_IsValidLin_1_eq, coeffOk_ok]; rfl) (by omega)
theorem impl_IsValidLin_ok {c : Int} {cs : List Int} {n : Int} (hl : cs.length ≤ 9223372036854775806) : impl_IsValidLin c cs n = some (validL c cs n) := by
  rw [impl_IsValidLin_eq, within_ok, cont2_ok hl, coeffOk_ok]
  have e : cs.all inC = !(cs.any fun x => !inC x) := by
    rw [Bool.eq_iff_iff]
    simp
  unfold validL
  rw [e]
  simp only [Option.bind_some, beqD]
  cases decide (0 ≤ n) <;> cases decide (n ≤ 8) <;> cases decide ((cs.length : Int) = n) <;> cases inC c <;> rfl
def validS (n : Int) (rows : List (Int × List Int)) : Bool := decide (0 ≤ n) && decide (n ≤ 8) && decide ((rows.length : Int) ≤ 20) && rows.all fun r => validL r.1 r.2 n
def lensOK (rows : List (Int × List Int)) : Prop := rows.length ≤ 9223372036854775806 ∧ ∀ r ∈ rows, r.2.length ≤ 9223372036854775806
theorem spec_IsValidSystem_ok {n : Int} {rows : List (Int × List Int)} (h : lensOK rows) : spec_IsValidSystem n rows = some (validS n rows) := by
  rw [spec_IsValidSystem_eq]
  have := loopD rows (fun k s => spec_IsValidSystem_l0 (k : Int) n rows = some (cond (s.all fun r => validL r.1 r.2 n) (decide (0 ≤ n) && decide (n ≤ 8) && decide ((rows.length : Int) ≤ 20)) false))
    (by
      rw [spec_IsValidSystem_l0_eq, l1In_ok]
      simp only [Int.lt_irrefl, decide_false, cond_false, Option.bind_some, List.all_nil, cond_true]
      cases decide (0 ≤ n) <;> cases decide (n ≤ 8) <;> rfl)
    (fun k x suf hd hx hk ih => by
      have h1 := h.1
      rw [spec_IsValidSystem_l0_eq, at_of hx, spec_IsValidLin_ok (h.2 x (List.mem_of_getElem? hx)), w64_nat (by omega), ih]
      simp only [hk, Int.ofNat_lt, decide_true, cond_true, Option.bind_some, List.all_cons]
      cases validL x.1 x.2 n <;> rfl)
  rw [show (0 : Int) = ((0 : Nat) : Int) from rfl, this]
  unfold validS
  cases rows.all fun r => validL r.1 r.2 n
  · simp
  · simp
theorem impl_IsValidSystem_ok {n : Int} {rows : List (Int × List Int)} (h : lensOK rows) : impl_IsValidSystem n rows = some (validS n rows) := by
  have := loopD rows (fun k s => impl_IsValidSystem_l0 rows rows.length (k : Int) n rows = some (s.all fun r => validL r.1 r.2 n))
    (by
      rw [impl_IsValidSystem_l0_eq]
      simp)
    (fun k x suf hd hx hk ih => by
      have h1 := h.1
      rw [impl_IsValidSystem_l0_eq, at_of hx, impl_IsValidLin_ok (h.2 x (List.mem_of_getElem? hx)), w64_nat (by omega), ih]
      simp only [hk, Int.ofNat_lt, decide_true, cond_true, Option.bind_some, List.all_cons]
      cases validL x.1 x.2 n <;> rfl)
  rw [impl_IsValidSystem_eq, within_ok]
  have this : impl_IsValidSystem_l0 rows rows.length 0 n rows = some (rows.all fun r => validL r.1 r.2 n) := this
  rw [this]
  unfold validS
  simp only [Option.bind_some]
  by_cases h20 : (20 : Int) < rows.length
  · have : ¬ ((rows.length : Int) ≤ 20) := by omega
    simp only [h20, this, decide_true, decide_false]
    cases decide (0 ≤ n) <;> cases decide (n ≤ 8) <;> rfl
  · have : ((rows.length : Int) ≤ 20) := by omega
    simp only [h20, this, decide_true, decide_false]
    cases decide (0 ≤ n) <;> cases decide (n ≤ 8) <;> simp
def constL (v n : Int) : Int × List Int := cond (decide (0 ≤ n) && decide (n ≤ 8) && inC v) (v, List.replicate n.toNat 0) (0, [])
theorem spec_ConstLin_ok (v n : Int) : spec_ConstLin v n = some (constL v n) := by
  rw [spec_ConstLin_eq, l1In_ok, l3In_ok]
  unfold constL
  simp only [Option.bind_some]
  by_cases h1 : 0 ≤ n
  · by_cases h2 : n ≤ 8
    · simp only [h1, h2, decide_true, Bool.and_self, Bool.not_true, Bool.not_false, cond_true, Bool.true_and]
      cases inC v
      · rfl
      · unfold rep_
        rw [if_pos (by omega)]
        rfl
    · simp [h2]
  · simp [h1]
theorem impl_ConstLin_ok (v n : Int) : impl_ConstLin v n = some (constL v n) := by
  rw [impl_ConstLin_eq, within_ok, coeffOk_ok]
  unfold constL
  simp only [Option.bind_some]
  by_cases h1 : 0 ≤ n
  · by_cases h2 : n ≤ 8
    · simp only [h1, h2, decide_true, Bool.and_self, Bool.not_true, Bool.not_false, cond_true, Bool.true_and]
      cases inC v
      · rfl
      · unfold rep_
        rw [if_pos (by omega)]
        rfl
    · simp [h2]
  · simp [h1]
def okSs (s : Int) : List Int → List Int → Bool
  | x :: xs, y :: ys => okS x s y && okSs s xs ys
  | _, _ => true
def sumSs (s : Int) : List Int → List Int → List Int
  | x :: xs, y :: ys => sumS x s y :: sumSs s xs ys
  | _, _ => []
theorem sumSs_len (s : Int) : ∀ (xs ys : List Int), xs.length = ys.length → (sumSs s xs ys).length = xs.length
  | [], [], _ => rfl
  | x :: xs, y :: ys, h => by simp only [sumSs, List.length_cons]; rw [sumSs_len s xs ys (by simpa using h)]
  | [], _ :: _, h => by simp at h
  | _ :: _, [], h => by simp at h
theorem sumSs_in (s : Int) : ∀ (xs ys : List Int), okSs s xs ys = true → ∀ z ∈ sumSs s xs ys, inC z = true
  | x :: xs, y :: ys, h, z, hz => by
    simp only [okSs, Bool.and_eq_true] at h
    simp only [sumSs, List.mem_cons] at hz
    rcases hz with rfl | hz
    · exact sumS_in h.1
    · exact sumSs_in s xs ys h.2 z hz
  | [], _, _, z, hz => by simp [sumSs] at hz
  | _ :: _, [], _, z, hz => by simp [sumSs] at hz
def addS (c : Int) (cs : List Int) (s d : Int) (ds : List Int) : Int × List Int × Bool :=
  cond (validL c cs cs.length && validL d ds cs.length && inC s && okS c s d && okSs s cs ds) (sumS c s d, sumSs s cs ds, true) (0, [], false)
theorem okSs_app (s : Int) : ∀ (p q xs ys : List Int), p.length = q.length → okSs s (p ++ xs) (q ++ ys) = (okSs s p q && okSs s xs ys)
  | [], [], xs, ys, _ => by simp [okSs]
  | a :: p, b :: q, xs, ys, h => by
    simp only [List.cons_append, okSs]
    rw [okSs_app s p q xs ys (by simpa using h), Bool.and_assoc]
  | [], _ :: _, _, _, h => by simp at h
  | _ :: _, [], _, _, h => by simp at h
theorem sumSs_app (s : Int) : ∀ (p q xs ys : List Int), p.length = q.length → sumSs s (p ++ xs) (q ++ ys) = sumSs s p q ++ sumSs s xs ys
  | [], [], xs, ys, _ => by simp [sumSs]
  | a :: p, b :: q, xs, ys, h => by
    simp only [List.cons_append, sumSs]
    rw [sumSs_app s p q xs ys (by simpa using h)]
  | [], _ :: _, _, _, h => by simp at h
  | _ :: _, [], _, _, h => by simp at h
theorem getq {α β : Type} (p : List α) (q : List β) (y : β) (ys : List β) (h : q.length = p.length) : (q ++ y :: ys)[p.length]? = some y := by rw [← h]; simp
theorem setq {α β : Type} (p : List α) (q : List β) (y v : β) (ys : List β) (h : q.length = p.length) : (q ++ y :: ys).set p.length v = q ++ v :: ys := by rw [← h]; simp
theorem spec_AddScaled_l0_ok {c d s : Int} : ∀ (xs ys p q o z : List Int) (ok : Bool), p.length = q.length → o.length = p.length → z.length = xs.length → xs.length = ys.length → (p ++ xs).length ≤ 8 → (ok = true → o = sumSs s p q) → ok = okSs s p q →
    spec_AddScaled_l0 s ((p ++ xs).length : Int) ok (p.length : Int) c (p ++ xs) d (q ++ ys) 0 [] 0 (o ++ z) = some (cond (okS c s d && okSs s (p ++ xs) (q ++ ys)) (sumS c s d, sumSs s (p ++ xs) (q ++ ys), true) (0, [], false))
  | [], [], p, q, o, z, ok, hpq, ho, hz, _, _, h1, h2 => by
    have hz0 : z = [] := List.length_eq_zero_iff.1 (by simpa using hz)
    subst hz0
    obtain ⟨v, e1, e2⟩ := l4Sum_ok c s d
    rw [spec_AddScaled_l0_eq]
    simp only [List.append_nil, Int.lt_irrefl, decide_false, cond_false, e1, Option.bind_some]
    rw [← h2]
    cases ok
    · simp
    · cases hc : okS c s d
      · rfl
      · rw [e2 hc, ← h1 rfl]
        rfl
  | x :: xs, y :: ys, p, q, o, z, ok, hpq, ho, hz, hxy, h8, h1, h2 => by
    cases z with
    | nil => simp at hz
    | cons z0 z =>
      obtain ⟨v, e1, e2⟩ := l4Sum_ok x s y
      have ih := spec_AddScaled_l0_ok (c := c) (d := d) (s := s) xs ys (p ++ [x]) (q ++ [y]) (o ++ [v]) z (ok && okS x s y) (by simp [hpq]) (by simp [ho]) (by simpa using hz) (by simpa using hxy) (by simpa using h8) (fun h => by
        simp only [Bool.and_eq_true] at h
        rw [sumSs_app s p q [x] [y] hpq, ← h1 h.1, e2 h.2]
        rfl) (by rw [okSs_app s p q [x] [y] hpq, ← h2]; simp [okSs])
      simp only [List.append_assoc, List.singleton_append, List.length_append, List.length_cons, List.length_nil] at ih
      simp only [List.length_append, List.length_cons] at h8
      rw [spec_AddScaled_l0_eq]
      have hlt : decide ((p.length : Int) < ((p ++ x :: xs).length : Int)) = true := by simp; omega
      rw [hlt, cond_true, at_of (getq p p x xs rfl), at_of (getq p q y ys hpq.symm), e1, Option.bind_some, at_of (getq p o z0 z ho), atN_of (getq p o z0 z ho), atN_of (getq p o z0 z ho), setq p o z0 v z ho, w64_nat (by omega)]
      cases ok
      · simpa using ih
      · simpa using ih
  | [], _ :: _, _, _, _, _, _, _, _, _, h, _, _, _ => by simp at h
  | _ :: _, [], _, _, _, _, _, _, _, _, h, _, _, _ => by simp at h
theorem impl_AddScaled_l0_ok {c d s v : Int} {o0 : Bool} : ∀ (xs ys p q o z : List Int) (ok : Bool), p.length = q.length → o.length = p.length → z.length = xs.length → xs.length = ys.length → (p ++ xs).length ≤ 8 → (ok = true → o = sumSs s p q) → ok = (o0 && okSs s p q) →
    impl_AddScaled_l0 s ok ((p ++ xs).length : Int) (p.length : Int) c (p ++ xs) d (q ++ ys) 0 [] v (o ++ z) = some (cond (o0 && okSs s (p ++ xs) (q ++ ys)) (v, sumSs s (p ++ xs) (q ++ ys), true) (0, [], false))
  | [], [], p, q, o, z, ok, hpq, ho, hz, _, _, h1, h2 => by
    have hz0 : z = [] := List.length_eq_zero_iff.1 (by simpa using hz)
    subst hz0
    rw [impl_AddScaled_l0_eq]
    simp only [List.append_nil, Int.lt_irrefl, decide_false, cond_false]
    rw [← h2]
    cases ok
    · simp
    · rw [← h1 rfl]
      rfl
  | x :: xs, y :: ys, p, q, o, z, ok, hpq, ho, hz, hxy, h8, h1, h2 => by
    cases z with
    | nil => simp at hz
    | cons z0 z =>
      have ih := impl_AddScaled_l0_ok (c := c) (d := d) (s := s) (v := v) (o0 := o0) xs ys (p ++ [x]) (q ++ [y]) (o ++ [sumS x s y]) z (ok && okS x s y) (by simp [hpq]) (by simp [ho]) (by simpa using hz) (by simpa using hxy) (by simpa using h8) (fun h => by
        simp only [Bool.and_eq_true] at h
        rw [sumSs_app s p q [x] [y] hpq, ← h1 h.1]
        rfl) (by rw [okSs_app s p q [x] [y] hpq, h2]; simp [okSs, Bool.and_assoc])
      simp only [List.append_assoc, List.singleton_append, List.length_append, List.length_cons, List.length_nil] at ih
      simp only [List.length_append, List.length_cons] at h8
      rw [impl_AddScaled_l0_eq]
      have hlt : decide ((p.length : Int) < ((p ++ x :: xs).length : Int)) = true := by simp; omega
      rw [hlt, cond_true, at_of (getq p p x xs rfl), at_of (getq p q y ys hpq.symm), scaled_ok, Option.bind_some, at_of (getq p o z0 z ho), atN_of (getq p o z0 z ho), atN_of (getq p o z0 z ho), setq p o z0 _ z ho, w64_nat (by omega)]
      cases ok
      · simpa using ih
      · simpa using ih
  | [], _ :: _, _, _, _, _, _, _, _, _, h, _, _, _ => by simp at h
  | _ :: _, [], _, _, _, _, _, _, _, _, h, _, _, _ => by simp at h
theorem spec_AddScaled_ok {c : Int} {cs : List Int} {s d : Int} {ds : List Int} (h1 : cs.length ≤ 9223372036854775806) (h2 : ds.length ≤ 9223372036854775806) : spec_AddScaled c cs s d ds = some (addS c cs s d ds) := by
  rw [spec_AddScaled_eq, spec_IsValidLin_ok h1, spec_IsValidLin_ok h2, l3In_ok]
  unfold addS
  simp only [Option.bind_some]
  cases hv : validL c cs cs.length
  · rfl
  cases hw : validL d ds cs.length
  · rfl
  cases hs : inC s
  · rfl
  obtain ⟨v1, v2, v3, v4⟩ := validL_iff.1 hv
  obtain ⟨w1, w2, w3, w4⟩ := validL_iff.1 hw
  have hl : cs.length = ds.length := by omega
  rw [rep_of (by omega)]
  have := spec_AddScaled_l0_ok (c := c) (d := d) (s := s) cs ds [] [] [] (List.replicate cs.length 0) true rfl rfl (by simp) hl (by simp; omega) (fun _ => rfl) rfl
  simp only [Bool.not_true, Bool.not_false, cond_true, cond_false, Bool.true_and]
  simpa using this
theorem impl_AddScaled_ok {c : Int} {cs : List Int} {s d : Int} {ds : List Int} (h1 : cs.length ≤ 9223372036854775806) (h2 : ds.length ≤ 9223372036854775806) : impl_AddScaled c cs s d ds = some (addS c cs s d ds) := by
  rw [impl_AddScaled_eq, impl_IsValidLin_ok h1, impl_IsValidLin_ok h2, coeffOk_ok]
  unfold addS
  simp only [Option.bind_some]
  cases hv : validL c cs cs.length
  · rfl
  cases hw : validL d ds cs.length
  · rfl
  cases hs : inC s
  · rfl
  obtain ⟨v1, v2, v3, v4⟩ := validL_iff.1 hv
  obtain ⟨w1, w2, w3, w4⟩ := validL_iff.1 hw
  have hl : cs.length = ds.length := by omega
  have hc : impl_ConstLin 0 (cs.length : Int) = some (0, List.replicate cs.length 0) := by
    rw [impl_ConstLin_ok]
    unfold constL
    rw [show (decide (0 ≤ (cs.length : Int)) && decide ((cs.length : Int) ≤ 8) && inC 0) = true by simp [v1.2]; rfl]
    rfl
  rw [hc]
  simp only [Bool.not_true, Bool.not_false, cond_true, cond_false, Bool.true_and, Option.bind_some]
  rw [scaled_ok, Option.bind_some]
  have := impl_AddScaled_l0_ok (c := c) (d := d) (s := s) (v := sumS c s d) (o0 := okS c s d) cs ds [] [] [] (List.replicate cs.length 0) (okS c s d) rfl rfl (by simp) hl (by simp; omega) (fun _ => rfl) (by simp [okSs])
  simpa using this
end Go.Proofs.Ytpoekafccggehag.X
namespace Go.Proofs.Ytpoekafccggehag.X
open Go Go.Proofs.Ytpoekafccggehag.TM
open Go.Proofs.Ytpoekafccggehag.TM.Dat (size okd inr)
theorem addS_ok {c : Int} {cs : List Int} {s d : Int} {ds : List Int} (h : (addS c cs s d ds).2.2 = true) : (addS c cs s d ds).2.1.length = cs.length ∧ validL (addS c cs s d ds).1 (addS c cs s d ds).2.1 cs.length = true ∧ inC s = true ∧ validL c cs cs.length = true ∧ validL d ds cs.length = true := by
  unfold addS at h ⊢
  cases hc : (validL c cs cs.length && validL d ds cs.length && inC s && okS c s d && okSs s cs ds)
  · rw [hc] at h; cases h
  · simp only [Bool.and_eq_true] at hc
    obtain ⟨⟨⟨⟨h1, h2⟩, h3⟩, h4⟩, h5⟩ := hc
    obtain ⟨v1, v2, v3, v4⟩ := validL_iff.1 h1
    obtain ⟨w1, w2, w3, w4⟩ := validL_iff.1 h2
    have hl := sumSs_len s cs ds (by omega)
    refine ⟨hl, ?_, h3, h1, h2⟩
    simp only [cond_true]
    exact validL_iff.2 ⟨v1, by omega, sumS_in h4, sumSs_in s cs ds h5⟩
theorem addS_len (c : Int) (cs : List Int) (s d : Int) (ds : List Int) : (addS c cs s d ds).2.1.length ≤ cs.length := by
  cases h : (addS c cs s d ds).2.2
  · unfold addS at h ⊢
    cases hc : (validL c cs cs.length && validL d ds cs.length && inC s && okS c s d && okSs s cs ds)
    · simp
    · rw [hc] at h; cases h
  · exact Nat.le_of_eq (addS_ok h).1
def combR (c : Int) (cs : List Int) : List Int → List (Int × List Int) → Int × List Int × Bool
  | m :: ms, r :: rs => cond (decide (0 ≤ m) && (addS c cs m r.1 r.2).2.2) (combR (addS c cs m r.1 r.2).1 (addS c cs m r.1 r.2).2.1 ms rs) (0, [], false)
  | _, _ => (c, cs, true)
theorem combR_len : ∀ (ms : List Int) (rs : List (Int × List Int)) (c : Int) (cs : List Int), (combR c cs ms rs).2.1.length ≤ cs.length
  | [], _, c, cs => by simp [combR]
  | _ :: _, [], c, cs => by simp [combR]
  | m :: ms, r :: rs, c, cs => by
    rw [combR]
    cases decide (0 ≤ m) && (addS c cs m r.1 r.2).2.2
    · simp
    · simp only [cond_true]
      exact Nat.le_trans (combR_len ms rs _ _) (addS_len c cs m r.1 r.2)
theorem combR_bad : ∀ (ms : List Int) (rs : List (Int × List Int)) (c : Int) (cs : List Int), ms.length = rs.length → (ms.any fun m => !(decide (0 ≤ m) && decide (m ≤ 1000000000))) = true → combR c cs ms rs = (0, [], false)
  | [], _, _, _, _, h => by simp at h
  | _ :: _, [], _, _, h, _ => by simp at h
  | m :: ms, r :: rs, c, cs, hl, h => by
    rw [combR]
    cases hc : decide (0 ≤ m) && (addS c cs m r.1 r.2).2.2
    · rfl
    · simp only [Bool.and_eq_true, decide_eq_true_eq] at hc
      simp only [cond_true]
      have h1 := inC_iff.1 (addS_ok hc.2).2.2.1
      refine combR_bad ms rs _ _ (by simpa using hl) ?_
      simp only [List.any_cons, Bool.or_eq_true] at h
      rcases h with h | h
      · simp [hc.1, h1.2] at h
      · exact h
def comb (n : Int) (rows : List (Int × List Int)) (mult : List Int) : Int × List Int × Bool :=
  cond (validS n rows && decide (mult.length = rows.length)) (combR (constL 0 n).1 (constL 0 n).2 mult rows) (0, [], false)
theorem constL_len (v n : Int) : (constL v n).2.length ≤ 8 := by
  unfold constL
  by_cases h : 0 ≤ n ∧ n ≤ 8
  · cases decide (0 ≤ n) && decide (n ≤ 8) && inC v
    · simp
    · simp; omega
  · have : (decide (0 ≤ n) && decide (n ≤ 8) && inC v) = false := by
      by_cases h1 : 0 ≤ n
      · have h2 : ¬ n ≤ 8 := fun h2 => h ⟨h1, h2⟩
        simp [h2]
      · simp [h1]
    rw [this]
    simp
theorem spec_CombineRows_ok {n : Int} {rows : List (Int × List Int)} {mult : List Int} (h : lensOK rows) : spec_CombineRows n rows mult = some (comb n rows mult) := by
  rw [spec_CombineRows_eq, spec_IsValidSystem_ok h, spec_ConstLin_ok]
  unfold comb
  simp only [Option.bind_some]
  cases hv : validS n rows
  · rfl
  by_cases hl : mult.length = rows.length
  · have e : ((mult.length : Int) == (rows.length : Int)) = true := by simp [hl]
    have e' : decide (mult.length = rows.length) = true := by simp [hl]
    simp only [e, e', Bool.and_self, cond_true, Bool.not_true, Bool.not_false, cond_false]
    have hn := h.1
    have := loopD mult (fun k s => ∀ (c : Int) (cs : List Int), cs.length ≤ 8 → spec_CombineRows_l0 mult (k : Int) n rows 0 [] c cs = some (combR c cs s (rows.drop k)))
      (fun c cs _ => by rw [spec_CombineRows_l0_eq]; simp [combR]) (fun k m suf hd hm hk ih c cs hcs => by
        have hb : k < rows.length := by omega
        have hr := List.getElem?_eq_getElem hb
        rw [spec_CombineRows_l0_eq, at_of hm, at_of hr, spec_AddScaled_ok (by omega) (h.2 _ (List.getElem_mem hb)), List.drop_eq_getElem_cons hb, combR]
        simp only [hk, Int.ofNat_lt, decide_true, cond_true, Option.bind_some]
        cases ha : (addS c cs m (rows[k]).1 (rows[k]).2).2.2
        · simp
        · rw [at_of hm]
          by_cases h0 : m < 0
          · have : ¬ (0 ≤ m) := by omega
            simp [h0, this]
          · have h1 : 0 ≤ m := by omega
            rw [w64_nat (by omega), ih _ _ (Nat.le_trans (addS_len c cs m _ _) hcs)]
            simp [h0, h1])
    exact this _ _ (constL_len 0 n)
  · have e : ((mult.length : Int) == (rows.length : Int)) = false := by simp; omega
    simp [e, hl]
theorem impl_CombineRows_ok {n : Int} {rows : List (Int × List Int)} {mult : List Int} (h : lensOK rows) : impl_CombineRows n rows mult = some (comb n rows mult) := by
  rw [impl_CombineRows_eq, impl_IsValidSystem_ok h, impl_ConstLin_ok]
  unfold comb
  simp only [Option.bind_some]
  cases hv : validS n rows
  · rfl
  by_cases hl : mult.length = rows.length
  · have e : ((mult.length : Int) == (rows.length : Int)) = true := by simp [hl]
    have e' : decide (mult.length = rows.length) = true := by simp [hl]
    have hn := h.1
    have e3 : slices_ContainsFunc_3 mult () = some (mult.any fun m => !(decide (0 ≤ m) && decide (m ≤ 1000000000))) := by
      rw [slices_ContainsFunc_3_eq, slices_IndexFunc_3_eq]
      exact idxLoop (F := fun i => slices_IndexFunc_3_l0 mult mult.length i) (fun i => slices_IndexFunc_3_l0_eq mult _ i) (fun x _ => by rw [impl_CombineRows_1_eq, within_ok]; rfl) (by omega)
    simp only [e, e', Bool.and_self, cond_true, Bool.not_true, Bool.not_false, cond_false, e3, Option.bind_some]
    cases hany : mult.any fun m => !(decide (0 ≤ m) && decide (m ≤ 1000000000))
    · have hall : ∀ m ∈ mult, 0 ≤ m := fun m hm => by
        have := List.any_eq_false.1 hany m hm
        simp at this
        exact this.1
      have := loopD mult (fun k s => ∀ (c : Int) (cs : List Int), cs.length ≤ 8 → impl_CombineRows_l0 mult mult.length (k : Int) n rows 0 [] c cs = some (combR c cs s (rows.drop k)))
        (fun c cs _ => by rw [impl_CombineRows_l0_eq]; simp [combR]) (fun k m suf hd hm hk ih c cs hcs => by
          have hb : k < rows.length := by omega
          have hr := List.getElem?_eq_getElem hb
          have h0 := hall m (List.mem_of_getElem? hm)
          rw [impl_CombineRows_l0_eq, at_of hm, at_of hr, impl_AddScaled_ok (by omega) (h.2 _ (List.getElem_mem hb)), List.drop_eq_getElem_cons hb, combR]
          simp only [hk, Int.ofNat_lt, decide_true, cond_true, Option.bind_some, h0, Bool.true_and]
          cases ha : (addS c cs m (rows[k]).1 (rows[k]).2).2.2
          · simp
          · rw [w64_nat (by omega), ih _ _ (Nat.le_trans (addS_len c cs m _ _) hcs)]
            simp)
      simp only [cond_false]
      exact this _ _ (constL_len 0 n)
    · simp only [cond_true]
      rw [combR_bad mult rows _ _ hl hany]
  · have e : ((mult.length : Int) == (rows.length : Int)) = false := by simp; omega
    simp [e, hl]
def plusL (c : Int) (cs : List Int) (v : Int) : Int × List Int × Bool := cond ((addL c v).2 && validL c cs cs.length) ((addL c v).1, cs, true) (0, [], false)
theorem clone_ok {l : List Int} (h : l.length ≤ 1073741824) : slices_Clone l = some l := by
  rw [slices_Clone_eq, app_of (by simpa using h)]
  cases l with
  | nil => simp [both_]
  | cons x l => simp
theorem impl_plus_ok {c : Int} {cs : List Int} {v : Int} (hl : cs.length ≤ 1073741824) : impl_plus c cs v = some (plusL c cs v) := by
  rw [impl_plus_eq, impl_AddLimited_ok, impl_IsValidLin_ok (by omega)]
  unfold plusL
  have e : impl_copyLin c cs = some (c, cs) := by rw [impl_copyLin_eq, clone_ok hl]; rfl
  rw [e]
  simp only [Option.bind_some]
  cases (addL c v).2
  · rfl
  · cases validL c cs cs.length <;> rfl
theorem mulL_zero (s : Int) (h : inC s = true) : mulL s 0 = (0, true) := by
  unfold mulL
  rw [h, Int.mul_zero]
  rfl
theorem addL_zero {x : Int} (h : inC x = true) : addL x 0 = (x, true) := by
  unfold addL
  rw [Int.add_zero, h]
  rfl
theorem zeros_ok (s : Int) (hs : inC s = true) : ∀ (cs : List Int), (∀ x ∈ cs, inC x = true) → okSs s cs (List.replicate cs.length 0) = true ∧ sumSs s cs (List.replicate cs.length 0) = cs
  | [], _ => ⟨rfl, rfl⟩
  | x :: xs, h => by
    obtain ⟨h1, h2⟩ := zeros_ok s hs xs fun y hy => h y (by simp [hy])
    simp only [List.length_cons, List.replicate_succ, okSs, sumSs, okS, sumS, mulL_zero s hs, addL_zero (h x (by simp)), h1, h2, Bool.and_self, and_self]
theorem constL_at {v n : Int} {cs : List Int} (hv : inC v = true) (hn : (cs.length : Int) = n) (h8 : n ≤ 8) : constL v n = (v, List.replicate cs.length 0) := by
  unfold constL
  have h0 : 0 ≤ n := by omega
  rw [hv, show n.toNat = cs.length by omega]
  simp [h0, h8]
theorem zeros_valid {v : Int} {k : Nat} (hv : inC v = true) (h8 : k ≤ 8) : validL v (List.replicate k 0) k = true :=
  validL_iff.2 ⟨by omega, by simp, hv, fun x hx => by rw [(List.mem_replicate.1 hx).2]; rfl⟩
theorem addS_plus {c : Int} {cs : List Int} {n : Int} (h : validL c cs n = true) : addS c cs 1 (constL 1 n).1 (constL 1 n).2 = plusL c cs 1 := by
  obtain ⟨v1, v2, v3, v4⟩ := validL_iff.1 h
  subst v2
  rw [constL_at (cs := cs) rfl rfl v1.2]
  unfold addS plusL
  obtain ⟨z1, z2⟩ := zeros_ok 1 rfl cs v4
  have e1 : mulL 1 1 = (1, true) := rfl
  simp only [h, zeros_valid (v := 1) rfl (show cs.length ≤ 8 by omega), z1, z2, okS, sumS, e1, Bool.true_and, Bool.and_true, show inC 1 = true from rfl]
def chk (n : Int) (rows : List (Int × List Int)) (c : Int) (cs : List Int) (sc : Int) (mult : List Int) : Bool :=
  validS n rows && (validL c cs n && ((decide (0 ≤ sc) && decide (sc ≤ 1000000000)) && ((comb n rows mult).2.2 && ((plusL c cs 1).2.2 &&
    ((addS (comb n rows mult).1 (comb n rows mult).2.1 (-sc) (plusL c cs 1).1 (plusL c cs 1).2.1).2.2 &&
      ((addS (comb n rows mult).1 (comb n rows mult).2.1 (-sc) (plusL c cs 1).1 (plusL c cs 1).2.1).2.1.all (fun x => x == 0) &&
        decide ((addS (comb n rows mult).1 (comb n rows mult).2.1 (-sc) (plusL c cs 1).1 (plusL c cs 1).2.1).1 < 0)))))))
theorem comb_len (n : Int) (rows : List (Int × List Int)) (mult : List Int) : (comb n rows mult).2.1.length ≤ 8 := by
  unfold comb
  cases validS n rows && decide (mult.length = rows.length)
  · simp
  · exact Nat.le_trans (combR_len _ _ _ _) (constL_len 0 n)
theorem plusL_len (c : Int) (cs : List Int) (v : Int) : (plusL c cs v).2.1.length ≤ cs.length := by
  unfold plusL
  cases (addL c v).2 && validL c cs cs.length <;> simp
theorem spec_IsConstant_ok {c : Int} {cs : List Int} (hl : cs.length ≤ 9223372036854775806) : spec_IsConstant c cs = some (cs.all fun x => x == 0) := by
  rw [spec_IsConstant_eq]
  exact loopD cs (fun k s => spec_IsConstant_l0 (k : Int) c cs = some (s.all fun x => x == 0)) (by rw [spec_IsConstant_l0_eq]; simp) (fun k x suf hd hx hk ih => by
    rw [spec_IsConstant_l0_eq, at_of hx, w64_nat (by omega), ih]
    simp only [hk, Int.ofNat_lt, decide_true, cond_true, List.all_cons]
    cases x == 0 <;> rfl)
theorem impl_IsConstant_ok {c : Int} {cs : List Int} (hl : cs.length ≤ 9223372036854775806) : impl_IsConstant c cs = some (cs.all fun x => x == 0) := by
  rw [impl_IsConstant_eq, slices_ContainsFunc_4_eq, slices_IndexFunc_4_eq]
  have := idxLoop (F := fun i => slices_IndexFunc_4_l0 cs cs.length i) (p := fun x => !(x == 0)) (fun i => slices_IndexFunc_4_l0_eq cs _ i) (fun x _ => by rw [impl_IsConstant_1_eq]) (by omega)
  rw [this, Option.bind_some]
  congr 1
  rw [Bool.eq_iff_iff]
  simp
theorem spec_CheckFarkas_ok {n : Int} {rows : List (Int × List Int)} {c : Int} {cs : List Int} {sc : Int} {mult : List Int} (h : lensOK rows) (hl : cs.length ≤ 9223372036854775806) : spec_CheckFarkas n rows c cs sc mult = some (chk n rows c cs sc mult) := by
  rw [spec_CheckFarkas_eq, spec_CombineRows_ok h, spec_IsValidLin_ok hl, l1In_ok, spec_ConstLin_ok]
  unfold chk
  simp only [Option.bind_some]
  cases hc : (comb n rows mult).2.2
  · simp
  have hs : validS n rows = true := by
    unfold comb at hc
    cases hv : validS n rows
    · rw [hv] at hc; cases hc
    · rfl
  cases hv : validL c cs n
  · simp
  by_cases hr : 0 ≤ sc ∧ sc ≤ 1000000000
  · rw [w64_id (by omega) (by omega), Int.zero_sub]
    have l1 := constL_len 1 n
    have l2 := comb_len n rows mult
    have l3 := plusL_len c cs 1
    rw [spec_AddScaled_ok hl (by omega), addS_plus hv]
    simp only [Option.bind_some]
    rw [spec_AddScaled_ok (by omega) (by omega)]
    have l4 := addS_len (comb n rows mult).1 (comb n rows mult).2.1 (-sc) (plusL c cs 1).1 (plusL c cs 1).2.1
    simp only [Option.bind_some]
    rw [spec_IsConstant_ok (by omega)]
    simp only [hs, hr.1, hr.2, decide_true, Bool.and_self, Bool.true_and, Bool.not_true, Bool.not_false, cond_true, cond_false, Option.bind_some]
    cases (plusL c cs 1).2.2
    · rfl
    · cases (addS (comb n rows mult).1 (comb n rows mult).2.1 (-sc) (plusL c cs 1).1 (plusL c cs 1).2.1).2.2
      · rfl
      · cases (addS (comb n rows mult).1 (comb n rows mult).2.1 (-sc) (plusL c cs 1).1 (plusL c cs 1).2.1).2.1.all fun x => x == 0 <;> rfl
  · have : (decide (0 ≤ sc) && decide (sc ≤ 1000000000)) = false := by
      by_cases h1 : 0 ≤ sc
      · have : ¬ sc ≤ 1000000000 := fun h2 => hr ⟨h1, h2⟩
        simp [this]
      · simp [h1]
    rw [this]
    simp
theorem impl_CheckFarkas_ok {n : Int} {rows : List (Int × List Int)} {c : Int} {cs : List Int} {sc : Int} {mult : List Int} (h : lensOK rows) (hl : cs.length ≤ 1073741824) : impl_CheckFarkas n rows c cs sc mult = some (chk n rows c cs sc mult) := by
  rw [impl_CheckFarkas_eq, impl_CombineRows_ok h, impl_IsValidLin_ok (by omega), within_ok, impl_IsValidSystem_ok h, impl_plus_ok hl]
  unfold chk
  simp only [Option.bind_some]
  cases hs : validS n rows
  · simp
  cases hv : validL c cs n
  · simp
  by_cases hr : 0 ≤ sc ∧ sc ≤ 1000000000
  · rw [w64_id (by omega) (by omega)]
    have l2 := comb_len n rows mult
    have l3 := plusL_len c cs 1
    rw [impl_AddScaled_ok (by omega) (by omega)]
    have l4 := addS_len (comb n rows mult).1 (comb n rows mult).2.1 (-sc) (plusL c cs 1).1 (plusL c cs 1).2.1
    simp only [Option.bind_some]
    rw [impl_IsConstant_ok (by omega)]
    simp only [hr.1, hr.2, decide_true, Bool.and_self, Bool.true_and, Bool.not_true, Bool.not_false, cond_true, cond_false, Option.bind_some]
    cases (comb n rows mult).2.2
    · rfl
    cases (plusL c cs 1).2.2
    · rfl
    · cases (addS (comb n rows mult).1 (comb n rows mult).2.1 (-sc) (plusL c cs 1).1 (plusL c cs 1).2.1).2.2
      · rfl
      · cases (addS (comb n rows mult).1 (comb n rows mult).2.1 (-sc) (plusL c cs 1).1 (plusL c cs 1).2.1).2.1.all fun x => x == 0 <;> rfl
  · have : (decide (0 ≤ sc) && decide (sc ≤ 1000000000)) = false := by
      by_cases h1 : 0 ≤ sc
      · have : ¬ sc ≤ 1000000000 := fun h2 => hr ⟨h1, h2⟩
        simp [this]
      · simp [h1]
    rw [this]
    simp
end Go.Proofs.Ytpoekafccggehag.X
namespace Go.Proofs.Ytpoekafccggehag.X
open Go Go.Proofs.Ytpoekafccggehag.TM
open Go.Proofs.Ytpoekafccggehag.TM.Dat (size okd inr)
theorem gcd_loops : ∀ (b : Nat) (a : Nat), a ≤ 1000000000 → b ≤ 1000000000 → ∃ g : Nat, impl_Gcd_l0 (a : Int) (b : Int) = some (g : Int) ∧ spec_Gcd_l0 (a : Int) (b : Int) = some (g : Int) ∧ (0 < a ∨ 0 < b → 0 < g) := by
  intro b
  induction b using Nat.strongRecOn with
  | _ b ih =>
    intro a ha hb
    rw [impl_Gcd_l0_eq, spec_Gcd_l0_eq]
    by_cases h0 : b = 0
    · subst h0
      refine ⟨a, ?_, ?_, fun h => by omega⟩
      · have : max_ (a : Int) (w64 (-(a : Int))) = a := by
          rw [w64_id (by omega) (by omega)]
          unfold max_
          rw [if_neg (by omega)]
        simp [this]
      · simp
    · have e : Int.tmod (a : Int) (b : Int) = ((a % b : Nat) : Int) := by
        rw [Int.tmod_eq_emod_of_nonneg (by omega)]
        rfl
      have hlt : a % b < b := Nat.mod_lt _ (by omega)
      obtain ⟨g, g1, g2, g3⟩ := ih (a % b) hlt b hb (by omega)
      have hb0 : ((b : Int) == 0) = false := by simp; omega
      have hb1 : (0 : Int) < (b : Int) := by omega
      refine ⟨g, ?_, ?_, fun _ => g3 (.inl (by omega))⟩
      · rw [e]
        simp only [hb0, Bool.not_false, cond_true, cond_false]
        exact g1
      · rw [e]
        simp only [hb0, hb1, decide_true, cond_true, cond_false]
        exact g2
theorem gcd_ok {x y : Int} (hx : 0 < x) (hx2 : x ≤ 1000000000) (hy : 0 < y) (hy2 : y ≤ 1000000000) : ∃ g : Int, 0 < g ∧ impl_Gcd x y = some g ∧ spec_Gcd x y = some g := by
  obtain ⟨a, rfl⟩ := Int.eq_ofNat_of_zero_le (Int.le_of_lt hx)
  obtain ⟨b, rfl⟩ := Int.eq_ofNat_of_zero_le (Int.le_of_lt hy)
  obtain ⟨g, g1, g2, g3⟩ := gcd_loops b a (by omega) (by omega)
  have ia : inC (a : Int) = true := inC_iff.2 ⟨by omega, hx2⟩
  have ib : inC (b : Int) = true := inC_iff.2 ⟨by omega, hy2⟩
  have na : ¬ ((a : Int) < 0) := by omega
  have nb : ¬ ((b : Int) < 0) := by omega
  refine ⟨g, by have := g3 (.inl (by omega)); omega, ?_, ?_⟩
  · rw [impl_Gcd_eq, coeffOk_ok, coeffOk_ok]
    simp only [ia, ib, Option.bind_some, Bool.not_true, Bool.not_false, cond_true, cond_false]
    exact g1
  · rw [spec_Gcd_eq, l3In_ok, l3In_ok, spec_l3Size_eq, spec_l3Size_eq]
    simp only [ia, ib, na, nb, Option.bind_some, Bool.not_true, Bool.not_false, cond_true, cond_false, decide_false]
    exact g2
def mixO (x y a b : Int) : Bool := (mulL x a).2 && ((mulL y b).2 && (addL (mulL x a).1 (mulL y b).1).2)
def mixV (x y a b : Int) : Int := (addL (mulL x a).1 (mulL y b).1).1
theorem combined_1_ok (x y a b : Int) : impl_combined_1 x y a b = some (a, b, mixV x y a b, mixO x y a b) := by
  rw [impl_combined_1_eq, impl_MulLimited_ok, Option.bind_some, scaled_ok, Option.bind_some]
  unfold mixV mixO sumS okS
  rw [mulL_comm a x, mulL_comm b y]
  cases (mulL x a).2 <;> cases (mulL y b).2 <;> rfl
def mixOs (a b : Int) : List Int → List Int → Bool
  | x :: xs, y :: ys => mixO x y a b && mixOs a b xs ys
  | _, _ => true
def mixVs (a b : Int) : List Int → List Int → List Int
  | x :: xs, y :: ys => mixV x y a b :: mixVs a b xs ys
  | _, _ => []
theorem mixVs_len (a b : Int) : ∀ (xs ys : List Int), xs.length = ys.length → (mixVs a b xs ys).length = xs.length
  | [], [], _ => rfl
  | x :: xs, y :: ys, h => by simp only [mixVs, List.length_cons]; rw [mixVs_len a b xs ys (by simpa using h)]
  | [], _ :: _, h => by simp at h
  | _ :: _, [], h => by simp at h
theorem mixOs_app (a b : Int) : ∀ (p q xs ys : List Int), p.length = q.length → mixOs a b (p ++ xs) (q ++ ys) = (mixOs a b p q && mixOs a b xs ys)
  | [], [], xs, ys, _ => by simp [mixOs]
  | u :: p, v :: q, xs, ys, h => by
    simp only [List.cons_append, mixOs]
    rw [mixOs_app a b p q xs ys (by simpa using h), Bool.and_assoc]
  | [], _ :: _, _, _, h => by simp at h
  | _ :: _, [], _, _, h => by simp at h
theorem mixVs_app (a b : Int) : ∀ (p q xs ys : List Int), p.length = q.length → mixVs a b (p ++ xs) (q ++ ys) = mixVs a b p q ++ mixVs a b xs ys
  | [], [], xs, ys, _ => by simp [mixVs]
  | u :: p, v :: q, xs, ys, h => by
    simp only [List.cons_append, mixVs]
    rw [mixVs_app a b p q xs ys (by simpa using h)]
  | [], _ :: _, _, _, h => by simp at h
  | _ :: _, [], _, _, h => by simp at h
theorem l8Scaled_ok {a b : Int} {m m' : List Int} (hl : m.length = m'.length) (h : m.length ≤ 1000) : ∃ v, spec_l8Scaled m a m' b = some (v, mixOs a b m m') ∧ (mixOs a b m m' = true → v = mixVs a b m m') := by
  rw [spec_l8Scaled_eq]
  have := loopD m (fun k s => ∀ o : List Int, o.length = k → ∃ v, spec_l8Scaled_l0 m a m' b (k : Int) o = some (v, mixOs a b s (m'.drop k)) ∧ (mixOs a b s (m'.drop k) = true → v = o ++ mixVs a b s (m'.drop k)))
    (fun o ho => ⟨o, by rw [spec_l8Scaled_l0_eq]; simp [mixOs], by simp [mixVs]⟩) (fun k x suf hd hx hk ih o ho => by
      have hb : k < m'.length := by omega
      have hy := List.getElem?_eq_getElem hb
      obtain ⟨v, e1, e2⟩ := ih (o ++ [mixV x m'[k] a b]) (by simp [ho])
      rw [spec_l8Scaled_l0_eq, at_of hx, spec_MulLimited_ok, Option.bind_some, at_of hy, spec_MulLimited_ok, Option.bind_some, spec_AddLimited_ok, Option.bind_some, List.drop_eq_getElem_cons hb]
      simp only [hk, Int.ofNat_lt, decide_true, cond_true, mixOs, mixVs]
      unfold mixO
      cases h1 : (mulL x a).2
      · exact ⟨[], rfl, fun h => by cases h⟩
      cases h2 : (mulL m'[k] b).2
      · exact ⟨[], rfl, fun h => by cases h⟩
      cases h3 : (addL (mulL x a).1 (mulL m'[k] b).1).2
      · exact ⟨[], rfl, fun h => by cases h⟩
      refine ⟨v, ?_, fun h => ?_⟩
      · simp only [Bool.not_true, Bool.not_false, cond_true, cond_false, Bool.true_and]
        rw [app_of (by simp; omega), w64_nat (by omega)]
        exact e1
      · rw [e2 (by simpa using h)]
        simp)
  exact this [] rfl
abbrev RowI := Int × List Int × List Int × Int
abbrev RowS := Int × List Int × List Int
def toS (r : RowI) : RowS := (r.1, r.2.1, r.2.2.1 ++ [r.2.2.2])
def okRow (n L : Nat) (r : RowI) : Prop := validL r.1 r.2.1 n = true ∧ r.2.2.1.length = L
def joinO (a b : Int) (p q : RowI) : Bool :=
  (addS 0 (List.replicate p.2.1.length 0) a p.1 p.2.1).2.2 && ((addS (addS 0 (List.replicate p.2.1.length 0) a p.1 p.2.1).1 (addS 0 (List.replicate p.2.1.length 0) a p.1 p.2.1).2.1 b q.1 q.2.1).2.2 && (mixOs a b p.2.2.1 q.2.2.1 && mixO p.2.2.2 q.2.2.2 a b))
def joinV (a b : Int) (p q : RowI) : RowI :=
  ((addS (addS 0 (List.replicate p.2.1.length 0) a p.1 p.2.1).1 (addS 0 (List.replicate p.2.1.length 0) a p.1 p.2.1).2.1 b q.1 q.2.1).1, (addS (addS 0 (List.replicate p.2.1.length 0) a p.1 p.2.1).1 (addS 0 (List.replicate p.2.1.length 0) a p.1 p.2.1).2.1 b q.1 q.2.1).2.1, mixVs a b p.2.2.1 q.2.2.1, mixV p.2.2.2 q.2.2.2 a b)
theorem joinV_ok {n L : Nat} {a b : Int} {p q : RowI} (hp : okRow n L p) (hq : okRow n L q) (h : joinO a b p q = true) : okRow n L (joinV a b p q) := by
  unfold joinO at h
  simp only [Bool.and_eq_true] at h
  obtain ⟨h1, h2, h3, h4⟩ := h
  obtain ⟨v1, v2, v3, v4⟩ := validL_iff.1 hp.1
  obtain ⟨a1, a2, _⟩ := addS_ok h1
  obtain ⟨b1, b2, _⟩ := addS_ok h2
  have e : (addS 0 (List.replicate p.2.1.length 0) a p.1 p.2.1).2.1.length = n := by rw [a1, List.length_replicate]; omega
  refine ⟨?_, ?_⟩
  · show validL (addS (addS 0 (List.replicate p.2.1.length 0) a p.1 p.2.1).1 (addS 0 (List.replicate p.2.1.length 0) a p.1 p.2.1).2.1 b q.1 q.2.1).1 _ n = true
    rw [← e]
    exact b2
  · show (mixVs a b p.2.2.1 q.2.2.1).length = L
    rw [mixVs_len _ _ _ _ (by rw [hp.2, hq.2]), hp.2]
theorem impl_combined_ok {n L : Nat} {a b : Int} {p q : RowI} (hp : okRow n L p) (hq : okRow n L q) (hL : L ≤ 1000) :
    ∃ v : RowI, impl_combined p.1 p.2.1 p.2.2.1 p.2.2.2 a q.1 q.2.1 q.2.2.1 q.2.2.2 b = some (v.1, v.2.1, v.2.2.1, v.2.2.2, joinO a b p q) ∧ (joinO a b p q = true → v = joinV a b p q) := by
  obtain ⟨v1, v2, v3, v4⟩ := validL_iff.1 hp.1
  obtain ⟨w1, w2, w3, w4⟩ := validL_iff.1 hq.1
  rw [impl_combined_eq, impl_ConstLin_ok, constL_at (v := 0) rfl rfl (by omega)]
  simp only [Option.bind_some]
  rw [impl_AddScaled_ok (by simp; omega) (by omega)]
  simp only [Option.bind_some]
  have l1 := addS_len 0 (List.replicate p.2.1.length 0) a p.1 p.2.1
  rw [List.length_replicate] at l1
  rw [impl_AddScaled_ok (by omega) (by omega)]
  simp only [Option.bind_some]
  unfold joinO joinV
  cases h1 : (addS 0 (List.replicate p.2.1.length 0) a p.1 p.2.1).2.2
  · exact ⟨(0, [], [], 0), rfl, fun h => by cases h⟩
  generalize hX : addS (addS 0 (List.replicate p.2.1.length 0) a p.1 p.2.1).1 (addS 0 (List.replicate p.2.1.length 0) a p.1 p.2.1).2.1 b q.1 q.2.1 = X
  cases h2 : X.2.2
  · exact ⟨(0, [], [], 0), rfl, fun h => by cases h⟩
  simp only [Bool.not_true, Bool.not_false, cond_true, cond_false, combined_1_ok, Option.bind_some, Bool.true_and]
  have hl : p.2.2.1.length = q.2.2.1.length := by rw [hp.2, hq.2]
  have := loopD p.2.2.1 (fun k s => ∀ (o : List Int) (ok : Bool), o.length = k → impl_combined_l0 ok p.2.2.1.length (k : Int) p.1 p.2.1 p.2.2.1 p.2.2.2 q.1 q.2.1 q.2.2.1 q.2.2.2 0 [] [] 0 a b X.1 X.2.1 o (mixV p.2.2.2 q.2.2.2 a b) = some (X.1, X.2.1, o ++ mixVs a b s (q.2.2.1.drop k), mixV p.2.2.2 q.2.2.2 a b, ok && mixOs a b s (q.2.2.1.drop k)))
    (fun o ok ho => by rw [impl_combined_l0_eq]; simp [mixOs, mixVs]) (fun k x suf hd hx hk ih o ok ho => by
      have hb : k < q.2.2.1.length := by omega
      have hy := List.getElem?_eq_getElem hb
      have hLk := hp.2
      rw [impl_combined_l0_eq, at_of hx, at_of hy, combined_1_ok, Option.bind_some, app_of (by simp; omega), w64_nat (by omega), List.drop_eq_getElem_cons hb]
      simp only [hk, Int.ofNat_lt, decide_true, cond_true, mixOs, mixVs]
      have i1 := ih (o ++ [mixV x (q.2.2.1)[k] a b]) (mixO x (q.2.2.1)[k] a b) (by simp [ho])
      have i2 := ih (o ++ [mixV x (q.2.2.1)[k] a b]) false (by simp [ho])
      cases ok
      · simp only [cond_false]
        rw [i2]
        simp
      · simp only [cond_true]
        rw [i1]
        simp)
  have h3 := this [] (mixO p.2.2.2 q.2.2.2 a b) rfl
  simp only [List.nil_append, List.drop_zero] at h3
  exact ⟨(X.1, X.2.1, mixVs a b p.2.2.1 q.2.2.1, mixV p.2.2.2 q.2.2.2 a b), by rw [← Bool.and_comm (mixO p.2.2.2 q.2.2.2 a b)]; exact h3, fun _ => rfl⟩
end Go.Proofs.Ytpoekafccggehag.X
namespace Go.Proofs.Ytpoekafccggehag.X
open Go Go.Proofs.Ytpoekafccggehag.TM
open Go.Proofs.Ytpoekafccggehag.TM.Dat (size okd inr)
def co (k : Nat) (r : RowI) : Int := r.2.1.getD k 0
theorem co_at {n L k : Nat} {r : RowI} (h : okRow n L r) (hk : k < n) : r.2.1[k]? = some (co k r) := by
  have hl := (validL_iff.1 h.1).2.1
  have : k < r.2.1.length := by omega
  unfold co
  rw [List.getD_eq_getElem?_getD, List.getElem?_eq_getElem this]
  rfl
theorem co_in {n L k : Nat} {r : RowI} (h : okRow n L r) (hk : k < n) : inC (co k r) = true := (validL_iff.1 h.1).2.2.2 _ (List.mem_of_getElem? (co_at h hk))
noncomputable def gV (x y : Int) : Int := (impl_Gcd x y).getD 0
noncomputable def aV (x y : Int) : Int := w64 (Int.tdiv (-y) (gV x (-y)))
noncomputable def bV (x y : Int) : Int := w64 (Int.tdiv x (gV x (-y)))
noncomputable def joinR (k : Nat) (p q : RowI) : Option RowI := cond (joinO (aV (co k p) (co k q)) (bV (co k p) (co k q)) p q) (some (joinV (aV (co k p) (co k q)) (bV (co k p) (co k q)) p q)) none
noncomputable def elimN (k : Nat) (p : RowI) : List RowI → List RowI
  | [] => []
  | q :: qs => (if co k q < 0 then (match joinR k p q with
    | some v => [v]
    | none => []) else []) ++ elimN k p qs
noncomputable def elimP (k : Nat) (rows : List RowI) : List RowI → List RowI
  | [] => []
  | p :: ps => (if 0 < co k p then elimN k p rows else []) ++ elimP k rows ps
def keep0 (k : Nat) (rows : List RowI) : List RowI := rows.filter fun r => co k r == 0
noncomputable def elim (k : Nat) (rows : List RowI) : List RowI := keep0 k rows ++ elimP k rows rows
theorem elimN_len (k : Nat) (p : RowI) : ∀ qs : List RowI, (elimN k p qs).length ≤ qs.length
  | [] => by simp [elimN]
  | q :: qs => by
    have := elimN_len k p qs
    simp only [elimN, List.length_append, List.length_cons]
    have h : (if co k q < 0 then (match joinR k p q with
      | some v => [v]
      | none => []) else []).length ≤ 1 := by
      split
      · split <;> simp
      · simp
    omega
theorem gcd_row {n L k : Nat} {p q : RowI} (hp : okRow n L p) (hq : okRow n L q) (hk : k < n) (h0 : 0 < co k p) (h1 : co k q < 0) :
    0 < gV (co k p) (-co k q) ∧ impl_Gcd (co k p) (-co k q) = some (gV (co k p) (-co k q)) ∧ spec_Gcd (co k p) (-co k q) = some (gV (co k p) (-co k q)) := by
  have ip := inC_iff.1 (co_in hp hk)
  have iq := inC_iff.1 (co_in hq hk)
  obtain ⟨g, g1, g2, g3⟩ := gcd_ok h0 ip.2 (show 0 < -co k q by omega) (by omega)
  unfold gV
  rw [g2]
  exact ⟨g1, rfl, g3⟩
theorem impl_l2_ok {n L k : Nat} {rows : List RowI} (hR : ∀ r ∈ rows, okRow n L r) (hk : k < n) (hL : L ≤ 1000) (hr : rows.length ≤ 100000) {p : RowI} (hp : okRow n L p) (h0 : 0 < co k p) (i : Int) {acc : List RowI} (ha : acc.length + rows.length ≤ 1000000) :
    impl_without_l2 rows k (co k p) rows rows.length i rows rows.length 0 acc p.1 p.2.1 p.2.2.1 p.2.2.2 = impl_without_l1 rows k rows rows.length (w64 (i + 1)) (acc ++ elimN k p rows) := by
  have := loopD rows (fun j s => ∀ acc : List RowI, acc.length + s.length ≤ 1000000 → impl_without_l2 rows k (co k p) rows rows.length i rows rows.length (j : Int) acc p.1 p.2.1 p.2.2.1 p.2.2.2 = impl_without_l1 rows k rows rows.length (w64 (i + 1)) (acc ++ elimN k p s))
    (fun acc _ => by rw [impl_without_l2_eq]; simp [elimN]) (fun j q suf hd hq hj ih acc ha => by
      have hq0 := hR q (List.mem_of_getElem? hq)
      have iq := inC_iff.1 (co_in hq0 hk)
      simp only [List.length_cons] at ha
      rw [impl_without_l2_eq, at_of hq, at_of (co_at hq0 hk), w64_id (n := -co k q) (by omega) (by omega), w64_nat (n := j) (by omega)]
      simp only [hj, Int.ofNat_lt, decide_true, cond_true, elimN]
      by_cases h1 : co k q < 0
      · obtain ⟨g1, g2, _⟩ := gcd_row hp hq0 hk h0 h1
        have e1 : ¬ (-co k q ≤ 0) := by omega
        have e2 : (gV (co k p) (-co k q) == 0) = false := by simp; omega
        obtain ⟨v, c1, c2⟩ := impl_combined_ok (a := aV (co k p) (co k q)) (b := bV (co k p) (co k q)) hp hq0 hL
        simp only [e1, h1, decide_false, cond_false, g2, Option.bind_some, e2, if_true]
        rw [show w64 (Int.tdiv (-co k q) (gV (co k p) (-co k q))) = aV (co k p) (co k q) from rfl, show w64 (Int.tdiv (co k p) (gV (co k p) (-co k q))) = bV (co k p) (co k q) from rfl, c1, Option.bind_some]
        unfold joinR
        cases hj2 : joinO (aV (co k p) (co k q)) (bV (co k p) (co k q)) p q
        · simp only [cond_false, List.nil_append]
          exact ih acc (by omega)
        · have hv := c2 hj2
          subst hv
          simp only [cond_true]
          rw [app_of (by simp; omega), ih _ (by simp; omega), List.append_assoc]
      · have e1 : -co k q ≤ 0 := by omega
        simp only [e1, h1, decide_true, cond_true, if_false, List.nil_append]
        exact ih acc (by omega))
  exact this acc ha
theorem impl_l1_ok {n L k : Nat} {rows : List RowI} (hR : ∀ r ∈ rows, okRow n L r) (hk : k < n) (hL : L ≤ 1000) (hr : rows.length ≤ 100) {acc : List RowI} (ha : acc.length ≤ 100) :
    impl_without_l1 rows k rows rows.length 0 acc = some (acc ++ elimP k rows rows) := by
  have := loopD rows (fun j s => ∀ acc : List RowI, acc.length + s.length * 100 ≤ 100000 → impl_without_l1 rows k rows rows.length (j : Int) acc = some (acc ++ elimP k rows s))
    (fun acc _ => by rw [impl_without_l1_eq]; simp [elimP]) (fun j p suf hd hp hj ih acc ha => by
      have hp0 := hR p (List.mem_of_getElem? hp)
      simp only [List.length_cons] at ha
      rw [impl_without_l1_eq, at_of hp, at_of (co_at hp0 hk)]
      simp only [hj, Int.ofNat_lt, decide_true, cond_true, elimP]
      by_cases h0 : 0 < co k p
      · have e1 : ¬ (co k p ≤ 0) := by omega
        have hlen := elimN_len k p rows
        simp only [e1, h0, decide_false, cond_false, if_true]
        rw [impl_l2_ok hR hk hL (by omega) hp0 h0 (j : Int) (by omega), w64_nat (n := j) (by omega), ih _ (by rw [List.length_append]; omega), List.append_assoc]
      · have e1 : co k p ≤ 0 := by omega
        simp only [e1, h0, decide_true, cond_true, if_false, List.nil_append]
        rw [w64_nat (n := j) (by omega)]
        exact ih acc (by omega))
  exact this acc (by omega)
theorem impl_without_ok {n L k : Nat} {rows : List RowI} (hR : ∀ r ∈ rows, okRow n L r) (hk : k < n) (hL : L ≤ 1000) (hr : rows.length ≤ 100) : impl_without rows k = some (elim k rows) := by
  rw [impl_without_eq]
  have := loopD rows (fun j s => ∀ acc : List RowI, acc.length + s.length ≤ 100 → impl_without_l0 rows k rows rows.length (j : Int) acc = some (acc ++ (s.filter fun r => co k r == 0) ++ elimP k rows rows))
    (fun acc ha => by
      rw [impl_without_l0_eq]
      simp only [Int.lt_irrefl, decide_false, cond_false, List.filter_nil, List.append_nil]
      exact impl_l1_ok hR hk hL hr (by simpa using ha)) (fun j p suf hd hp hj ih acc ha => by
      have hp0 := hR p (List.mem_of_getElem? hp)
      simp only [List.length_cons] at ha
      rw [impl_without_l0_eq, at_of hp, at_of (co_at hp0 hk), w64_nat (n := j) (by omega)]
      simp only [hj, Int.ofNat_lt, decide_true, cond_true, List.filter_cons]
      cases h0 : co k p == 0
      · simp only [cond_false]
        exact ih acc (by omega)
      · simp only [cond_true]
        rw [app_of (by simp; omega), ih _ (by simp; omega)]
        simp)
  exact this [] (by simpa using hr)
theorem toS_co {n L k : Nat} {r : RowI} (h : okRow n L r) (hk : k < n) : (toS r).2.1[k]? = some (co k r) := co_at h hk
theorem spec_l8Join_ok {n L k : Nat} {p q : RowI} (hp : okRow n L p) (hq : okRow n L q) (hk : k < n) (hL : L < 1000) (h0 : 0 < co k p) (h1 : co k q < 0) :
    ∃ v : RowS, spec_l8Join (toS p).1 (toS p).2.1 (toS p).2.2 (toS q).1 (toS q).2.1 (toS q).2.2 k = some (v.1, v.2.1, v.2.2, joinO (aV (co k p) (co k q)) (bV (co k p) (co k q)) p q) ∧ (joinO (aV (co k p) (co k q)) (bV (co k p) (co k q)) p q = true → v = toS (joinV (aV (co k p) (co k q)) (bV (co k p) (co k q)) p q)) := by
  obtain ⟨g1, _, g3⟩ := gcd_row hp hq hk h0 h1
  have iq := inC_iff.1 (co_in hq hk)
  obtain ⟨v1, v2, v3, v4⟩ := validL_iff.1 hp.1
  obtain ⟨w1, w2, w3, w4⟩ := validL_iff.1 hq.1
  have e2 : (gV (co k p) (-co k q) == 0) = false := by simp; omega
  have em : spec_l1Max (gV (co k p) (-co k q)) 1 = some (gV (co k p) (-co k q)) := by
    rw [spec_l1Max_eq]
    by_cases h : 1 < gV (co k p) (-co k q)
    · simp [h]
    · have : gV (co k p) (-co k q) = 1 := by omega
      simp [this]
  rw [spec_l8Join_eq, at_of (toS_co hp hk), at_of (toS_co hq hk), Int.zero_sub, w64_id (n := -co k q) (by omega) (by omega), g3, Option.bind_some, em, Option.bind_some]
  have hz : rep_ (((toS p).2.1.length : Nat) : Int) (0 : Int) = fun (K : List Int → Option (Int × List Int × List Int × Bool)) => K (List.replicate p.2.1.length 0) := by
    funext K
    exact rep_of (show p.2.1.length ≤ 1073741824 by omega) K
  rw [hz]
  simp only [e2, cond_false]
  rw [show w64 (Int.tdiv (-co k q) (gV (co k p) (-co k q))) = aV (co k p) (co k q) from rfl, show w64 (Int.tdiv (co k p) (gV (co k p) (-co k q))) = bV (co k p) (co k q) from rfl]
  generalize aV (co k p) (co k q) = a
  generalize bV (co k p) (co k q) = b
  have l1 := addS_len 0 (List.replicate p.2.1.length 0) a p.1 p.2.1
  rw [List.length_replicate] at l1
  rw [spec_AddScaled_ok (by simp; omega) (show (toS p).2.1.length ≤ _ by show p.2.1.length ≤ _; omega), Option.bind_some]
  simp only [toS]
  rw [spec_AddScaled_ok (by omega) (by omega), Option.bind_some]
  obtain ⟨u, u1, u2⟩ := l8Scaled_ok (a := a) (b := b) (m := p.2.2.1 ++ [p.2.2.2]) (m' := q.2.2.1 ++ [q.2.2.2]) (by simp [hp.2, hq.2]) (by simp [hp.2]; omega)
  rw [u1, Option.bind_some]
  rw [mixOs_app a b _ _ _ _ (by rw [hp.2, hq.2])] at u1 u2 ⊢
  rw [mixVs_app a b _ _ _ _ (by rw [hp.2, hq.2])] at u2
  unfold joinO joinV
  cases (addS 0 (List.replicate p.2.1.length 0) a p.1 p.2.1).2.2
  · exact ⟨(_, _, _), rfl, fun h => by cases h⟩
  generalize hX : addS (addS 0 (List.replicate p.2.1.length 0) a p.1 p.2.1).1 (addS 0 (List.replicate p.2.1.length 0) a p.1 p.2.1).2.1 b q.1 q.2.1 = X
  cases X.2.2
  · exact ⟨(_, _, _), rfl, fun h => by cases h⟩
  refine ⟨(X.1, X.2.1, u), ?_, fun h => ?_⟩
  · simp only [cond_true, Bool.true_and, mixOs, Bool.and_true]
  · simp only [Bool.true_and] at h
    rw [u2 (by simpa [mixOs] using h)]
    rfl
end Go.Proofs.Ytpoekafccggehag.X
namespace Go.Proofs.Ytpoekafccggehag.X
open Go Go.Proofs.Ytpoekafccggehag.TM
open Go.Proofs.Ytpoekafccggehag.TM.Dat (size okd inr)
theorem map_at {rows : List RowI} {j : Nat} {q : RowI} (h : rows[j]? = some q) : (rows.map toS)[j]? = some (toS q) := by rw [List.getElem?_map, h]; rfl
theorem spec_l2_elim {n L k : Nat} {rows : List RowI} (hR : ∀ r ∈ rows, okRow n L r) (hk : k < n) (hL : L < 1000) (hr : rows.length ≤ 100000) {i : Nat} {p : RowI} (hi : rows[i]? = some p) {acc : List RowS} (ha : acc.length + rows.length ≤ 1000000) :
    spec_l8Eliminate_l2 (rows.map toS) k (i : Int) 0 acc = spec_l8Eliminate_l1 (rows.map toS) k (w64 ((i : Int) + 1)) (acc ++ (if 0 < co k p then elimN k p rows else []).map toS) := by
  have hp := hR p (List.mem_of_getElem? hi)
  have hlen : (rows.map toS).length = rows.length := List.length_map _
  by_cases h0 : 0 < co k p
  · rw [if_pos h0]
    have := loopD rows (fun j s => ∀ acc : List RowS, acc.length + s.length ≤ 1000000 → spec_l8Eliminate_l2 (rows.map toS) k (i : Int) (j : Int) acc = spec_l8Eliminate_l1 (rows.map toS) k (w64 ((i : Int) + 1)) (acc ++ (elimN k p s).map toS))
      (fun acc _ => by rw [spec_l8Eliminate_l2_eq, hlen]; simp [elimN]) (fun j q suf hd hq hj ih acc ha => by
        have hq0 := hR q (List.mem_of_getElem? hq)
        simp only [List.length_cons] at ha
        rw [spec_l8Eliminate_l2_eq, hlen, at_of (map_at hi), at_of (toS_co hp hk), at_of (map_at hq), at_of (toS_co hq0 hk), w64_nat (n := j) (by omega)]
        simp only [hj, Int.ofNat_lt, decide_true, cond_true, h0, elimN]
        by_cases h1 : co k q < 0
        · have e1 : ¬ (0 ≤ co k q) := by omega
          obtain ⟨v, c1, c2⟩ := spec_l8Join_ok hp hq0 hk hL h0 h1
          simp only [e1, h1, decide_false, cond_false, if_true]
          rw [at_of (map_at hi), at_of (map_at hq), c1, Option.bind_some]
          unfold joinR
          cases hj2 : joinO (aV (co k p) (co k q)) (bV (co k p) (co k q)) p q
          · simp only [cond_false, List.nil_append]
            exact ih acc (by omega)
          · have hv := c2 hj2
            subst hv
            simp only [cond_true]
            rw [app_of (by simp; omega), ih _ (by simp; omega), List.append_assoc]
            rfl
        · have e1 : 0 ≤ co k q := by omega
          simp only [e1, h1, decide_true, cond_true, if_false, List.nil_append]
          exact ih acc (by omega))
    exact this acc ha
  · rw [if_neg h0, spec_l8Eliminate_l2_eq, hlen]
    have hlt : (0 : Int) < (rows.length : Int) := by
      have := (List.getElem?_eq_some_iff.1 hi).1
      omega
    simp only [hlt, decide_true, cond_true]
    rw [at_of (map_at hi), at_of (toS_co hp hk)]
    simp [h0]
theorem spec_l1_elim {n L k : Nat} {rows : List RowI} (hR : ∀ r ∈ rows, okRow n L r) (hk : k < n) (hL : L < 1000) (hr : rows.length ≤ 100) {acc : List RowS} (ha : acc.length ≤ 100) :
    spec_l8Eliminate_l1 (rows.map toS) k 0 acc = some (acc ++ (elimP k rows rows).map toS) := by
  have hlen : (rows.map toS).length = rows.length := List.length_map _
  have := loopD rows (fun j s => ∀ acc : List RowS, acc.length + s.length * 100 ≤ 100000 → spec_l8Eliminate_l1 (rows.map toS) k (j : Int) acc = some (acc ++ (elimP k rows s).map toS))
    (fun acc _ => by rw [spec_l8Eliminate_l1_eq, hlen]; simp [elimP]) (fun j p suf hd hp hj ih acc ha => by
      simp only [List.length_cons] at ha
      rw [spec_l8Eliminate_l1_eq, hlen]
      simp only [hj, Int.ofNat_lt, decide_true, cond_true, elimP]
      have hlen2 : (if 0 < co k p then elimN k p rows else []).length ≤ rows.length := by
        split
        · exact elimN_len k p rows
        · simp
      rw [spec_l2_elim hR hk hL (by omega) hp (by omega), w64_nat (n := j) (by omega), ih _ (by rw [List.length_append, List.length_map]; omega), List.map_append, List.append_assoc])
  exact this acc (by omega)
theorem spec_l8Eliminate_ok {n L k : Nat} {rows : List RowI} (hR : ∀ r ∈ rows, okRow n L r) (hk : k < n) (hL : L < 1000) (hr : rows.length ≤ 100) : spec_l8Eliminate (rows.map toS) k = some ((elim k rows).map toS) := by
  have hlen : (rows.map toS).length = rows.length := List.length_map _
  rw [spec_l8Eliminate_eq]
  have := loopD rows (fun j s => ∀ acc : List RowS, acc.length + s.length ≤ 100 → spec_l8Eliminate_l0 (rows.map toS) k (j : Int) acc = some (acc ++ ((s.filter fun r => co k r == 0) ++ elimP k rows rows).map toS))
    (fun acc ha => by
      rw [spec_l8Eliminate_l0_eq, hlen]
      simp only [Int.lt_irrefl, decide_false, cond_false, List.filter_nil, List.nil_append]
      exact spec_l1_elim hR hk hL hr (by simpa using ha)) (fun j p suf hd hp hj ih acc ha => by
      have hp0 := hR p (List.mem_of_getElem? hp)
      simp only [List.length_cons] at ha
      rw [spec_l8Eliminate_l0_eq, hlen, at_of (map_at hp), at_of (toS_co hp0 hk), w64_nat (n := j) (by omega)]
      simp only [hj, Int.ofNat_lt, decide_true, cond_true, List.filter_cons]
      cases h0 : co k p == 0
      · simp only [cond_false]
        exact ih acc (by omega)
      · simp only [cond_true]
        rw [at_of (map_at hp), app_of (by simp; omega), ih _ (by simp; omega)]
        simp [toS])
  exact this [] (by simpa using hr)
theorem elim_ok {n L k : Nat} {rows : List RowI} (hR : ∀ r ∈ rows, okRow n L r) : ∀ r ∈ elim k rows, okRow n L r := by
  have hN : ∀ (p : RowI), okRow n L p → ∀ (qs : List RowI), (∀ r ∈ qs, okRow n L r) → ∀ r ∈ elimN k p qs, okRow n L r := by
    intro p hp qs
    induction qs with
    | nil => intro _ r hr; simp [elimN] at hr
    | cons q qs ih =>
      intro hq r hr
      simp only [elimN, List.mem_append] at hr
      rcases hr with hr | hr
      · split at hr
        · unfold joinR at hr
          cases hj : joinO (aV (co k p) (co k q)) (bV (co k p) (co k q)) p q
          · rw [hj] at hr; simp at hr
          · rw [hj] at hr
            simp only [cond_true, List.mem_singleton] at hr
            subst hr
            exact joinV_ok hp (hq q (by simp)) hj
        · simp at hr
      · exact ih (fun r hr => hq r (by simp [hr])) r hr
  have hP : ∀ (ps : List RowI), (∀ r ∈ ps, okRow n L r) → ∀ r ∈ elimP k rows ps, okRow n L r := by
    intro ps
    induction ps with
    | nil => intro _ r hr; simp [elimP] at hr
    | cons p ps ih =>
      intro hp r hr
      simp only [elimP, List.mem_append] at hr
      rcases hr with hr | hr
      · split at hr
        · exact hN p (hp p (by simp)) rows hR r hr
        · simp at hr
      · exact ih (fun r hr => hp r (by simp [hr])) r hr
  intro r hr
  simp only [elim, keep0, List.mem_append, List.mem_filter] at hr
  rcases hr with hr | hr
  · exact hR r hr.1
  · exact hP rows hR r hr
def unitR (L i : Nat) : List Int := (List.replicate L (0 : Int)).set i 1
def initR (L : Nat) : Nat → List (Int × List Int) → List RowI
  | _, [] => []
  | i, r :: rs => (r.1, r.2, unitR L i, 0) :: initR L (i + 1) rs
theorem initR_len (L : Nat) : ∀ (rs : List (Int × List Int)) (i : Nat), (initR L i rs).length = rs.length
  | [], _ => rfl
  | r :: rs, i => by simp [initR, initR_len L rs]
noncomputable def elimAll : Nat → Nat → List RowI → Option (List RowI)
  | 0, _, rows => some rows
  | m + 1, k, rows => if (elim k rows).length ≤ 60 then elimAll m (k + 1) (elim k rows) else none
def findNeg (n : Int) (rows : List (Int × List Int)) (c : Int) (cs : List Int) : List RowI → Int × List Int × Bool
  | [] => (0, [], false)
  | r :: rs => if r.1 < 0 then cond (chk n rows c cs r.2.2.2 r.2.2.1) (r.2.2.2, r.2.2.1, true) (0, [], false) else findNeg n rows c cs rs
noncomputable def search (n : Nat) (rows : List (Int × List Int)) (c : Int) (cs : List Int) (R : List RowI) : Int × List Int × Bool := match elimAll n 0 R with
  | some R' => findNeg n rows c cs R'
  | none => (0, [], false)
theorem impl_l2_find {n : Nat} {rows : List (Int × List Int)} {c : Int} {cs : List Int} (h : lensOK rows) (hl : cs.length ≤ 1073741824) {R : List RowI} (hr : R.length ≤ 100000) : impl_FindFarkas_l2 R R.length 0 n rows c cs 0 [] = some (findNeg n rows c cs R) :=
  loopD R (fun j s => impl_FindFarkas_l2 R R.length (j : Int) n rows c cs 0 [] = some (findNeg n rows c cs s)) (by rw [impl_FindFarkas_l2_eq]; simp [findNeg]) (fun j r suf hd hx hj ih => by
    rw [impl_FindFarkas_l2_eq, at_of hx, impl_CheckFarkas_ok h hl, w64_nat (n := j) (by omega), ih]
    simp only [hj, Int.ofNat_lt, decide_true, cond_true, Option.bind_some, findNeg]
    by_cases h0 : r.1 < 0
    · simp only [h0, decide_true, cond_true, if_true]
      cases chk n rows c cs r.2.2.2 r.2.2.1 <;> rfl
    · simp [h0])
theorem spec_l2_find {n : Nat} {rows : List (Int × List Int)} {c : Int} {cs : List Int} (h : lensOK rows) (hl : cs.length ≤ 1073741824) {L : Nat} (hL : L ≤ 1000) {R : List RowI} (hR : ∀ r ∈ R, r.2.2.1.length = L) (hr : R.length ≤ 100000) : spec_FindFarkas_l2 L (R.map toS) 0 n rows c cs 0 [] = some (findNeg n rows c cs R) := by
  have hlen : (R.map toS).length = R.length := List.length_map _
  exact loopD R (fun j s => spec_FindFarkas_l2 L (R.map toS) (j : Int) n rows c cs 0 [] = some (findNeg n rows c cs s)) (by rw [spec_FindFarkas_l2_eq, hlen]; simp [findNeg]) (fun j r suf hd hx hj ih => by
    have hrl := hR r (List.mem_of_getElem? hx)
    have e1 : (toS r).2.2[L]? = some r.2.2.2 := by
      show (r.2.2.1 ++ [r.2.2.2])[L]? = _
      rw [← hrl]; simp
    have e2 : ∀ K : List Int → Option (Int × List Int × Bool), sub_ (toS r).2.2 0 (L : Int) K = K r.2.2.1 := by
      intro K
      show sub_ (r.2.2.1 ++ [r.2.2.2]) 0 (L : Int) K = _
      unfold sub_ cutL
      rw [if_pos (by simp [hrl]; omega), ← hrl]
      simp
    rw [spec_FindFarkas_l2_eq, hlen, at_of (map_at hx), w64_nat (n := j) (by omega), ih]
    simp only [hj, Int.ofNat_lt, decide_true, cond_true, findNeg]
    by_cases h0 : r.1 < 0
    · have h0' : (toS r).1 < 0 := h0
      simp only [h0, h0', decide_true, cond_true, if_true]
      rw [at_of (map_at hx), at_of e1, at_of (map_at hx), e2, app_of (by simp; omega), List.nil_append, spec_CheckFarkas_ok h (by omega), Option.bind_some]
      cases chk n rows c cs r.2.2.2 r.2.2.1 <;> rfl
    · have h0' : ¬ (toS r).1 < 0 := h0
      simp [h0, h0'])
theorem impl_l1_find {n L : Nat} {rows : List (Int × List Int)} {c : Int} {cs : List Int} (h : lensOK rows) (hl : cs.length ≤ 1073741824) (hL : L < 1000) (hn : n ≤ 8) : ∀ (m k : Nat) (R : List RowI), k + m = n → (∀ r ∈ R, okRow n L r) → R.length ≤ 100 →
    impl_FindFarkas_l1 R k n rows c cs 0 [] = some (match elimAll m k R with
      | some R' => findNeg n rows c cs R'
      | none => (0, [], false)) := by
  intro m
  induction m with
  | zero =>
    intro k R hk hR hr
    have : k = n := by omega
    subst this
    rw [impl_FindFarkas_l1_eq]
    simp only [Int.lt_irrefl, decide_false, cond_false, elimAll]
    exact impl_l2_find h hl (by omega)
  | succ m ih =>
    intro k R hk hR hr
    have hkn : (k : Int) < (n : Int) := by omega
    rw [impl_FindFarkas_l1_eq, impl_without_ok hR (by omega) (by omega) hr, w64_nat (n := k) (by omega)]
    simp only [hkn, decide_true, cond_true, Option.bind_some, elimAll]
    by_cases h60 : (elim k R).length ≤ 60
    · have : ¬ (60 : Int) < ((elim k R).length : Int) := by omega
      simp only [this, decide_false, cond_false, h60, if_true]
      exact ih (k + 1) _ (by omega) (elim_ok hR) (by omega)
    · have : (60 : Int) < ((elim k R).length : Int) := by omega
      simp [this, h60]
theorem spec_l1_find {n L : Nat} {rows : List (Int × List Int)} {c : Int} {cs : List Int} (h : lensOK rows) (hl : cs.length ≤ 1073741824) (hL : L < 1000) (hn : n ≤ 8) : ∀ (m k : Nat) (R : List RowI), k + m = n → (∀ r ∈ R, okRow n L r) → R.length ≤ 100 →
    spec_FindFarkas_l1 L (R.map toS) k n rows c cs 0 [] = some (match elimAll m k R with
      | some R' => findNeg n rows c cs R'
      | none => (0, [], false)) := by
  intro m
  induction m with
  | zero =>
    intro k R hk hR hr
    have : k = n := by omega
    subst this
    rw [spec_FindFarkas_l1_eq]
    simp only [Int.lt_irrefl, decide_false, cond_false, elimAll]
    exact spec_l2_find h hl (by omega) (fun r hr => (hR r hr).2) (by omega)
  | succ m ih =>
    intro k R hk hR hr
    have hkn : (k : Int) < (n : Int) := by omega
    rw [spec_FindFarkas_l1_eq, spec_l8Eliminate_ok hR (by omega) hL hr, w64_nat (n := k) (by omega)]
    simp only [hkn, decide_true, cond_true, Option.bind_some, elimAll, List.length_map]
    by_cases h60 : (elim k R).length ≤ 60
    · have : ¬ (60 : Int) < ((elim k R).length : Int) := by omega
      simp only [this, decide_false, cond_false, h60, if_true]
      exact ih (k + 1) _ (by omega) (elim_ok hR) (by omega)
    · have : (60 : Int) < ((elim k R).length : Int) := by omega
      simp [this, h60]
end Go.Proofs.Ytpoekafccggehag.X
namespace Go.Proofs.Ytpoekafccggehag.X
open Go Go.Proofs.Ytpoekafccggehag.TM
open Go.Proofs.Ytpoekafccggehag.TM.Dat (size okd inr)
def startR (rows : List (Int × List Int)) (tc : Int) (tcs : List Int) : List RowI := initR rows.length 0 rows ++ [(tc, tcs, List.replicate rows.length 0, 1)]
theorem unit_S {L k : Nat} (h : k < L) : (List.replicate (L + 1) (0 : Int)).set k 1 = unitR L k ++ [0] := by
  unfold unitR
  rw [List.replicate_succ', List.set_append_left _ _ (by simpa using h)]
theorem last_S (L : Nat) : (List.replicate (L + 1) (0 : Int)).set L 1 = List.replicate L 0 ++ [1] := by
  rw [List.replicate_succ', List.set_append_right _ _ (by simp)]
  simp
theorem impl_l0_find {n : Int} {rows : List (Int × List Int)} {c : Int} {cs : List Int} (hr : rows.length ≤ 1000) (tc : Int) (tcs : List Int) :
    impl_FindFarkas_l0 rows rows.length 0 n rows c cs 0 [] tc tcs [] = impl_FindFarkas_l1 (startR rows tc tcs) 0 n rows c cs 0 [] := by
  have := loopD rows (fun k s => ∀ acc : List RowI, acc.length = k → impl_FindFarkas_l0 rows rows.length (k : Int) n rows c cs 0 [] tc tcs acc = impl_FindFarkas_l1 (acc ++ initR rows.length k s ++ [(tc, tcs, List.replicate rows.length 0, 1)]) 0 n rows c cs 0 [])
    (fun acc ha => by
      rw [impl_FindFarkas_l0_eq]
      simp only [Int.lt_irrefl, decide_false, cond_false, initR, List.append_nil]
      rw [rep_of (by omega), app_of (by simp; omega)]) (fun k r suf hd hx hk ih acc ha => by
      have hu : (List.replicate rows.length (0 : Int))[k]? = some 0 := by simp [hk]
      rw [impl_FindFarkas_l0_eq, at_of hx, rep_of (by omega), at_of hu, atN_of hu, atN_of hu, app_of (by simp; omega), w64_nat (n := k) (by omega), ih _ (by simp [ha])]
      simp only [hk, Int.ofNat_lt, decide_true, cond_true, initR, List.append_assoc, List.singleton_append]
      rfl)
  exact this [] rfl
theorem spec_l0_find {n : Int} {rows : List (Int × List Int)} {c : Int} {cs : List Int} (hr : rows.length ≤ 1000) (hl : cs.length ≤ 1073741824) :
    spec_FindFarkas_l0 rows.length 0 n rows c cs 0 [] [] = cond (addS (constL (-1) n).1 (constL (-1) n).2 (-1) c cs).2.2 (spec_FindFarkas_l1 rows.length ((startR rows (addS (constL (-1) n).1 (constL (-1) n).2 (-1) c cs).1 (addS (constL (-1) n).1 (constL (-1) n).2 (-1) c cs).2.1).map toS) 0 n rows c cs 0 []) (some (0, [], false)) := by
  generalize hT : addS (constL (-1) n).1 (constL (-1) n).2 (-1) c cs = T
  have hc := constL_len (-1) n
  have := loopD rows (fun k s => ∀ acc : List RowI, acc.length = k → spec_FindFarkas_l0 rows.length (k : Int) n rows c cs 0 [] (acc.map toS) = cond T.2.2 (spec_FindFarkas_l1 rows.length ((acc ++ initR rows.length k s ++ [(T.1, T.2.1, List.replicate rows.length 0, 1)]).map toS) 0 n rows c cs 0 []) (some (0, [], false)))
    (fun acc ha => by
      have hu : (List.replicate (rows.length + 1) (0 : Int))[rows.length]? = some 0 := by simp
      rw [spec_FindFarkas_l0_eq, spec_ConstLin_ok, Option.bind_some, spec_AddScaled_ok (by omega) (by omega), hT]
      simp only [Int.lt_irrefl, decide_false, cond_false, Option.bind_some, initR, List.append_nil]
      cases T.2.2
      · rfl
      · simp only [Bool.not_true, cond_false, cond_true]
        rw [w64_nat (n := rows.length) (by omega), rep_of (by omega), at_of hu, atN_of hu, atN_of hu, last_S, app_of (by rw [List.length_map, ha, List.length_singleton]; omega), List.map_append, List.map_singleton]
        simp only [toS]) (fun k r suf hd hx hk ih acc ha => by
      have hu : (List.replicate (rows.length + 1) (0 : Int))[k]? = some 0 := by rw [List.getElem?_replicate, if_pos (by omega)]
      rw [spec_FindFarkas_l0_eq, w64_nat (n := rows.length) (by omega), rep_of (by omega), at_of hu, atN_of hu, atN_of hu, at_of hx, app_of (by rw [List.length_map, ha, List.length_singleton]; omega), w64_nat (n := k) (by omega), unit_S hk]
      have := ih (acc ++ [(r.1, r.2, unitR rows.length k, 0)]) (by simp [ha])
      simp only [hk, Int.ofNat_lt, decide_true, cond_true, initR]
      rw [List.map_append] at this
      simp only [List.map_cons, List.map_nil, toS] at this
      rw [this]
      simp only [List.append_assoc, List.singleton_append, List.map_append, List.map_cons, List.map_nil, toS, List.cons_append, List.nil_append])
  exact this [] rfl
noncomputable def findF (n : Int) (rows : List (Int × List Int)) (c : Int) (cs : List Int) : Int × List Int × Bool :=
  cond (validS n rows && validL c cs n) (cond (addS (constL (-1) n).1 (constL (-1) n).2 (-1) c cs).2.2 (search n.toNat rows c cs (startR rows (addS (constL (-1) n).1 (constL (-1) n).2 (-1) c cs).1 (addS (constL (-1) n).1 (constL (-1) n).2 (-1) c cs).2.1)) (0, [], false)) (0, [], false)
theorem startR_ok {n : Nat} {rows : List (Int × List Int)} {tc : Int} {tcs : List Int} (h : ∀ r ∈ rows, validL r.1 r.2 n = true) (ht : validL tc tcs n = true) : ∀ r ∈ startR rows tc tcs, okRow n rows.length r := by
  have key : ∀ (rs : List (Int × List Int)) (i : Nat), (∀ r ∈ rs, validL r.1 r.2 n = true) → ∀ r ∈ initR rows.length i rs, okRow n rows.length r := by
    intro rs
    induction rs with
    | nil => intro i _ r hr; simp [initR] at hr
    | cons x rs ih =>
      intro i h r hr
      simp only [initR, List.mem_cons] at hr
      rcases hr with rfl | hr
      · exact ⟨h x (by simp), by simp [unitR]⟩
      · exact ih (i + 1) (fun r hr => h r (by simp [hr])) r hr
  intro r hr
  simp only [startR, List.mem_append, List.mem_singleton] at hr
  rcases hr with hr | rfl
  · exact key rows 0 h r hr
  · exact ⟨ht, by simp⟩
theorem target_ok {n : Int} {c : Int} {cs : List Int} (h0 : 0 ≤ n) (h8 : n ≤ 8) (h : (addS (constL (-1) n).1 (constL (-1) n).2 (-1) c cs).2.2 = true) : validL (addS (constL (-1) n).1 (constL (-1) n).2 (-1) c cs).1 (addS (constL (-1) n).1 (constL (-1) n).2 (-1) c cs).2.1 n = true := by
  obtain ⟨_, a2, _⟩ := addS_ok h
  have e : ((constL (-1) n).2.length : Int) = n := by
    unfold constL
    simp [h0, h8, show inC (-1) = true from rfl]
    omega
  rw [e] at a2
  exact a2
theorem FindFarkas_ok {n : Int} {rows : List (Int × List Int)} {c : Int} {cs : List Int} (h : lensOK rows) (hl : cs.length ≤ 1073741824) :
    impl_FindFarkas n rows c cs = some (findF n rows c cs) ∧ spec_FindFarkas n rows c cs = some (findF n rows c cs) := by
  unfold findF
  rw [impl_FindFarkas_eq, spec_FindFarkas_eq, impl_IsValidSystem_ok h, spec_IsValidSystem_ok h, impl_IsValidLin_ok (by omega), spec_IsValidLin_ok (by omega), impl_ConstLin_ok]
  simp only [Option.bind_some]
  have hc := constL_len (-1) n
  rw [impl_AddScaled_ok (by omega) (by omega)]
  cases hs : validS n rows
  · exact ⟨rfl, rfl⟩
  cases hv : validL c cs n
  · exact ⟨rfl, rfl⟩
  have hs2 := hs
  unfold validS at hs2
  simp only [Bool.and_eq_true, decide_eq_true_eq, List.all_eq_true] at hs2
  obtain ⟨⟨⟨n0, n8⟩, r20⟩, hrows⟩ := hs2
  obtain ⟨m, rfl⟩ := Int.eq_ofNat_of_zero_le n0
  simp only [Bool.not_true, Bool.not_false, cond_true, cond_false, Option.bind_some, Bool.and_self]
  rw [impl_l0_find (by omega), spec_l0_find (by omega) hl]
  cases ht : (addS (constL (-1) (m : Int)).1 (constL (-1) (m : Int)).2 (-1) c cs).2.2
  · exact ⟨rfl, rfl⟩
  have hR := startR_ok (n := m) hrows (target_ok n0 n8 ht)
  have hlen : (startR rows (addS (constL (-1) (m : Int)).1 (constL (-1) (m : Int)).2 (-1) c cs).1 (addS (constL (-1) (m : Int)).1 (constL (-1) (m : Int)).2 (-1) c cs).2.1).length ≤ 100 := by
    unfold startR
    rw [List.length_append, initR_len]
    simp; omega
  simp only [Bool.not_true, cond_false, cond_true]
  have i1 := impl_l1_find (c := c) (cs := cs) h hl (show rows.length < 1000 by omega) (show m ≤ 8 by omega) m 0 _ (by omega) hR hlen
  have s1 := spec_l1_find (c := c) (cs := cs) h hl (show rows.length < 1000 by omega) (show m ≤ 8 by omega) m 0 _ (by omega) hR hlen
  exact ⟨i1, s1⟩
theorem Entails_ok {n : Int} {rows : List (Int × List Int)} {c : Int} {cs : List Int} (h : lensOK rows) (hl : cs.length ≤ 1073741824) :
    impl_Entails n rows c cs = some (findF n rows c cs).2.2 ∧ spec_Entails n rows c cs = some (findF n rows c cs).2.2 := by
  rw [impl_Entails_eq, spec_Entails_eq, (FindFarkas_ok h hl).1, (FindFarkas_ok h hl).2]
  exact ⟨rfl, rfl⟩
theorem inC_neg (x : Int) : inC (-x) = inC x := by
  rw [Bool.eq_iff_iff, inC_iff, inC_iff]
  omega
theorem okS_neg {x y : Int} (hx : inC x = true) (hy : inC y = true) : okS x (-1) y = inC (x - y) := by
  unfold okS
  have e : mulL (-1) y = (-y, true) := by
    unfold mulL
    rw [show (-1 : Int) * y = -y by omega, inC_neg y, hy, show inC (-1) = true from rfl]
    rfl
  rw [e]
  unfold addL
  rw [hx, inC_neg, hy, show x + -y = x - y by omega]
  cases inC (x - y) <;> rfl
theorem okS_symm {x y : Int} (hx : inC x = true) (hy : inC y = true) : okS x (-1) y = okS y (-1) x := by
  rw [okS_neg hx hy, okS_neg hy hx, show y - x = -(x - y) by omega, inC_neg]
theorem okSs_symm : ∀ (xs ys : List Int), (∀ x ∈ xs, inC x = true) → (∀ y ∈ ys, inC y = true) → okSs (-1) xs ys = okSs (-1) ys xs
  | [], [], _, _ => rfl
  | [], _ :: _, _, _ => rfl
  | _ :: _, [], _, _ => rfl
  | x :: xs, y :: ys, h1, h2 => by
    simp only [okSs]
    rw [okS_symm (h1 x (by simp)) (h2 y (by simp)), okSs_symm xs ys (fun z hz => h1 z (by simp [hz])) fun z hz => h2 z (by simp [hz])]
theorem addS_symm (c : Int) (cs : List Int) (d : Int) (ds : List Int) : (addS c cs (-1) d ds).2.2 = (addS d ds (-1) c cs).2.2 := by
  have key : ∀ (c : Int) (cs : List Int) (d : Int) (ds : List Int), (addS c cs (-1) d ds).2.2 = true → (addS d ds (-1) c cs).2.2 = true := by
    intro c cs d ds h
    obtain ⟨_, _, h3, h4, h5⟩ := addS_ok h
    obtain ⟨v1, v2, v3, v4⟩ := validL_iff.1 h4
    obtain ⟨w1, w2, w3, w4⟩ := validL_iff.1 h5
    have hl : (ds.length : Int) = (cs.length : Int) := w2
    unfold addS at h ⊢
    rw [h4, h5, okS_symm v3 w3, okSs_symm cs ds v4 w4] at h
    rw [hl, h4, h5]
    cases hh : (okS d (-1) c && okSs (-1) ds cs)
    · simp only [Bool.and_assoc, hh] at h
      simp [inC] at h
    · simp only [Bool.and_assoc, hh]
      rfl
  cases h1 : (addS c cs (-1) d ds).2.2
  · cases h2 : (addS d ds (-1) c cs).2.2
    · rfl
    · rw [key _ _ _ _ h2] at h1; cases h1
  · exact (key _ _ _ _ h1).symm
end Go.Proofs.Ytpoekafccggehag.X
namespace Go.Proofs.Ytpoekafccggehag.X
open Go Go.Proofs.Ytpoekafccggehag.TM
open Go.Proofs.Ytpoekafccggehag.TM.Dat (size okd inr)
theorem and255 (a : Int) : 0 ≤ and_ .i64 a 255 ∧ and_ .i64 a 255 ≤ 255 := by
  unfold and_
  have h : (BitVec.ofInt IntKind.i64.bits a &&& BitVec.ofInt IntKind.i64.bits 255).toNat ≤ 255 := by
    rw [BitVec.toNat_and]
    exact Nat.le_trans Nat.and_le_right (by decide)
  rw [show IntKind.i64.wrap ((BitVec.ofInt IntKind.i64.bits a &&& BitVec.ofInt IntKind.i64.bits 255).toNat : Int) = _ from w64_id (by omega) (by omega)]
  omega
def Dr {α : Type} (c : List Int) (o : Option (List Int × Int × Int × α)) (P : α → Prop) : Prop := ∃ (p s : Int) (v : α), o = some (c, p, s, v) ∧ 0 ≤ p ∧ p ≤ c.length ∧ P v
def At (c : List Int) (p : Int) : Prop := (0 ≤ p ∧ p ≤ c.length) ∧ c.length ≤ 1048576
theorem Byte_ok {c : List Int} {p s : Int} (h : At c p) : Dr c (spec_l1Byte c p s) (fun v => 0 ≤ v ∧ v ≤ 255) := by
  obtain ⟨⟨h0, h1⟩, h2⟩ := h
  rw [spec_l1Byte_eq]
  by_cases hp : p < c.length
  · obtain ⟨k, rfl⟩ := Int.eq_ofNat_of_zero_le h0
    have hk : k < c.length := by omega
    simp only [hp, decide_true, cond_true]
    rw [at_of (List.getElem?_eq_getElem hk), w64_nat (n := k) (by omega)]
    exact ⟨_, _, _, rfl, by omega, by omega, and255 _⟩
  · simp only [hp, decide_false, cond_false]
    exact ⟨_, _, _, rfl, h0, h1, and255 _⟩
theorem Below_ok {c : List Int} {p s m : Int} (h : At c p) (hm : m ≤ 256) : Dr c (spec_l1Below c p s m) (fun v => 0 ≤ v ∧ (v < m ∨ v = 0)) := by
  rw [spec_l1Below_eq]
  by_cases h0 : m ≤ 0
  · simp only [h0, decide_true, cond_true]
    exact ⟨_, _, _, rfl, h.1.1, h.1.2, by omega, .inr rfl⟩
  · obtain ⟨p', s', v, e, q1, q2, q3⟩ := Byte_ok (s := s) h
    have hz : (m == 0) = false := by simp; omega
    simp only [h0, hm, decide_true, decide_false, cond_true, cond_false, e, Option.bind_some, hz]
    refine ⟨_, _, _, rfl, q1, q2, ?_⟩
    rw [Int.tmod_eq_emod_of_nonneg q3.1]
    have := Int.emod_nonneg v (show m ≠ 0 by omega)
    have := Int.emod_lt_of_pos v (show 0 < m by omega)
    omega
theorem Once_ok {c : List Int} {p s m : Int} (h : At c p) (hm : m ≤ 256) : Dr c (spec_l1Once c p s m) (fun _ => True) := by
  obtain ⟨p', s', v, e, q1, q2, _⟩ := Below_ok (s := s) h hm
  rw [spec_l1Once_eq, e]
  exact ⟨_, _, _, rfl, q1, q2, trivial⟩
theorem Pick_ok {c : List Int} {p s : Int} {l : List Int} (h : At c p) (hl : l.length ≤ 256) (hn : l ≠ []) : Dr c (spec_l1PickInt c p s l) (fun v => v ∈ l) := by
  have hn : 0 < l.length := List.length_pos_iff.2 hn
  obtain ⟨p', s', v, e, q1, q2, q3, q4⟩ := Below_ok (s := s) (m := (l.length : Int)) h (by omega)
  obtain ⟨k, rfl⟩ := Int.eq_ofNat_of_zero_le q3
  have hk : k < l.length := by omega
  rw [spec_l1PickInt_eq, e, Option.bind_some]
  simp only
  rw [at_of (List.getElem?_eq_getElem hk)]
  exact ⟨_, _, _, rfl, q1, q2, List.getElem_mem hk⟩
theorem Small_ok {c : List Int} {p s : Int} (h : At c p) : Dr c (spec_l4Small c p s) (fun _ => True) := by
  obtain ⟨p', s', v, e, q1, q2, _⟩ := Pick_ok (s := s) (l := [0, 0, 1, -1, 1, 2, -2, 3]) h (by simp) (by simp)
  rw [spec_l4Small_eq, e]
  exact ⟨_, _, _, rfl, q1, q2, trivial⟩
theorem Draw4_l0 {c : List Int} (hc : c.length ≤ 1048576) (n : Nat) (hn : n ≤ 1000) (a b : Int) : ∀ (m k : Nat) (p s : Int) (l : List Int), k + m = n → (0 ≤ p ∧ p ≤ c.length) → l.length = n → Dr c (spec_l4Draw_l0 n k c p s 0 [] a l) (fun v => v.2.length = n) := by
  intro m
  induction m with
  | zero =>
    intro k p s l hk hp hl
    have : k = n := by omega
    subst this
    rw [spec_l4Draw_l0_eq]
    simp only [Int.lt_irrefl, decide_false, cond_false]
    exact ⟨_, _, _, rfl, hp.1, hp.2, hl⟩
  | succ m ih =>
    intro k p s l hk hp hl
    have hkn : (k : Int) < (n : Int) := by omega
    have hkl : k < l.length := by omega
    obtain ⟨p', s', v, e, q1, q2, _⟩ := Small_ok (s := s) (c := c) (p := p) ⟨hp, hc⟩
    have hg := List.getElem?_eq_getElem hkl
    rw [spec_l4Draw_l0_eq]
    simp only [hkn, decide_true, cond_true, e, Option.bind_some]
    rw [at_of hg, atN_of hg, atN_of hg, w64_nat (n := k) (by omega)]
    exact ih (k + 1) p' s' _ (by omega) ⟨q1, q2⟩ (by simpa using hl)
theorem Draw4_ok {c : List Int} {p s : Int} {n : Nat} (h : At c p) (hn : n ≤ 1000) : Dr c (spec_l4Draw c p s n) (fun v => v.2.length = n) := by
  obtain ⟨p', s', v, e, q1, q2, _⟩ := Below_ok (s := s) (m := 9) h (by omega)
  rw [spec_l4Draw_eq, e, Option.bind_some, rep_of (by omega)]
  exact Draw4_l0 h.2 n hn _ 0 n 0 p' s' _ (by omega) ⟨q1, q2⟩ (by simp)
theorem Draw6_l0 {c : List Int} (hc : c.length ≤ 1048576) (n : Nat) (hn : n ≤ 1000) (j : Int) (hj : j ≤ 1000) : ∀ (m k : Nat) (p s : Int) (l : List (Int × List Int)), j ≤ k + m → (0 ≤ p ∧ p ≤ c.length) → l.length = k → k ≤ 1000 → (∀ r ∈ l, r.2.length = n) → Dr c (spec_l6Draw_l0 n j k c p s 0 [] n l) (fun v => v.1 = n ∧ v.2.length ≤ 1000 ∧ ∀ r ∈ v.2, r.2.length = n) := by
  intro m
  induction m with
  | zero =>
    intro k p s l hk hp hl hk2 hr
    have : ¬ ((k : Int) < j) := by omega
    rw [spec_l6Draw_l0_eq]
    simp only [this, decide_false, cond_false]
    exact ⟨_, _, _, rfl, hp.1, hp.2, rfl, by simp only; omega, hr⟩
  | succ m ih =>
    intro k p s l hk hp hl hk2 hr
    rw [spec_l6Draw_l0_eq]
    by_cases hkj : (k : Int) < j
    · obtain ⟨p', s', v, e, q1, q2, q3⟩ := Draw4_ok (s := s) (c := c) (p := p) (n := n) ⟨hp, hc⟩ hn
      simp only [hkj, decide_true, cond_true, e, Option.bind_some]
      rw [app_of (by simp; omega), w64_nat (n := k) (by omega)]
      refine ih (k + 1) p' s' _ (by omega) ⟨q1, q2⟩ (by simp [hl]) (by omega) fun r hr2 => ?_
      rcases List.mem_append.1 hr2 with h | h
      · exact hr r h
      · simp only [List.mem_singleton] at h
        subst h
        exact q3
    · simp only [hkj, decide_false, cond_false]
      exact ⟨_, _, _, rfl, hp.1, hp.2, rfl, by simp only; omega, hr⟩
theorem Draw6_ok {c : List Int} {p s : Int} {n : Nat} (h : At c p) (hn : n ≤ 1000) : Dr c (spec_l6Draw c p s n) (fun v => v.1 = n ∧ v.2.length ≤ 1000 ∧ ∀ r ∈ v.2, r.2.length = n) := by
  obtain ⟨p', s', v, e, q1, q2, q3, q4⟩ := Below_ok (s := s) (m := 5) h (by omega)
  rw [spec_l6Draw_eq, e, Option.bind_some]
  exact Draw6_l0 h.2 n hn v (by omega) 5 0 p' s' [] (by omega) ⟨q1, q2⟩ rfl (by omega) (fun r hr => by simp at hr)
theorem Max_ok (a b : Int) : spec_l1Max a b = some (if b < a then a else b) := by
  rw [spec_l1Max_eq]
  by_cases h : b < a <;> simp [h]
theorem Min_ok (a b : Int) : spec_l1Min a b = some (if a < b then a else b) := by
  rw [spec_l1Min_eq]
  by_cases h : a < b <;> simp [h]
theorem New_ok (c : List Int) (hc : c.length ≤ 1048576) : ∃ s : Int, spec_l1New c = some (c, 0, s) := by
  rw [spec_l1New_eq]
  have := loopD c (fun k _ => ∀ a : Int, ∃ s : Int, spec_l1New_l0 c a (k : Int) = some (c, 0, s)) (fun a => ⟨a, by rw [spec_l1New_l0_eq]; simp⟩) (fun k x suf hd hx hk ih a => by
    rw [spec_l1New_l0_eq]
    by_cases h4 : (k : Int) < 4000
    · simp only [hk, Int.ofNat_lt, decide_true, cond_true, h4]
      rw [at_of hx, w64_nat (n := k) (by omega)]
      exact ih _
    · simp only [hk, Int.ofNat_lt, decide_true, cond_true, h4, decide_false, cond_false]
      exact ⟨_, rfl⟩)
  exact this _
end Go.Proofs.Ytpoekafccggehag.X
namespace Go.Proofs.Ytpoekafccggehag.X
open Go Go.Proofs.Ytpoekafccggehag.TM
open Go.Proofs.Ytpoekafccggehag.TM.Dat (size okd inr)
def dot : List Int → List Int → Int
  | x :: xs, v :: vs => x * v + dot xs vs
  | _, _ => 0
def ev (c : Int) (cs v : List Int) : Int := c + dot cs v
theorem sumS_eq {x s y : Int} (h : okS x s y = true) : sumS x s y = x + s * y := by
  unfold okS at h
  unfold sumS
  simp only [Bool.and_eq_true] at h
  have h1 : (mulL s y).1 = s * y := by
    have h0 := h.1
    unfold mulL at h0 ⊢
    cases hc : (inC s && (inC y && inC (s * y)))
    · rw [hc] at h0; cases h0
    · rfl
  rw [(addL_in h.2).1, h1]
theorem dot_sum (s : Int) : ∀ (xs ys v : List Int), xs.length = ys.length → okSs s xs ys = true → dot (sumSs s xs ys) v = dot xs v + s * dot ys v
  | [], [], v, _, _ => by simp [dot, sumSs]
  | x :: xs, y :: ys, v, hl, h => by
    simp only [okSs, Bool.and_eq_true] at h
    cases v with
    | nil => simp [dot]
    | cons a v =>
      simp only [sumSs, dot]
      rw [dot_sum s xs ys v (by simpa using hl) h.2, sumS_eq h.1, Int.add_mul, Int.mul_add, Int.mul_assoc]
      omega
  | [], _ :: _, _, h, _ => by simp at h
  | _ :: _, [], _, h, _ => by simp at h
theorem ev_addS {c : Int} {cs : List Int} {s d : Int} {ds v : List Int} (h : (addS c cs s d ds).2.2 = true) : ev (addS c cs s d ds).1 (addS c cs s d ds).2.1 v = ev c cs v + s * ev d ds v := by
  obtain ⟨_, _, _, h4, h5⟩ := addS_ok h
  obtain ⟨v1, v2, v3, v4⟩ := validL_iff.1 h4
  obtain ⟨w1, w2, w3, w4⟩ := validL_iff.1 h5
  unfold addS at h ⊢
  cases hc : (validL c cs cs.length && validL d ds cs.length && inC s && okS c s d && okSs s cs ds)
  · rw [hc] at h; cases h
  · simp only [Bool.and_eq_true] at hc
    simp only [cond_true]
    unfold ev
    rw [sumS_eq hc.1.2, dot_sum s cs ds v (by omega) hc.2, Int.mul_add]
    omega
theorem ev_combR {v : List Int} : ∀ (ms : List Int) (rs : List (Int × List Int)) (c : Int) (cs : List Int), (∀ r ∈ rs, 0 ≤ ev r.1 r.2 v) → (combR c cs ms rs).2.2 = true → ev c cs v ≤ ev (combR c cs ms rs).1 (combR c cs ms rs).2.1 v
  | [], _, c, cs, _, _ => by simp [combR]
  | _ :: _, [], c, cs, _, _ => by simp [combR]
  | m :: ms, r :: rs, c, cs, h, hok => by
    rw [combR] at hok ⊢
    cases hc : decide (0 ≤ m) && (addS c cs m r.1 r.2).2.2
    · rw [hc] at hok; cases hok
    · rw [hc] at hok
      simp only [Bool.and_eq_true, decide_eq_true_eq] at hc
      simp only [cond_true] at hok ⊢
      have h1 := ev_combR ms rs _ _ (fun r hr => h r (by simp [hr])) hok
      rw [ev_addS hc.2] at h1
      have h2 : 0 ≤ m * ev r.1 r.2 v := Int.mul_nonneg hc.1 (h r (by simp))
      omega
theorem dot_zeros (v : List Int) : ∀ (cs : List Int), (cs.all fun x => x == 0) = true → dot cs v = 0 := by
  induction v with
  | nil => intro cs _; cases cs <;> simp [dot]
  | cons a v ih =>
    intro cs h
    cases cs with
    | nil => simp [dot]
    | cons x cs =>
      simp only [List.all_cons, Bool.and_eq_true, beq_iff_eq] at h
      simp only [dot]
      rw [ih cs h.2, h.1]
      simp
theorem chk_sound {n : Int} {rows : List (Int × List Int)} {c : Int} {cs : List Int} {sc : Int} {mult v : List Int} (h : chk n rows c cs sc mult = true) (hr : ∀ r ∈ rows, 0 ≤ ev r.1 r.2 v) : 0 ≤ ev c cs v := by
  unfold chk at h
  simp only [Bool.and_eq_true, decide_eq_true_eq] at h
  obtain ⟨h1, h2, ⟨h3, h4⟩, h5, h6, h7, h8, h9⟩ := h
  have hn := (validL_iff.1 h2).1
  have hsum : 0 ≤ ev (comb n rows mult).1 (comb n rows mult).2.1 v := by
    unfold comb at h5 ⊢
    cases hc : validS n rows && decide (mult.length = rows.length)
    · rw [hc] at h5; cases h5
    · rw [hc] at h5
      simp only [cond_true] at h5 ⊢
      have := ev_combR mult rows _ _ hr h5
      have h0 : ev (constL 0 n).1 (constL 0 n).2 v = 0 := by
        have e : constL 0 n = (0, List.replicate n.toNat 0) := by
          unfold constL
          simp [hn.1, hn.2, show inC 0 = true from rfl]
        rw [e]
        unfold ev
        rw [dot_zeros v _ (by simp)]
        rfl
      omega
  have hplus : ev (plusL c cs 1).1 (plusL c cs 1).2.1 v = ev c cs v + 1 := by
    unfold plusL at h6 ⊢
    cases hc : (addL c 1).2 && validL c cs cs.length
    · rw [hc] at h6; cases h6
    · simp only [Bool.and_eq_true] at hc
      simp only [cond_true]
      unfold ev
      rw [(addL_in hc.1).1]
      omega
  have hx := ev_addS (v := v) h7
  rw [hplus] at hx
  unfold ev at hx
  rw [dot_zeros v _ h8] at hx
  have hx2 : ev (comb n rows mult).1 (comb n rows mult).2.1 v + -sc * (ev c cs v + 1) < 0 := by
    unfold ev
    omega
  by_cases hneg : ev c cs v < 0
  · have h10 : 0 ≤ -sc * (ev c cs v + 1) := by
      have : 0 ≤ sc * (-(ev c cs v + 1)) := Int.mul_nonneg h3 (by omega)
      rw [Int.mul_neg] at this
      rw [Int.neg_mul]
      exact this
    omega
  · omega
theorem findNeg_sound {n : Int} {rows : List (Int × List Int)} {c : Int} {cs : List Int} : ∀ {R : List RowI}, (findNeg n rows c cs R).2.2 = true → chk n rows c cs (findNeg n rows c cs R).1 (findNeg n rows c cs R).2.1 = true
  | [], h => by cases h
  | r :: R, h => by
    rw [findNeg] at h ⊢
    split at h
    · rename_i h0
      rw [if_pos h0]
      cases hc : chk n rows c cs r.2.2.2 r.2.2.1
      · rw [hc] at h; cases h
      · exact hc
    · rename_i h0
      rw [if_neg h0]
      exact findNeg_sound h
theorem findF_sound {n : Int} {rows : List (Int × List Int)} {c : Int} {cs v : List Int} (h : (findF n rows c cs).2.2 = true) (hr : ∀ r ∈ rows, 0 ≤ ev r.1 r.2 v) : 0 ≤ ev c cs v := by
  unfold findF at h
  cases hs : validS n rows && validL c cs n
  · rw [hs] at h; cases h
  rw [hs] at h
  cases ht : (addS (constL (-1) n).1 (constL (-1) n).2 (-1) c cs).2.2
  · rw [ht] at h; cases h
  rw [ht] at h
  simp only [cond_true] at h
  unfold search at h
  split at h
  · exact chk_sound (findNeg_sound h) hr
  · cases h
def small (v : List Int) : Prop := ∀ x ∈ v, -1000 ≤ x ∧ x ≤ 1000
theorem mul_small {x a : Int} (hx : inC x = true) (ha : -1000 ≤ a ∧ a ≤ 1000) : -1000000000000 ≤ x * a ∧ x * a ≤ 1000000000000 := by
  have hx := inC_iff.1 hx
  have hm : (x * a).natAbs ≤ 1000000000 * 1000 := by
    rw [Int.natAbs_mul]
    exact Nat.mul_le_mul (by omega) (by omega)
  omega
end Go.Proofs.Ytpoekafccggehag.X
namespace Go.Proofs.Ytpoekafccggehag.X
open Go Go.Proofs.Ytpoekafccggehag.TM
open Go.Proofs.Ytpoekafccggehag.TM.Dat (size okd inr)
theorem Fits_ok {x : Int} (h : -1000 ≤ x ∧ x ≤ 1000) : spec_Fits x = some true := by
  rw [spec_Fits_eq, l1In_ok]
  have h1 : -1000000 ≤ x := by omega
  have h2 : x ≤ 1000000 := by omega
  simp [h1, h2]
theorem EvalLin_ok {c : Int} {cs v : List Int} (hl : cs.length ≤ 1000) (hv : small v) (hvl : v.length ≤ 1000) : spec_EvalLin c cs v = some (cond (validL c cs v.length) (ev c cs v, true) (0, false)) := by
  rw [spec_EvalLin_eq, spec_IsValidLin_ok (by omega), Option.bind_some]
  cases hc : validL c cs v.length
  · rfl
  obtain ⟨v1, v2, v3, v4⟩ := validL_iff.1 hc
  have hcc := inC_iff.1 v3
  simp only [Bool.not_true, cond_false, cond_true]
  have := loopD v (fun k s => ∀ acc : Int, -1000000000 - 1000000000000 * k ≤ acc → acc ≤ 1000000000 + 1000000000000 * k → spec_EvalLin_l0 v acc (k : Int) c cs = some (acc + dot (cs.drop k) s, true))
    (fun acc _ _ => by
      rw [spec_EvalLin_l0_eq]
      have : cs.drop v.length = [] := List.drop_eq_nil_of_le (by omega)
      rw [this]
      simp [dot]) (fun k a suf hd ha hk ih acc h1 h2 => by
      have hb : k < cs.length := by omega
      have hx := List.getElem?_eq_getElem hb
      have hs := hv a (List.mem_of_getElem? ha)
      have hm := mul_small (v4 _ (List.getElem_mem hb)) hs
      rw [spec_EvalLin_l0_eq, at_of ha, Fits_ok hs]
      simp only [hk, Int.ofNat_lt, decide_true, cond_true, Option.bind_some, Bool.not_true, cond_false]
      rw [at_of hx, at_of ha, w64_id (n := cs[k] * a) (by omega) (by omega), w64_id (n := acc + cs[k] * a) (by omega) (by omega), w64_nat (n := k) (by omega), ih _ (by omega) (by omega), List.drop_eq_getElem_cons hb]
      simp only [dot]
      rw [Int.add_assoc])
  have h := this c (by omega) (by omega)
  simp only [List.drop_zero] at h
  exact h
theorem Satisfies_ok {n : Int} {rows : List (Int × List Int)} {v : List Int} (h : lensOK rows) (hr : ∀ r ∈ rows, r.2.length ≤ 1000) (hv : small v) (hvl : v.length ≤ 1000) : ∃ b, spec_Satisfies n rows v = some b ∧ (b = true → ∀ r ∈ rows, 0 ≤ ev r.1 r.2 v) := by
  rw [spec_Satisfies_eq]
  have l1 : validS n rows = true → (v.length : Int) = n → ∃ b, spec_Satisfies_l1 v 0 n rows = some b ∧ (b = true → ∀ r ∈ rows, 0 ≤ ev r.1 r.2 v) := by
    intro hs hn
    unfold validS at hs
    simp only [Bool.and_eq_true, decide_eq_true_eq, List.all_eq_true] at hs
    have := loopD rows (fun k s => ∃ b, spec_Satisfies_l1 v (k : Int) n rows = some b ∧ (b = true → ∀ r ∈ s, 0 ≤ ev r.1 r.2 v))
      ⟨true, by rw [spec_Satisfies_l1_eq]; simp, fun _ r hr => by simp at hr⟩ (fun k r suf hd hx hk ih => by
        obtain ⟨b, e1, e2⟩ := ih
        have hm := List.mem_of_getElem? hx
        have h1 := h.1
        rw [spec_Satisfies_l1_eq, at_of hx, EvalLin_ok (hr r hm) hv hvl, hn, hs.2 r hm, w64_nat (n := k) (by omega)]
        simp only [hk, Int.ofNat_lt, decide_true, cond_true, Option.bind_some]
        by_cases h0 : ev r.1 r.2 v < 0
        · simp only [h0, decide_true, cond_true]
          exact ⟨false, rfl, fun h => by cases h⟩
        · simp only [h0, decide_false, cond_false]
          refine ⟨b, e1, fun hb r' hr' => ?_⟩
          rcases List.mem_cons.1 hr' with rfl | hr'
          · omega
          · exact e2 hb r' hr')
    exact this
  have := loopD v (fun k _ => ∃ b, spec_Satisfies_l0 v (k : Int) n rows = some b ∧ (b = true → ∀ r ∈ rows, 0 ≤ ev r.1 r.2 v))
    (by
      rw [spec_Satisfies_l0_eq, spec_IsValidSystem_ok h]
      simp only [Int.lt_irrefl, decide_false, cond_false, Option.bind_some]
      cases hs : validS n rows
      · exact ⟨false, rfl, fun h => by cases h⟩
      · by_cases hn : (v.length : Int) = n
        · have : ((v.length : Int) == n) = true := by simp [hn]
          simp only [this, Bool.not_true, Bool.not_false, cond_true, cond_false]
          exact l1 hs hn
        · have : ((v.length : Int) == n) = false := by simp [hn]
          simp only [this, Bool.not_true, Bool.not_false, cond_true]
          exact ⟨false, rfl, fun h => by cases h⟩) (fun k a suf hd ha hk ih => by
      rw [spec_Satisfies_l0_eq, at_of ha, Fits_ok (hv a (List.mem_of_getElem? ha)), w64_nat (n := k) (by omega)]
      simp only [hk, Int.ofNat_lt, decide_true, cond_true, Option.bind_some, Bool.not_true, cond_false]
      exact ih)
  exact this
theorem Any3_ok {c : List Int} {p s : Int} (h : At c p) : Dr c (spec_l3Any c p s) (fun _ => True) := by
  obtain ⟨p', s', v, e, q1, q2, _⟩ := Pick_ok (s := s) (l := [0, 1, -1, 2, 5, -6, 12, 1000000, -1000001, 1000000000, -1000000000, 1000000001, 40000, 9223372036854775807, -9223372036854775808]) h (by simp) (by simp)
  rw [spec_l3Any_eq, e]
  exact ⟨_, _, _, rfl, q1, q2, trivial⟩
theorem Bent4_ok {c : List Int} {p s : Int} (h : At c p) : Dr c (spec_l4Bent c p s) (fun v => v.2.length ≤ 100) := by
  obtain ⟨p1, s1, v1, e1, q1, q2, q3, q4⟩ := Below_ok (s := s) (m := 4) h (by omega)
  obtain ⟨n, rfl⟩ := Int.eq_ofNat_of_zero_le q3
  obtain ⟨p2, s2, ⟨c2, cs2⟩, e2, q5, q6, q7⟩ := Draw4_ok (s := s1) (c := c) (p := p1) (n := n) ⟨⟨q1, q2⟩, h.2⟩ (by omega)
  obtain ⟨p3, s3, v3, e3, q8, q9, _⟩ := Below_ok (s := s2) (m := 10) (c := c) (p := p2) ⟨⟨q5, q6⟩, h.2⟩ (by omega)
  obtain ⟨p4, s4, v4, e4, q10, q11, _⟩ := Any3_ok (s := s3) (c := c) (p := p3) ⟨⟨q8, q9⟩, h.2⟩
  simp only at q7
  rw [spec_l4Bent_eq]
  simp only [e1, Option.bind_some, e2, e3, e4]
  cases v3 == 0
  · cases v3 == 1
    · cases v3 == 2
      · exact ⟨_, _, _, rfl, q8, q9, by simp only; omega⟩
      · simp only [cond_true, cond_false]
        rw [show (9 : Int) = ((9 : Nat) : Int) from rfl, rep_of (by omega)]
        exact ⟨_, _, _, rfl, q8, q9, by simp⟩
    · simp only [cond_true, cond_false]
      rw [app_of (by simp; omega)]
      exact ⟨_, _, _, rfl, q10, q11, by simp; omega⟩
  · exact ⟨_, _, _, rfl, q10, q11, by simp only; omega⟩
def okSys (v : Int × List (Int × List Int)) : Prop := (-10 ≤ v.1 ∧ v.1 ≤ 100) ∧ v.2.length ≤ 2000 ∧ ∀ r ∈ v.2, r.2.length ≤ 1000
theorem Bent6_l0 {c : List Int} (p s n : Int) (hp : 0 ≤ p ∧ p ≤ c.length) (hn : -10 ≤ n ∧ n ≤ 100) : ∀ (m k : Nat) (l : List (Int × List Int)), k + m = 20 → l.length ≤ 1000 + k → (∀ r ∈ l, r.2.length ≤ 1000) → Dr c (spec_l6Bent_l0 k 0 [] n l c p s) okSys := by
  intro m
  induction m with
  | zero =>
    intro k l hk hl hr
    have : k = 20 := by omega
    subst this
    rw [spec_l6Bent_l0_eq]
    exact ⟨_, _, _, rfl, hp.1, hp.2, hn, by simp only; omega, hr⟩
  | succ m ih =>
    intro k l hk hl hr
    have hk2 : (k : Int) < 20 := by omega
    rw [spec_l6Bent_l0_eq, spec_ConstLin_ok]
    simp only [hk2, decide_true, cond_true, Option.bind_some]
    rw [app_of (by simp; omega), w64_nat (n := k) (by omega)]
    refine ih (k + 1) _ (by omega) (by simp; omega) fun r hr2 => ?_
    rcases List.mem_append.1 hr2 with h | h
    · exact hr r h
    · simp only [List.mem_singleton] at h
      subst h
      have := constL_len 1 n
      show (constL 1 n).2.length ≤ 1000
      omega
theorem Bent6_ok {c : List Int} {p s : Int} (h : At c p) : Dr c (spec_l6Bent c p s) okSys := by
  obtain ⟨p1, s1, v1, e1, q1, q2, q3, q4⟩ := Below_ok (s := s) (m := 4) h (by omega)
  obtain ⟨n, rfl⟩ := Int.eq_ofNat_of_zero_le q3
  obtain ⟨p2, s2, ⟨n2, rows⟩, e2, q5, q6, q7, q8, q9⟩ := Draw6_ok (s := s1) (c := c) (p := p1) (n := n) ⟨⟨q1, q2⟩, h.2⟩ (by omega)
  simp only at q7 q8 q9
  subst q7
  obtain ⟨p3, s3, v3, e3, q10, q11, _⟩ := Below_ok (s := s2) (m := 16) (c := c) (p := p2) ⟨⟨q5, q6⟩, h.2⟩ (by omega)
  have hn4 : n < 4 ∨ n = 0 := by omega
  have hrows : ∀ r ∈ rows, r.2.length ≤ 1000 := fun r hr => by rw [q9 r hr]; omega
  rw [spec_l6Bent_eq]
  simp only [e1, Option.bind_some, e2, e3]
  cases v3 == 0
  · cases v3 == 1
    · cases v3 == 2
      · exact ⟨_, _, _, rfl, q10, q11, ⟨by simp only; omega, by simp only; omega⟩, by simp only; omega, hrows⟩
      · exact Bent6_l0 p3 s3 (n : Int) ⟨q10, q11⟩ (by omega) 20 0 rows rfl (by omega) hrows
    · obtain ⟨p4, s4, ⟨c4, cs4⟩, e4, q12, q13, q14⟩ := Bent4_ok (s := s3) (c := c) (p := p3) ⟨⟨q10, q11⟩, h.2⟩
      simp only [cond_true, cond_false, e4, Option.bind_some]
      rw [app_of (by simp; omega)]
      refine ⟨_, _, _, rfl, q12, q13, ⟨by simp only; omega, by simp only; omega⟩, by simp; omega, fun r hr => ?_⟩
      rcases List.mem_append.1 hr with h | h
      · exact hrows r h
      · simp only [List.mem_singleton] at h
        subst h
        simp only at q14 ⊢
        omega
  · obtain ⟨p4, s4, v4, e4, q12, q13, q14⟩ := Pick_ok (s := s3) (l := [-1, 9, w64 ((n : Int) + 1)]) (c := c) (p := p3) ⟨⟨q10, q11⟩, h.2⟩ (by simp) (by simp)
    have hv4 : -10 ≤ v4 ∧ v4 ≤ 100 := by
      rw [w64_id (by omega) (by omega)] at q14
      simp only [List.mem_cons, List.not_mem_nil, or_false] at q14
      omega
    simp only [cond_true, e4, Option.bind_some]
    exact ⟨_, _, _, rfl, q12, q13, hv4, by simp only; omega, hrows⟩
theorem DrawCompare_ok {c : List Int} (hc : c.length ≤ 1048576) : ∃ (n : Int) (rows : List (Int × List Int)) (a : Int) (al : List Int) (b : Int) (bl : List Int), spec_DrawCompareBounds c = some (n, rows, a, al, b, bl) ∧ okSys (n, rows) ∧ al.length ≤ 1000 ∧ bl.length ≤ 1000 := by
  obtain ⟨s, e0⟩ := New_ok c hc
  obtain ⟨p1, s1, ⟨n, rows⟩, e1, q1, q2, q3⟩ := Bent6_ok (s := s) (c := c) (p := 0) ⟨by omega, hc⟩
  obtain ⟨j, hj, hj9⟩ : ∃ j : Nat, (if (if 0 < n then n else 0) < 9 then (if 0 < n then n else 0) else 9) = (j : Int) ∧ j ≤ 9 := by
    refine ⟨(if (if 0 < n then n else 0) < 9 then (if 0 < n then n else 0) else 9).toNat, ?_, ?_⟩
    · split <;> split <;> omega
    · split <;> split <;> omega
  obtain ⟨p2, s2, ⟨a, al⟩, e2, q4, q5, q6⟩ := Draw4_ok (s := s1) (c := c) (p := p1) (n := j) ⟨⟨q1, q2⟩, hc⟩ (by omega)
  obtain ⟨p3, s3, v3, e3, q7, q8, _⟩ := Once_ok (s := s2) (m := 3) (c := c) (p := p2) ⟨⟨q4, q5⟩, hc⟩ (by omega)
  simp only at q6
  have ec : spec_l4Copy a al = some (a, al) := by
    rw [spec_l4Copy_eq, app_of (by simp; omega)]
    rfl
  rw [spec_DrawCompareBounds_eq, e0, Option.bind_some]
  simp only [e1, Option.bind_some, Max_ok, Min_ok, hj, e2, e3, ec]
  cases v3
  · obtain ⟨p4, s4, ⟨b, bl⟩, e4, q9, q10, q11⟩ := Draw4_ok (s := s3) (c := c) (p := p3) (n := j) ⟨⟨q7, q8⟩, hc⟩ (by omega)
    simp only [cond_false, e4, Option.bind_some]
    simp only at q11
    exact ⟨_, _, _, _, _, _, rfl, q3, by omega, by omega⟩
  · obtain ⟨p4, s4, v4, e4, q9, q10, _⟩ := Below_ok (s := s3) (m := 3) (c := c) (p := p3) ⟨⟨q7, q8⟩, hc⟩ (by omega)
    simp only [cond_true, e4, Option.bind_some]
    exact ⟨_, _, _, _, _, _, rfl, q3, by omega, by omega⟩
theorem at0_ok (c : List Int) (hc : c.length ≤ 1048576) {k : Nat} (hk : k ≤ 1000) : ∃ x : Int, laws_at0 c (k : Int) = some x := by
  rw [laws_at0_eq]
  by_cases h : (k : Int) < (c.length : Int)
  · simp only [h, decide_true, cond_true]
    rw [at_of (List.getElem?_eq_getElem (show k < c.length by omega))]
    exact ⟨_, rfl⟩
  · simp only [h, decide_false, cond_false]
    exact ⟨_, rfl⟩
theorem mod13 (x : Int) : -1000 ≤ w64 (Int.tmod x 13 - 4) ∧ w64 (Int.tmod x 13 - 4) ≤ 1000 := by
  have h : (Int.tmod x 13).natAbs < 13 := by
    rw [Int.natAbs_tmod]
    exact Nat.mod_lt _ (by decide)
  rw [w64_id (by omega) (by omega)]
  omega
def says (how : Int) (x y : Int) : Prop := (how = 1 → x = y) ∧ (how = 2 → x ≤ y) ∧ (how = 3 → y ≤ x)
theorem Compared_l0 {c : List Int} (hc : c.length ≤ 1048576) {how n : Int} {rows : List (Int × List Int)} {a : Int} {al : List Int} {b : Int} {bl : List Int} (hS : okSys (n, rows)) (ha : al.length ≤ 1000) (hb : bl.length ≤ 1000)
    (hsay : ∀ v : List Int, small v → v.length ≤ 1000 → (∀ r ∈ rows, 0 ≤ ev r.1 r.2 v) → ∀ x y : Int, (x = (cond (validL a al v.length) (ev a al v, true) (0, false)).1) → (y = (cond (validL b bl v.length) (ev b bl v, true) (0, false)).1) → spec_Satisfies n rows v = some true → says how x y) :
    ∀ (m k : Nat), k + m = 6 → laws_FnCompared_l0 c how k n rows a al b bl = some true := by
  intro m
  induction m with
  | zero =>
    intro k hk
    have : k = 6 := by omega
    subst this
    rw [laws_FnCompared_l0_eq]
    rfl
  | succ m ih =>
    intro k hk
    have hk6 : (k : Int) < 6 := by omega
    have hlen : lensOK rows := ⟨by have := hS.2.1; simp only at this; omega, fun r hr => by have := hS.2.2 r hr; omega⟩
    have inner : ∀ (m2 i : Nat) (v : List Int), n ≤ i + m2 → i ≤ 200 → v.length = i → small v → laws_FnCompared_l1 c how k i how (!(how == 0)) n rows a al b bl v = some true := by
      intro m2
      have stop : ∀ (i : Nat) (v : List Int), ¬ ((i : Int) < n) → i ≤ 1000 → v.length = i → small v → laws_FnCompared_l1 c how k i how (!(how == 0)) n rows a al b bl v = some true := by
        intro i v hi hi2 hv hs
        have hnext := ih (k + 1) (by omega)
        obtain ⟨bb, e1, e2⟩ := Satisfies_ok (n := n) (v := v) hlen hS.2.2 hs (by omega)
        rw [laws_FnCompared_l1_eq]
        simp only [hi, decide_false, cond_false]
        rw [EvalLin_ok ha hs (by omega), EvalLin_ok hb hs (by omega), e1, w64_nat (n := k) (by omega), hnext]
        simp only [Option.bind_some]
        cases bb
        · rfl
        · have hy := hsay v hs (by omega) (e2 rfl) _ _ rfl rfl e1
          generalize (cond (validL a al v.length) (ev a al v, true) (0, false)).1 = x at hy
          generalize (cond (validL b bl v.length) (ev b bl v, true) (0, false)).1 = y at hy
          obtain ⟨y1, y2, y3⟩ := hy
          simp only [cond_true]
          by_cases h1 : how = 1
          · subst h1
            have := y1 rfl
            subst this
            simp
          · by_cases h2 : how = 2
            · subst h2
              have h4 : ¬ y < x := by have := y2 rfl; omega
              simp [h4]
            · by_cases h3 : how = 3
              · subst h3
                have h4 : ¬ x < y := by have := y3 rfl; omega
                simp [h4]
              · have b1 : (how == 1) = false := by simp [h1]
                have b2 : (how == 2) = false := by simp [h2]
                have b3 : (how == 3) = false := by simp [h3]
                simp only [b1, b2, b3, cond_false]
      induction m2 with
      | zero => intro i v hi hi2 hv hs; exact stop i v (by omega) (by omega) hv hs
      | succ m2 ih2 =>
        intro i v hi hi2 hv hs
        by_cases hin : (i : Int) < n
        · have hn100 := hS.1.2
          simp only at hn100
          obtain ⟨x, e⟩ := at0_ok c hc (k := k + i) (by omega)
          rw [laws_FnCompared_l1_eq]
          simp only [hin, decide_true, cond_true]
          rw [w64_id (n := (k : Int) + (i : Int)) (by omega) (by omega), show (k : Int) + (i : Int) = ((k + i : Nat) : Int) by omega, e, Option.bind_some, app_of (by simp; omega), w64_nat (n := i) (by omega)]
          refine ih2 (i + 1) _ (by omega) (by omega) (by simp [hv]) fun z hz => ?_
          rcases List.mem_append.1 hz with h | h
          · exact hs z h
          · simp only [List.mem_singleton] at h
            subst h
            exact mod13 x
        · exact stop i v hin (by omega) hv hs
    rw [laws_FnCompared_l0_eq]
    simp only [hk6, decide_true, cond_true]
    cases hz : how == 0
    · simp only [Bool.not_false, cond_true]
      have hn100 := hS.1.2
      simp only at hn100
      have := inner 100 0 [] (by omega) (by omega) rfl (fun z hz => by simp at hz)
      rw [hz] at this
      exact this
    · rfl
theorem FnCompared_ok {a0 : List Int} (_ : okd a0) : laws_FnCompared a0 = some true := by
  rw [laws_FnCompared_eq, laws_big_eq, Option.bind_some]
  by_cases hbig : (1048576 : Int) < a0.length
  · simp [hbig]
  have hc : a0.length ≤ 1048576 := by omega
  obtain ⟨n, rows, a, al, b, bl, e0, hS, ha, hb⟩ := DrawCompare_ok hc
  have hlen : lensOK rows := ⟨by have := hS.2.1; simp only at this; omega, fun r hr => by have := hS.2.2 r hr; omega⟩
  simp only [hbig, decide_false, cond_false, e0, Option.bind_some]
  have hsym := addS_symm a al b bl
  have g1 := addS_len a al (-1) b bl
  have g2 := addS_len b bl (-1) a al
  have i1 := Entails_ok (n := n) (c := (addS a al (-1) b bl).1) (cs := (addS a al (-1) b bl).2.1) hlen (by omega)
  have i2 := Entails_ok (n := n) (c := (addS b bl (-1) a al).1) (cs := (addS b bl (-1) a al).2.1) hlen (by omega)
  have both : ∃ how : Int, impl_CompareBounds n rows a al b bl = some how ∧ spec_CompareBounds n rows a al b bl = some how ∧
      (how = 0 ∨ ((addS a al (-1) b bl).2.2 = true ∧ (addS b bl (-1) a al).2.2 = true ∧ ((how = 1 ∨ how = 3) → (findF n rows (addS a al (-1) b bl).1 (addS a al (-1) b bl).2.1).2.2 = true) ∧ ((how = 1 ∨ how = 2) → (findF n rows (addS b bl (-1) a al).1 (addS b bl (-1) a al).2.1).2.2 = true))) := by
    rw [spec_CompareBounds_eq, impl_CompareBounds_eq, spec_AddScaled_ok (by omega) (by omega), spec_AddScaled_ok (by omega) (by omega), impl_AddScaled_ok (by omega) (by omega), impl_AddScaled_ok (by omega) (by omega)]
    simp only [Option.bind_some]
    rw [i1.1, i1.2, i2.1, i2.2]
    simp only [Option.bind_some]
    rw [← hsym]
    cases (addS a al (-1) b bl).2.2
    · exact ⟨0, rfl, rfl, .inl rfl⟩
    · cases (findF n rows (addS a al (-1) b bl).1 (addS a al (-1) b bl).2.1).2.2 <;> cases (findF n rows (addS b bl (-1) a al).1 (addS b bl (-1) a al).2.1).2.2
      · exact ⟨0, rfl, rfl, .inl rfl⟩
      · exact ⟨2, rfl, rfl, .inr ⟨rfl, rfl, fun h => by omega, fun _ => rfl⟩⟩
      · exact ⟨3, rfl, rfl, .inr ⟨rfl, rfl, fun _ => rfl, fun h => by omega⟩⟩
      · exact ⟨1, rfl, rfl, .inr ⟨rfl, rfl, fun _ => rfl, fun _ => rfl⟩⟩
  obtain ⟨how, h1, h2, h3⟩ := both
  simp only [h1, h2, Option.bind_some, beq_self_eq_true, Bool.not_true, cond_false]
  refine Compared_l0 hc hS ha hb (fun v hv hvl hrow x y hx hy hsat => ?_) 6 0 rfl
  rcases h3 with rfl | ⟨k1, k2, k3, k4⟩
  · exact ⟨fun h => (by cases h), fun h => (by cases h), fun h => (by cases h)⟩
  obtain ⟨_, _, _, va, vb⟩ := addS_ok k1
  have eva := ev_addS (v := v) k1
  have evb := ev_addS (v := v) k2
  have hxy : x - y = ev a al v - ev b bl v ∨ (x = y) := by
    obtain ⟨a1, a2, a3, a4⟩ := validL_iff.1 va
    obtain ⟨b1, b2, b3, b4⟩ := validL_iff.1 vb
    by_cases hl : (al.length : Int) = (v.length : Int)
    · have e1 : validL a al v.length = true := validL_iff.2 ⟨by omega, hl, a3, a4⟩
      have e2 : validL b bl v.length = true := validL_iff.2 ⟨by omega, by omega, b3, b4⟩
      rw [e1] at hx
      rw [e2] at hy
      left
      rw [hx, hy]
      rfl
    · have e1 : validL a al v.length = false := by
        cases h : validL a al v.length
        · rfl
        · exact absurd (validL_iff.1 h).2.1 hl
      have e2 : validL b bl v.length = false := by
        cases h : validL b bl v.length
        · rfl
        · have := (validL_iff.1 h).2.1
          omega
      rw [e1] at hx
      rw [e2] at hy
      right
      rw [hx, hy]
      rfl
  have p1 : (how = 1 ∨ how = 3) → 0 ≤ ev a al v - ev b bl v := fun h => by
    have := findF_sound (k3 h) hrow
    omega
  have p2 : (how = 1 ∨ how = 2) → 0 ≤ ev b bl v - ev a al v := fun h => by
    have := findF_sound (k4 h) hrow
    omega
  refine ⟨fun h => ?_, fun h => ?_, fun h => ?_⟩
  · have h5 := p1 (.inl h)
    have h6 := p2 (.inl h)
    omega
  · have h6 := p2 (.inr h)
    omega
  · have h5 := p1 (.inr h)
    omega
end Go.Proofs.Ytpoekafccggehag.X
