/- Plain lemmas on these equations. No condition. -/
import Derived.Test.YtoingpfepfhgkadEFnCritical
import Derived.IntWalk
namespace Go.Proofs.Ytoingpfepfhgkad.TM
open Go
section
variable {ρ α β : Type}
theorem w64_id {n : Int} (h : -9223372036854775808 ≤ n) (h' : n ≤ 9223372036854775807) : w64 n = n := IntWalk.i64_in n ⟨h, h'⟩
theorem w64_nat {n : Nat} (h : n < 9223372036854775807) : w64 ((n : Int) + 1) = ((n + 1 : Nat) : Int) := by rw [w64_id (by omega) (by omega)]; rfl
theorem at_of {l : List α} {n : Nat} {x : α} (h : l[n]? = some x) (k : Nat → α → Option ρ) : at_ l (n : Int) k = k n x := by unfold at_; simp [h]
theorem atN_of {l : List α} {n : Nat} {x : α} (h : l[n]? = some x) (k : α → Option ρ) : atN l n k = k x := by unfold atN; simp [h]
theorem app_of {l m : List α} (h : l.length + m.length ≤ 1073741824) (k : List α → Option ρ) : app_ l m k = k (l ++ m) := if_pos h
theorem rep_of {n : Nat} {e : α} (h : n ≤ 1073741824) (k : List α → Option ρ) : rep_ (n : Int) e k = k (List.replicate n e) := by unfold rep_; rw [if_pos (by omega)]; rfl
theorem loopD (l : List α) (M : Nat → List α → Prop) (h0 : M l.length []) (h1 : ∀ k x suf, l.drop k = x :: suf → l[k]? = some x → k < l.length → M (k + 1) suf → M k (x :: suf)) : M 0 l := by
  have key : ∀ n k, k + n = l.length → M k (l.drop k) := by
    intro n
    induction n with
    | zero =>
      intro k hk
      have : k = l.length := by omega
      subst this
      rw [List.drop_length]
      exact h0
    | succ n ih =>
      intro k hk
      have hlt : k < l.length := by omega
      rw [List.drop_eq_getElem_cons hlt]
      exact h1 k _ _ (List.drop_eq_getElem_cons hlt) (List.getElem?_eq_getElem hlt) hlt (ih (k + 1) (by omega))
  simpa using key l.length 0 (by omega)
def sums : List Nat → Nat
  | [] => 0
  | x :: l => x + sums l
end
end Go.Proofs.Ytoingpfepfhgkad.TM
namespace Go.Proofs.Ytoingpfepfhgkad.TM
open Go
class Dat (α : Type) where
  size : α → Nat
  okd : α → Prop
  inr : α → Prop
  ok_of : ∀ x, size x ≤ 9223372036854775807 → okd x
open Dat (size okd inr)
instance : Dat Int := ⟨fun _ => 0, fun _ => True, fun n => -9223372036854775808 ≤ n ∧ n ≤ 9223372036854775807, fun _ _ => trivial⟩
instance : Dat Bool := ⟨fun _ => 0, fun _ => True, fun _ => True, fun _ _ => trivial⟩
instance : Dat UInt8 := ⟨fun _ => 0, fun _ => True, fun _ => True, fun _ _ => trivial⟩
theorem sums_mem {l : List Nat} {x : Nat} (h : x ∈ l) : x ≤ sums l := by
  induction l with
  | nil => simp at h
  | cons y l ih =>
    simp only [sums]
    rcases List.mem_cons.1 h with rfl | h
    · omega
    · have := ih h; omega
instance {α : Type} [Dat α] : Dat (List α) := ⟨fun l => l.length + sums (l.map size), fun l => l.length ≤ 9223372036854775807 ∧ ∀ x ∈ l, okd x, fun l => ∀ x ∈ l, inr x,
  fun l h => ⟨by omega, fun x hx => Dat.ok_of x (by have := sums_mem (List.mem_map_of_mem (f := size) hx); omega)⟩⟩
instance {α β : Type} [Dat α] [Dat β] : Dat (α × β) := ⟨fun x => size x.1 + size x.2, fun x => okd x.1 ∧ okd x.2, fun x => inr x.1 ∧ inr x.2, fun x h => ⟨Dat.ok_of _ (by omega), Dat.ok_of _ (by omega)⟩⟩
section
variable {α β γ ρ : Type}
def all2 (p : α → β → Bool) : List α → List β → Bool
  | [], [] => true
  | x :: a, y :: b => p x y && all2 p a b
  | _, _ => false
theorem all2_len {p : α → β → Bool} : ∀ {a : List α} {b : List β}, a.length ≠ b.length → all2 p a b = false
  | [], [], h => absurd rfl h
  | [], _ :: _, _ => rfl
  | _ :: _, [], _ => rfl
  | x :: a, y :: b, h => by simp only [all2, all2_len (p := p) (a := a) (b := b) (fun e => h (by simp [e])), Bool.and_false]
theorem all2_eq [DecidableEq α] : ∀ (a b : List α), all2 (fun x y => decide (x = y)) a b = decide (a = b)
  | [], [] => by simp [all2]
  | [], _ :: _ => by simp [all2]
  | _ :: _, [] => by simp [all2]
  | x :: a, y :: b => by simp [all2, all2_eq a b]
theorem allLoop {F : Int → Option Bool} {e : α → β → Option Bool} {p : α → β → Bool} {a : List α} {b : List β}
    (hF : ∀ i, F i = cond (decide (i < (a.length : Int))) (at_ a i fun _ x => at_ b i fun _ y => (e x y).bind fun r => cond (!r) (some false) (F (w64 (i + 1)))) (some true))
    (he : ∀ x ∈ a, ∀ y ∈ b, e x y = some (p x y)) (hl : a.length = b.length) (hs : a.length ≤ 9223372036854775807) : F 0 = some (all2 p a b) := by
  have := loopD a (fun k s => F (k : Int) = some (all2 p s (b.drop k))) (by rw [hF]; simp [hl, all2]) (fun k x suf hd hx hk ih => by
    have hb : k < b.length := by omega
    rw [hF, at_of hx, at_of (List.getElem?_eq_getElem hb), he _ (List.mem_of_getElem? hx) _ (List.getElem_mem hb), w64_nat (by omega), ih, List.drop_eq_getElem_cons hb]
    cases h1 : p x b[k] <;> simp [hk, h1, all2])
  simpa using this
theorem allChk {F : Int → Option Bool} {e : α → β → Option Bool} {p : α → β → Bool} {a : List α} {b : List β}
    (hF : ∀ i, F i = cond (decide (i < (a.length : Int))) (at_ a i fun _ x => at_ b i fun _ y => (e x y).bind fun r => cond (!r) (some false) (F (w64 (i + 1)))) (some true))
    (he : ∀ x ∈ a, ∀ y ∈ b, e x y = some (p x y)) (hs : a.length ≤ 9223372036854775807) : cond (!((a.length : Int) == (b.length : Int))) (some false) (F 0) = some (all2 p a b) := by
  by_cases h : a.length = b.length
  · simp only [h, beq_self_eq_true, Bool.not_true, cond_false]
    exact allLoop hF he h hs
  · have h2 : ((a.length : Int) == (b.length : Int)) = false := by simp; omega
    simp [h2, all2_len h]
theorem anyLoop {F : Int → Option Bool} {e : α → Option Bool} {p : α → Bool} {a : List α}
    (hF : ∀ i, F i = cond (decide (i < (a.length : Int))) (at_ a i fun _ x => (e x).bind fun r => cond r (some true) (F (w64 (i + 1)))) (some false))
    (he : ∀ x ∈ a, e x = some (p x)) (hs : a.length ≤ 9223372036854775807) : F 0 = some (a.any p) := by
  have := loopD a (fun k s => F (k : Int) = some (s.any p)) (by rw [hF]; simp) (fun k x suf hd hx hk ih => by
    rw [hF, at_of hx, he _ (List.mem_of_getElem? hx), w64_nat (by omega), ih]
    cases h1 : p x <;> simp [hk, h1])
  simpa using this
theorem idxLoop {F : Int → Option Int} {e : α → Option Bool} {p : α → Bool} {a : List α}
    (hF : ∀ i, F i = cond (decide (i < (a.length : Int))) (at_ a i fun _ x => (e x).bind fun r => cond r (some i) (F (w64 (i + 1)))) (some (-1)))
    (he : ∀ x ∈ a, e x = some (p x)) (hs : a.length ≤ 9223372036854775807) : ((F 0).bind fun r => some (decide (0 ≤ r))) = some (a.any p) := by
  have := loopD a (fun k s => ((F (k : Int)).bind fun r => some (decide (0 ≤ r))) = some (s.any p)) (by rw [hF]; simp) (fun k x suf hd hx hk ih => by
    rw [hF, at_of hx, he _ (List.mem_of_getElem? hx), w64_nat (by omega)]
    cases h1 : p x
    · simp only [hk, Int.ofNat_lt, decide_true, cond_true, Option.bind_some, cond_false, List.any_cons, h1, Bool.false_or]
      exact ih
    · simp [hk, h1])
  simpa using this
theorem le_maxLen {n : Nat} (h : n ≤ maxLen) : n ≤ 9223372036854775807 := h
end
end Go.Proofs.Ytoingpfepfhgkad.TM
namespace Go.Proofs.Ytoingpfepfhgkad.X
open Go Go.Proofs.Ytoingpfepfhgkad.TM
open Go.Proofs.Ytoingpfepfhgkad.TM.Dat (size okd inr)
end Go.Proofs.Ytoingpfepfhgkad.X
namespace Go.Proofs.Ytoingpfepfhgkad.X
open Go Go.Proofs.Ytoingpfepfhgkad.TM
open Go.Proofs.Ytoingpfepfhgkad.TM.Dat (size okd inr)
theorem beqD {α : Type} [BEq α] [LawfulBEq α] [DecidableEq α] (x y : α) : (x == y) = decide (x = y) := by by_cases h : x = y <;> simp [h]
theorem and_cond (b c : Bool) : cond b (some c) (some false) = some (b && c) := by cases b <;> rfl
theorem spec_l1Ints_ok {a b : List Int} (h : a.length ≤ 9223372036854775807) : spec_l1Ints a b = some (decide (a = b)) := by
  rw [spec_l1Ints_eq, ← all2_eq]
  exact allChk (F := fun i => spec_l1Ints_l0 a b i) (e := fun x y => some (x == y)) (spec_l1Ints_l0_eq a b) (fun x _ y _ => by rw [beqD]) h
theorem slices_Equal_ok {a b : List Int} (h : a.length ≤ 9223372036854775807) : slices_Equal a b = some (decide (a = b)) := by
  rw [slices_Equal_eq, ← all2_eq]
  exact allChk (F := fun i => slices_Equal_l0 a b a.length i) (e := fun x y => some (x == y)) (slices_Equal_l0_eq a b _) (fun x _ y _ => by rw [beqD]) h
def graphEq (a0 a1 : List UInt8) (a2 : List (List Int)) (a3 a4 : List UInt8) (a5 : List (List Int)) : Bool := (a0 == a3) && ((a1 == a4) && decide (a2 = a5))
theorem spec_EqualGraph_ok {a0 a1 : List UInt8} {a2 : List (List Int)} {a3 a4 : List UInt8} {a5 : List (List Int)} (h : okd a2) : spec_EqualGraph a0 a1 a2 a3 a4 a5 = some (graphEq a0 a1 a2 a3 a4 a5) := by
  rw [spec_EqualGraph_eq, allChk (F := fun i => spec_EqualGraph_l0 i a0 a1 a2 a3 a4 a5) (fun i => spec_EqualGraph_l0_eq i a0 a1 a2 a3 a4 a5) (fun x hx y _ => spec_l1Ints_ok (h.2 x hx).1) h.1, all2_eq]
  unfold graphEq
  simp only [Bool.not_not, and_cond]
theorem impl_EqualGraph_ok {a0 a1 : List UInt8} {a2 : List (List Int)} {a3 a4 : List UInt8} {a5 : List (List Int)} (h : okd a2) : impl_EqualGraph a0 a1 a2 a3 a4 a5 = some (graphEq a0 a1 a2 a3 a4 a5) := by
  rw [impl_EqualGraph_eq, slices_EqualFunc_2_eq, allChk (F := fun i => slices_EqualFunc_2_l0 a5 a2 a2.length i) (fun i => slices_EqualFunc_2_l0_eq a5 a2 _ i) (fun x hx y _ => by rw [impl_EqualGraph_1_eq, slices_Equal_ok (h.2 x hx).1, Option.bind_some]) h.1, all2_eq]
  unfold graphEq
  simp only [Option.bind_some, and_cond]
theorem spec_BelowGraph_l1_ok (a0 a1 : List UInt8) (a2 : List (List Int)) (a3 a4 : List UInt8) (a5 : List (List Int)) {i : Int} {n : Nat} {x y : List Int} (hi : i = (n : Int)) (hx : a2[n]? = some x) (hy : a5[n]? = some y) (hl : x.length = y.length) (hs : x.length ≤ 9223372036854775807) :
    spec_BelowGraph_l1 i 0 a0 a1 a2 a3 a4 a5 = cond (all2 (fun p q => decide (p ≤ q)) x y) (spec_BelowGraph_l0 (w64 (i + 1)) a0 a1 a2 a3 a4 a5) (some false) := by
  subst hi
  have := loopD x (fun k s => spec_BelowGraph_l1 (n : Int) (k : Int) a0 a1 a2 a3 a4 a5 = cond (all2 (fun p q => decide (p ≤ q)) s (y.drop k)) (spec_BelowGraph_l0 (w64 ((n : Int) + 1)) a0 a1 a2 a3 a4 a5) (some false))
    (by rw [spec_BelowGraph_l1_eq, at_of hx]; simp [hl, all2]) (fun k e suf hd he hk ih => by
      have hb : k < y.length := by omega
      rw [spec_BelowGraph_l1_eq, at_of hx, at_of hx, at_of he, at_of hy, at_of (List.getElem?_eq_getElem hb), w64_nat (n := k) (by omega), ih, List.drop_eq_getElem_cons hb]
      by_cases h1 : e ≤ y[k]
      · have h2 : ¬ y[k] < e := by omega
        simp [hk, h1, h2, all2]
      · have h2 : y[k] < e := by omega
        simp [hk, h1, h2, all2])
  simpa using this
def graphLe (a0 a1 : List UInt8) (a2 : List (List Int)) (a3 a4 : List UInt8) (a5 : List (List Int)) : Bool := (a0 == a3) && ((a1 == a4) && all2 (all2 fun p q => decide (p ≤ q)) a2 a5)
theorem spec_BelowGraph_ok {a0 a1 : List UInt8} {a2 : List (List Int)} {a3 a4 : List UInt8} {a5 : List (List Int)} (h : okd a2) : spec_BelowGraph a0 a1 a2 a3 a4 a5 = some (graphLe a0 a1 a2 a3 a4 a5) := by
  have key : a2.length = a5.length → spec_BelowGraph_l0 0 a0 a1 a2 a3 a4 a5 = some (all2 (all2 fun p q => decide (p ≤ q)) a2 a5) := by
    intro hl
    have := loopD a2 (fun k s => spec_BelowGraph_l0 (k : Int) a0 a1 a2 a3 a4 a5 = some (all2 (all2 fun p q => decide (p ≤ q)) s (a5.drop k)))
      (by rw [spec_BelowGraph_l0_eq]; simp [hl, all2]) (fun k e suf hd he hk ih => by
        have hb : k < a5.length := by omega
        have hm : e ∈ a2 := List.mem_of_getElem? he
        rw [spec_BelowGraph_l0_eq, at_of he, at_of (List.getElem?_eq_getElem hb), List.drop_eq_getElem_cons hb]
        by_cases h1 : e.length = (a5[k]).length
        · rw [spec_BelowGraph_l1_ok a0 a1 a2 a3 a4 a5 rfl he (List.getElem?_eq_getElem hb) h1 (h.2 e hm).1, w64_nat (by have := h.1; omega), ih]
          have h2 : ((e.length : Int) == ((a5[k]).length : Int)) = true := by simp; omega
          simp only [h2, Bool.not_true, cond_false, hk, Int.ofNat_lt, decide_true, cond_true, all2, and_cond]
        · have h2 : ((e.length : Int) == ((a5[k]).length : Int)) = false := by simp; omega
          simp only [h2, Bool.not_false, cond_true, hk, Int.ofNat_lt, decide_true, all2, all2_len h1, Bool.false_and])
    simpa using this
  rw [spec_BelowGraph_eq]
  unfold graphLe
  by_cases hl : a2.length = a5.length
  · have h2 : ((a2.length : Int) == (a5.length : Int)) = true := by simp; omega
    simp only [Bool.not_not, key hl, h2, Bool.not_true, cond_false, and_cond]
  · have h2 : ((a2.length : Int) == (a5.length : Int)) = false := by simp; omega
    simp only [Bool.not_not, h2, Bool.not_false, cond_true, and_cond, all2_len hl, Bool.and_false]
theorem impl_BelowGraph_ok {a0 a1 : List UInt8} {a2 : List (List Int)} {a3 a4 : List UInt8} {a5 : List (List Int)} (h : okd a2) : impl_BelowGraph a0 a1 a2 a3 a4 a5 = some (graphLe a0 a1 a2 a3 a4 a5) := by
  have e1 : ∀ x ∈ a2, ∀ y ∈ a5, impl_BelowGraph_1 x y = some (all2 (fun p q => decide (p ≤ q)) x y) := fun x hx y _ => by
    rw [impl_BelowGraph_1_eq, slices_EqualFunc_1_eq, allChk (F := fun i => slices_EqualFunc_1_l0 y x x.length i) (fun i => slices_EqualFunc_1_l0_eq y x _ i) (fun x _ y _ => impl_BelowGraph_1_1_eq x y) (h.2 x hx).1, Option.bind_some]
  rw [impl_BelowGraph_eq, slices_EqualFunc_eq, allChk (F := fun i => slices_EqualFunc_l0 a5 a2 a2.length i) (fun i => slices_EqualFunc_l0_eq a5 a2 _ i) e1 h.1]
  unfold graphLe
  simp only [Option.bind_some, and_cond]
end Go.Proofs.Ytoingpfepfhgkad.X
namespace Go.Proofs.Ytoingpfepfhgkad.X
open Go Go.Proofs.Ytoingpfepfhgkad.TM
open Go.Proofs.Ytoingpfepfhgkad.TM.Dat (size okd inr)
end Go.Proofs.Ytoingpfepfhgkad.X
namespace Go.Proofs.Ytoingpfepfhgkad.X
open Go Go.Proofs.Ytoingpfepfhgkad.TM
open Go.Proofs.Ytoingpfepfhgkad.TM.Dat (size okd inr)
def stepC (a x r : Int) : Int := if a = 0 ∨ x = 0 then r else if a = 2 ∨ x = 2 then 2 else max_ r 1
def cellC : List Int → List (List Int) → Nat → Int → Int
  | a :: row, x :: h, j, r => cellC row h j (stepC a (x.getD j 0) r)
  | _, _, _, r => r
def rowC : List Int → List (List Int) → List Int → List Int
  | a :: row, x :: h, r => rowC row h (List.zipWith (stepC a) x r)
  | _, _, r => r
theorem rowC_len : ∀ (row : List Int) (h : List (List Int)) (r : List Int) (c : Nat), (∀ x ∈ h, x.length = c) → r.length = c → (rowC row h r).length = c
  | [], _, _, _, _, e => e
  | _ :: _, [], _, _, _, e => e
  | a :: row, x :: h, r, c, hc, e => rowC_len row h _ c (fun y hy => hc y (by simp [hy])) (by rw [List.length_zipWith, hc x (by simp), e, Nat.min_self])
theorem rowC_get : ∀ (row : List Int) (h : List (List Int)) (r : List Int) (c j : Nat), (∀ x ∈ h, x.length = c) → r.length = c → j < c → (rowC row h r)[j]? = some (cellC row h j (r.getD j 0))
  | [], _, r, c, j, _, e, hj => by simp [rowC, cellC, List.getD, List.getElem?_eq_getElem (show j < r.length by omega)]
  | _ :: _, [], r, c, j, _, e, hj => by simp [rowC, cellC, List.getD, List.getElem?_eq_getElem (show j < r.length by omega)]
  | a :: row, x :: h, r, c, j, hc, e, hj => by
    have hx := hc x (by simp)
    rw [rowC, rowC_get row h _ c j (fun y hy => hc y (by simp [hy])) (by rw [List.length_zipWith, hx, e, Nat.min_self]) hj, cellC]
    simp [List.getD, List.getElem?_zipWith, List.getElem?_eq_getElem (show j < r.length by omega), List.getElem?_eq_getElem (show j < x.length by omega)]
theorem at_zero {α ρ : Type} (x : α) (l : List α) (k : Nat → α → Option ρ) : at_ (x :: l) 0 k = k 0 x := rfl
theorem set_self {r : List Int} {k : Nat} (hb : k < r.length) : r.set k r[k] = r := List.set_getElem_self hb
theorem l3_step {ρ : Type} {r : List Int} {k : Nat} {a e : Int} (hb : k < r.length) (F : List Int → Option ρ) : (cond (!(a == 0)) (cond (e == 0) (F r) (cond (!(a == 2)) (cond (e == 2) (at_ r (k : Int) fun x2 _ => atN r x2 fun _ => atN r x2 fun _ => F (r.set x2 2))
      (at_ r (k : Int) fun x2 _ => atN r x2 fun x4 => at_ r (k : Int) fun x5 _ => atN r x5 fun _ => atN r x5 fun _ => F (r.set x5 (max_ x4 1)))) (at_ r (k : Int) fun x2 _ => atN r x2 fun _ => atN r x2 fun _ => F (r.set x2 2)))) (F r)) = F (r.set k (stepC a e r[k])) := by
  have hg : r[k]? = some r[k] := List.getElem?_eq_getElem hb
  simp only [at_of hg, atN_of hg]
  by_cases h0 : a = 0
  · have : (a == 0) = true := by simp [h0]
    simp only [this, Bool.not_true, cond_false]
    rw [show stepC a e r[k] = r[k] by simp [stepC, h0], set_self]
  · have h0' : (a == 0) = false := by simp [h0]
    simp only [h0', Bool.not_false, cond_true]
    by_cases h1 : e = 0
    · have : (e == 0) = true := by simp [h1]
      simp only [this, cond_true]
      rw [show stepC a e r[k] = r[k] by simp [stepC, h1], set_self]
    · have h1' : (e == 0) = false := by simp [h1]
      simp only [h1', cond_false]
      by_cases h2 : a = 2
      · have : (a == 2) = true := by simp [h2]
        simp only [this, Bool.not_true, cond_false]
        rw [show stepC a e r[k] = 2 by simp [stepC, h1, h2]]
      · have h2' : (a == 2) = false := by simp [h2]
        simp only [h2', Bool.not_false, cond_true]
        by_cases h3 : e = 2
        · have : (e == 2) = true := by simp [h3]
          simp only [this, cond_true]
          rw [show stepC a e r[k] = 2 by simp [stepC, h0, h3]]
        · have h3' : (e == 2) = false := by simp [h3]
          simp only [h3', cond_false]
          rw [show stepC a e r[k] = max_ r[k] 1 by simp [stepC, h0, h1, h2, h3]]
theorem l3_ok (c a1 : Int) (g : List (List Int)) (a3 a4 : Int) (a5 : List Int) (a6 a7 : Int) (x : List Int) (a11 a12 : List UInt8) (a13 : List (List Int)) (a14 a15 : List UInt8) (a16 : List (List Int)) (a17 a18 : List UInt8) (a19 : List (List Int)) (r : List Int) (hl : x.length = r.length) (hs : x.length ≤ 1048576) :
    impl_ComposeGraphs_l3 c a1 g a3 a4 a5 a6 a7 x x.length 0 a11 a12 a13 a14 a15 a16 a17 a18 a19 r = impl_ComposeGraphs_l2 c g a3 a4 a5 a6 (w64 (a7 + 1)) a11 a12 a13 a14 a15 a16 a17 a18 a19 (List.zipWith (stepC a1) x r) := by
  generalize hF : (fun (k : Int) (r : List Int) => impl_ComposeGraphs_l3 c a1 g a3 a4 a5 a6 a7 x x.length k a11 a12 a13 a14 a15 a16 a17 a18 a19 r) = F
  generalize hG : (fun (r : List Int) => impl_ComposeGraphs_l2 c g a3 a4 a5 a6 (w64 (a7 + 1)) a11 a12 a13 a14 a15 a16 a17 a18 a19 r) = G
  have hend : ∀ r, F x.length r = G r := fun r => by rw [← hF, ← hG]; simp only []; rw [impl_ComposeGraphs_l3_eq]; simp
  have hstep : ∀ (k : Nat) (e : Int) (r : List Int) (hb : k < r.length), x[k]? = some e → k < x.length → F k r = F ((k + 1 : Nat) : Int) (r.set k (stepC a1 e r[k])) := fun k e r hb he hk => by
    rw [← l3_step hb (F ((k + 1 : Nat) : Int)), ← hF]
    simp only []
    rw [impl_ComposeGraphs_l3_eq, at_of he, w64_nat (by omega)]
    simp only [Int.ofNat_lt, hk, decide_true, cond_true]
  have key := loopD x (fun k s => ∀ r : List Int, r.length = x.length → F k r = G (r.take k ++ List.zipWith (stepC a1) s (r.drop k)))
    (fun r hr => by rw [hend]; simp [← hr]) (fun k e suf hd he hk ih r hr => by
      have hb : k < r.length := by omega
      rw [hstep k e r hb he hk, ih _ (by simp [hr]), List.drop_eq_getElem_cons hb, List.zipWith_cons_cons, List.drop_set_of_lt (by omega), List.take_add_one, List.take_set, List.set_eq_of_length_le (by simp; omega)]
      simp [hb])
  have := key r hl.symm
  rw [← hF, ← hG] at this
  simpa using this
theorem l2_ok (c : Nat) (g : List (List Int)) (a3 a4 : Int) (row : List Int) (a11 a12 : List UInt8) (a13 : List (List Int)) (a14 a15 : List UInt8) (h : List (List Int)) (a17 a18 : List UInt8) (acc : List (List Int)) (r : List Int)
    (hl : row.length = h.length) (hs : row.length ≤ 1048576) (hc : ∀ x ∈ h, x.length = c) (hcs : c ≤ 1048576) (hr : r.length = c) (ha : acc.length + 1 ≤ 1073741824) :
    impl_ComposeGraphs_l2 c g a3 a4 row row.length 0 a11 a12 h a14 a15 a13 a17 a18 acc r = impl_ComposeGraphs_l1 c g a3 (w64 (a4 + 1)) a11 a12 h a14 a15 a13 a17 a18 (acc ++ [rowC row h r]) := by
  have := loopD row (fun k s => ∀ r : List Int, r.length = c → impl_ComposeGraphs_l2 c g a3 a4 row row.length k a11 a12 h a14 a15 a13 a17 a18 acc r = impl_ComposeGraphs_l1 c g a3 (w64 (a4 + 1)) a11 a12 h a14 a15 a13 a17 a18 (acc ++ [rowC s (h.drop k) r]))
    (fun r hr => by rw [impl_ComposeGraphs_l2_eq, app_of (by simpa using ha)]; simp [rowC]) (fun k e suf hd he hk ih r hr => by
      have hb : k < h.length := by omega
      have hx := hc _ (List.getElem_mem hb)
      rw [impl_ComposeGraphs_l2_eq, at_of he, at_of (List.getElem?_eq_getElem hb), l3_ok _ _ _ _ _ _ _ _ _ _ _ _ _ _ _ _ _ _ _ (by omega) (by omega), w64_nat (by omega), ih _ (by rw [List.length_zipWith, hx, hr, Nat.min_self]), List.drop_eq_getElem_cons hb, rowC]
      simp only [Int.ofNat_lt, hk, decide_true, cond_true])
  simpa using this r hr
theorem l1_ok (c : Nat) (g : List (List Int)) (a11 a12 : List UInt8) (h : List (List Int)) (a13 : List (List Int)) (a14 a15 : List UInt8) (a17 a18 : List UInt8)
    (hg : g.length ≤ 1048576) (hh : h.length ≤ 1048576) (hc : ∀ x ∈ h, x.length = c) (hcs : c ≤ 1048576) :
    impl_ComposeGraphs_l1 c g g.length 0 a11 a12 h a14 a15 a13 a17 a18 [] = some (if ∀ x ∈ g, x.length = h.length then (a17, a18, g.map fun row => rowC row h (List.replicate c 0), true) else ([], [], [], false)) := by
  have := loopD g (fun k s => ∀ acc : List (List Int), acc.length = k → impl_ComposeGraphs_l1 c g g.length k a11 a12 h a14 a15 a13 a17 a18 acc = some (if ∀ x ∈ s, x.length = h.length then (a17, a18, acc ++ s.map fun row => rowC row h (List.replicate c 0), true) else ([], [], [], false)))
    (fun acc hk => by rw [impl_ComposeGraphs_l1_eq]; simp) (fun k e suf hd he hk ih acc ha => by
      rw [impl_ComposeGraphs_l1_eq, at_of he]
      by_cases h1 : e.length = h.length
      · have h2 : ((e.length : Int) == (h.length : Int)) = true := by simp; omega
        rw [rep_of (by omega), l2_ok c g _ _ e a11 a12 a13 a14 a15 h a17 a18 acc _ h1 (by omega) hc hcs (by simp) (by omega), w64_nat (by omega), ih _ (by simp [ha])]
        simp [h2, hk, h1]
      · have h2 : ((e.length : Int) == (h.length : Int)) = false := by simp; omega
        simp [h2, hk, h1])
  simpa using this [] rfl
def colsOf (h : List (List Int)) : Nat := match h with | [] => 0 | x :: _ => x.length
def compG (a0 a1 : List UInt8) (a2 : List (List Int)) (a3 a4 : List UInt8) (a5 : List (List Int)) : List UInt8 × List UInt8 × List (List Int) × Bool :=
  if a1 = a3 ∧ (∀ x ∈ a5, x.length = colsOf a5) ∧ ∀ x ∈ a2, x.length = a5.length then (a0, a4, a2.map fun row => rowC row a5 (List.replicate (colsOf a5) 0), true) else ([], [], [], false)
theorem impl_ComposeGraphs_of {a0 a1 : List UInt8} {a2 : List (List Int)} {a3 a4 : List UInt8} {a5 : List (List Int)} (l2 : a2.length ≤ 1048576) (l5 : a5.length ≤ 1048576) (m5 : ∀ x ∈ a5, x.length ≤ 1048576) :
    impl_ComposeGraphs a0 a1 a2 a3 a4 a5 = some (compG a0 a1 a2 a3 a4 a5) := by
  have hcs : colsOf a5 ≤ 1048576 := by
    cases a5 with
    | nil => simp [colsOf]
    | cons x l => exact m5 x (by simp)
  rw [impl_ComposeGraphs_eq]
  by_cases hn : a1 = a3
  · have hn' : (a1 == a3) = true := by simp [hn]
    simp only [hn', Bool.not_true, cond_false]
    have key : ∀ (pre suf : List (List Int)) (c : Int), a5 = pre ++ suf → (pre = [] → c = 0) → (pre ≠ [] → c = colsOf a5) → impl_ComposeGraphs_l0 c a5 a5.length pre.length a0 a1 a2 a3 a4 a5 [] [] [] =
        some (if (∀ x ∈ suf, x.length = colsOf a5) ∧ ∀ x ∈ a2, x.length = a5.length then (a0, a4, a2.map fun row => rowC row a5 (List.replicate (colsOf a5) 0), true) else ([], [], [], false)) ∨ ¬ (∀ x ∈ pre, x.length = colsOf a5) := by
      intro pre suf
      induction suf generalizing pre with
      | nil =>
        intro c he h0 h1
        by_cases hp : ∀ x ∈ pre, x.length = colsOf a5
        · refine .inl ?_
          have hpre : pre = a5 := by simpa using he.symm
          subst hpre
          have hc : c = (colsOf pre : Int) := by
            cases pre with
            | nil => simpa [colsOf] using h0 rfl
            | cons x l => exact h1 (by simp)
          rw [impl_ComposeGraphs_l0_eq, hc, l1_ok _ a2 _ _ pre _ _ _ _ _ (by omega) (by omega) hp hcs]
          simp
        · exact .inr hp
      | cons x suf ih =>
        intro c he h0 h1
        by_cases hp : ∀ x ∈ pre, x.length = colsOf a5
        · refine .inl ?_
          have hk : pre.length < a5.length := by rw [he]; simp
          have hx : a5[pre.length]? = some x := by rw [he]; simp
          rw [impl_ComposeGraphs_l0_eq, at_of hx, w64_nat (by omega)]
          cases hpre : pre with
          | nil =>
            have hcol : x.length = colsOf a5 := by rw [he, hpre]; rfl
            have := ih (pre ++ [x]) x.length (by simp [he]) (by simp) (by simp [hcol])
            rcases this with this | this
            · rw [List.length_append, List.length_singleton] at this
              subst hpre
              have h00 : ((([] : List (List Int)).length : Int) == 0) = true := rfl
              simp only [h00, beq_self_eq_true, Bool.not_true, cond_false, cond_true, Int.ofNat_lt, hk, decide_true]
              rw [this]
              simp [hcol]
            · exact absurd (fun y hy => by rcases List.mem_append.1 hy with hy | hy; exact hp y hy; simp at hy; rw [hy]; exact hcol) this
          | cons p ps =>
            have hc : c = (colsOf a5 : Int) := h1 (by simp [hpre])
            have hne : (((p :: ps).length : Int) == 0) = false := by simp; omega
            rw [← hpre] at hne ⊢
            simp only [hne, cond_false, Int.ofNat_lt, hk, decide_true, cond_true]
            by_cases hcol : x.length = colsOf a5
            · have h3 : ((x.length : Int) == c) = true := by simp [hc, hcol]
              have := ih (pre ++ [x]) c (by simp [he]) (by simp) (fun _ => hc)
              rcases this with this | this
              · rw [List.length_append, List.length_singleton] at this
                simp only [h3, Bool.not_true, cond_false]
                rw [this]
                simp [hcol]
              · exact absurd (fun y hy => by rcases List.mem_append.1 hy with hy | hy; exact hp y hy; simp at hy; rw [hy]; exact hcol) this
            · have h3 : ((x.length : Int) == c) = false := by simp [hc]; omega
              simp [h3, hcol]
        · exact .inr hp
    rcases key [] a5 0 rfl (fun _ => rfl) (fun h => absurd rfl h) with k | k
    · have k' : impl_ComposeGraphs_l0 0 a5 (a5.length : Int) 0 a0 a1 a2 a3 a4 a5 [] [] [] = _ := k
      rw [k', compG]
      simp [hn]
    · exact absurd (fun x hx => by simp at hx) k
  · have hn' : (a1 == a3) = false := by simp [hn]
    simp [hn', compG, hn]
theorem spec_l21Step_ok (row : List Int) (j : Nat) (a1 a2 : List UInt8) (h : List (List Int)) (hl : row.length = h.length) (hs : row.length ≤ 1048576) {c : Nat} (hc : ∀ x ∈ h, x.length = c) (hj : j < c) : spec_l21Step row a1 a2 h j = some (cellC row h j 0) := by
  rw [spec_l21Step_eq]
  have := loopD row (fun k s => ∀ r : Int, spec_l21Step_l0 row j r k a1 a2 h = some (cellC s (h.drop k) j r))
    (fun r => by rw [spec_l21Step_l0_eq]; simp [cellC]) (fun k e suf hd he hk ih r => by
      have hb : k < h.length := by omega
      have hx := hc _ (List.getElem_mem hb)
      have hg : h[k][j]? = some (h[k][j]'(by omega)) := List.getElem?_eq_getElem (by omega)
      have hd2 : h[k].getD j 0 = h[k][j]'(by omega) := by simp [List.getD, hg]
      rw [spec_l21Step_l0_eq, at_of he, at_of (List.getElem?_eq_getElem hb), at_of hg, w64_nat (by omega), List.drop_eq_getElem_cons hb, cellC, hd2]
      generalize hy : (h[k][j]'(by omega) : Int) = y
      simp only [ih, spec_l1Max_eq, Int.ofNat_lt, hk, decide_true, cond_true]
      by_cases h0 : e = 0
      · have : (e == 0) = true := by simp [h0]
        simp [this, stepC, h0]
      · have h0' : (e == 0) = false := by simp [h0]
        by_cases h1 : y = 0
        · have : (y == 0) = true := by simp [h1]
          simp [this, stepC, h1]
        · have h1' : (y == 0) = false := by simp [h1]
          simp only [h0', h1', Bool.not_false, cond_true]
          have hm : (cond (decide ((1 : Int) < r)) (some r) (some 1)) = some (max_ r 1) := by
            unfold max_
            by_cases h4 : 1 < r
            · rw [if_neg (by omega)]; simp [h4]
            · by_cases h5 : 1 > r
              · rw [if_pos h5]; simp [h4]
              · rw [if_neg h5]; simp [h4]; omega
          rw [hm, Option.bind_some]
          by_cases h2 : e = 2
          · have : (e == 2) = true := by simp [h2]
            simp [this, stepC, h1, h2]
          · have h2' : (e == 2) = false := by simp [h2]
            by_cases h3 : y = 2
            · have : (y == 2) = true := by simp [h3]
              simp [this, h2', stepC, h0, h3]
            · have h3' : (y == 2) = false := by simp [h3]
              simp [h2', h3', stepC, h0, h1, h2, h3])
  simpa using this 0
theorem spec_l1_ok (k : Nat) (a2 a3 : List UInt8) (g : List (List Int)) (a5 a6 : List UInt8) (h : List (List Int)) (a8 a9 : List UInt8) (a10 : List (List Int)) (a11 a12 : List UInt8) (acc : List (List Int)) {row : List Int} (hk : g[k]? = some row)
    (hl : row.length = h.length) (hs : row.length ≤ 1048576) (hc : ∀ x ∈ h, x.length = colsOf h) (hcs : colsOf h ≤ 1048576) (ha : acc.length + 1 ≤ 1073741824) :
    spec_ComposeGraphs_l1 k 0 a2 a3 g a5 a6 h a8 a9 a10 a11 a12 acc [] = spec_ComposeGraphs_l0 (w64 ((k : Int) + 1)) a2 a3 g a5 a6 h a8 a9 a10 a11 a12 (acc ++ [rowC row h (List.replicate (colsOf h) 0)]) := by
  have hrow : rowC row h (List.replicate (colsOf h) 0) = (List.range (colsOf h)).map fun j => cellC row h j 0 := by
    apply List.ext_getElem?
    intro j
    have hlen := rowC_len row h (List.replicate (colsOf h) 0) (colsOf h) hc (by simp)
    by_cases hj : j < colsOf h
    · rw [rowC_get row h _ (colsOf h) j hc (by simp) hj]
      simp [hj, List.getD]
    · rw [List.getElem?_eq_none (by omega), List.getElem?_eq_none (by simp; omega)]
  have key : ∀ n j, j + n = colsOf h → spec_ComposeGraphs_l1 k (j : Int) a2 a3 g a5 a6 h a8 a9 a10 a11 a12 acc ((List.range j).map fun j => cellC row h j 0) = spec_ComposeGraphs_l0 (w64 ((k : Int) + 1)) a2 a3 g a5 a6 h a8 a9 a10 a11 a12 (acc ++ [rowC row h (List.replicate (colsOf h) 0)]) := by
    intro n
    induction n with
    | zero =>
      intro j hj
      have hj : j = colsOf h := by omega
      subst hj
      rw [spec_ComposeGraphs_l1_eq, hrow]
      cases h with
      | nil => rw [app_of (by simpa using ha)]; simp [colsOf]
      | cons x l =>
        rw [at_zero]
        rw [app_of (by simpa using ha)]
        simp [colsOf]
    | succ n ih =>
      intro j hj
      have hjc : j < colsOf h := by omega
      cases h with
      | nil => simp [colsOf] at hjc
      | cons x l =>
        have hx : x.length = colsOf (x :: l) := rfl
        rw [spec_ComposeGraphs_l1_eq, at_zero, at_of hk, spec_l21Step_ok row j _ _ _ hl hs hc hjc, Option.bind_some, app_of (by simp; omega), w64_nat (by omega)]
        have := ih (j + 1) (by omega)
        rw [List.range_succ, List.map_append] at this
        simp only [List.map_cons, List.map_nil] at this
        rw [this]
        simp only [hx, Int.ofNat_lt, hjc, decide_true, cond_true, List.length_cons, Int.natCast_add, Int.natCast_one]
        have : (0 : Int) < (l.length : Int) + 1 := by omega
        simp [this]
  simpa using key (colsOf h) 0 (by omega)
theorem spec_ComposeGraphs_of {a0 a1 : List UInt8} {a2 : List (List Int)} {a3 a4 : List UInt8} {a5 : List (List Int)} (l2 : a2.length ≤ 1048576) (l5 : a5.length ≤ 1048576) (m5 : ∀ x ∈ a5, x.length ≤ 1048576) :
    spec_ComposeGraphs a0 a1 a2 a3 a4 a5 = some (compG a0 a1 a2 a3 a4 a5) := by
  have hcs : colsOf a5 ≤ 1048576 := by
    cases a5 with
    | nil => simp [colsOf]
    | cons x l => exact m5 x (by simp)
  have fit1 : spec_l21Fit_l1 0 a0 a1 a2 a3 a4 a5 = some (decide (∀ x ∈ a5, x.length = colsOf a5) && (a1 == a3)) := by
    have := loopD a5 (fun k s => spec_l21Fit_l1 (k : Int) a0 a1 a2 a3 a4 a5 = some (decide (∀ x ∈ s, x.length = colsOf a5) && (a1 == a3))) (by rw [spec_l21Fit_l1_eq]; simp) (fun k e suf hd he hk ih => by
      have h0 : a5[0]? = some (a5[0]'(by omega)) := List.getElem?_eq_getElem (by omega)
      have hcol : (a5[0]'(by omega)).length = colsOf a5 := by
        cases a5 with
        | nil => simp at hk
        | cons x l => rfl
      rw [spec_l21Fit_l1_eq, at_of he, show (0 : Int) = ((0 : Nat) : Int) from rfl, at_of h0, w64_nat (by omega), ih, hcol]
      by_cases h1 : e.length = colsOf a5
      · have h3 : ((e.length : Int) == (colsOf a5 : Int)) = true := by simp; omega
        simp [hk, h3, h1]
      · have h3 : ((e.length : Int) == (colsOf a5 : Int)) = false := by simp; omega
        simp [hk, h3, h1])
    simpa using this
  have fit : spec_l21Fit a0 a1 a2 a3 a4 a5 = some (decide (∀ x ∈ a2, x.length = a5.length) && (decide (∀ x ∈ a5, x.length = colsOf a5) && (a1 == a3))) := by
    rw [spec_l21Fit_eq]
    have := loopD a2 (fun k s => spec_l21Fit_l0 (k : Int) a0 a1 a2 a3 a4 a5 = some (decide (∀ x ∈ s, x.length = a5.length) && (decide (∀ x ∈ a5, x.length = colsOf a5) && (a1 == a3)))) (by rw [spec_l21Fit_l0_eq, fit1]; simp) (fun k e suf hd he hk ih => by
      rw [spec_l21Fit_l0_eq, at_of he, w64_nat (by omega), ih]
      by_cases h1 : e.length = a5.length
      · have h3 : ((e.length : Int) == (a5.length : Int)) = true := by simp; omega
        simp [hk, h3, h1]
      · have h3 : ((e.length : Int) == (a5.length : Int)) = false := by simp; omega
        simp [hk, h3, h1])
    simpa using this
  rw [spec_ComposeGraphs_eq, fit, Option.bind_some, compG]
  by_cases hn : a1 = a3 ∧ (∀ x ∈ a5, x.length = colsOf a5) ∧ ∀ x ∈ a2, x.length = a5.length
  · obtain ⟨hn1, hc, hg⟩ := hn
    have := loopD a2 (fun k s => ∀ acc : List (List Int), acc.length = k → spec_ComposeGraphs_l0 (k : Int) a0 a1 a2 a3 a4 a5 [] [] [] a0 a4 acc = some (a0, a4, acc ++ s.map fun row => rowC row a5 (List.replicate (colsOf a5) 0), true))
      (fun acc _ => by rw [spec_ComposeGraphs_l0_eq]; simp) (fun k e suf hd he hk ih acc ha => by
        have hrl := hg e (List.mem_of_getElem? he)
        rw [spec_ComposeGraphs_l0_eq, spec_l1_ok k _ _ _ _ _ a5 _ _ _ _ _ acc he hrl (by omega) hc hcs (by omega), w64_nat (by omega), ih _ (by simp [ha])]
        simp [hk])
    have := this [] rfl
    rw [if_pos ⟨hn1, hc, hg⟩]
    have e1 : (decide (∀ x ∈ a2, x.length = a5.length) && (decide (∀ x ∈ a5, x.length = colsOf a5) && (a1 == a3))) = true := by
      rw [decide_eq_true hg, decide_eq_true hc]; simp [hn1]
    rw [e1]
    simpa using this
  · rw [if_neg hn]
    have e1 : (decide (∀ x ∈ a2, x.length = a5.length) && (decide (∀ x ∈ a5, x.length = colsOf a5) && (a1 == a3))) = false := by
      rw [Bool.eq_false_iff]
      intro h
      simp only [Bool.and_eq_true, decide_eq_true_eq, beq_iff_eq] at h
      exact hn ⟨h.2.2, h.2.1, h.1⟩
    rw [e1]
    rfl
end Go.Proofs.Ytoingpfepfhgkad.X
namespace Go.Proofs.Ytoingpfepfhgkad.X
open Go Go.Proofs.Ytoingpfepfhgkad.TM
open Go.Proofs.Ytoingpfepfhgkad.TM.Dat (size okd inr)
abbrev G3 := List UInt8 × List UInt8 × List (List Int)
def hasG (l : List G3) (a1 a2 : List UInt8) (a3 : List (List Int)) : Bool := l.any fun x => graphEq x.1 x.2.1 x.2.2 a1 a2 a3
def okG (g : G3) : Prop := g.2.2.length ≤ 1048576 ∧ ∀ x ∈ g.2.2, x.length ≤ 1048576
theorem okG.okd {g : G3} (h : okG g) : okd g.2.2 := ⟨by have := h.1; omega, fun x hx => ⟨by have := h.2 x hx; omega, fun _ _ => trivial⟩⟩
theorem spec_l22Has_ok {l : List G3} {a1 a2 : List UInt8} {a3 : List (List Int)} (h : ∀ x ∈ l, okG x) (hl : l.length ≤ 1073741824) : spec_l22Has l a1 a2 a3 = some (hasG l a1 a2 a3) := by
  rw [spec_l22Has_eq]
  exact anyLoop (F := fun i => spec_l22Has_l0 l i a1 a2 a3) (fun i => spec_l22Has_l0_eq l i a1 a2 a3) (fun x hx => spec_EqualGraph_ok (h x hx).okd) (by omega)
theorem graphEq_comm (a0 a1 : List UInt8) (a2 : List (List Int)) (a3 a4 : List UInt8) (a5 : List (List Int)) : graphEq a0 a1 a2 a3 a4 a5 = graphEq a3 a4 a5 a0 a1 a2 := by
  unfold graphEq
  simp only [beqD, eq_comm]
theorem impl_hasGraph_ok {l : List G3} {a1 a2 : List UInt8} {a3 : List (List Int)} (h : okG (a1, a2, a3)) (hl : l.length ≤ 1073741824) : impl_hasGraph l a1 a2 a3 = some (hasG l a1 a2 a3) := by
  rw [impl_hasGraph_eq, slices_ContainsFunc_eq, slices_IndexFunc_eq]
  have := idxLoop (F := fun i => slices_IndexFunc_l0 l a1 a2 a3 l.length i) (p := fun x => graphEq x.1 x.2.1 x.2.2 a1 a2 a3) (fun i => slices_IndexFunc_l0_eq l a1 a2 a3 _ i) (fun x hx => by rw [impl_hasGraph_1_eq, impl_EqualGraph_ok h.okd, Option.bind_some, graphEq_comm]) (by omega)
  exact (congrArg (fun r => Option.bind r fun x0 => some x0) this).trans rfl
def seed : List G3 → List G3 → List G3
  | [], l => l
  | y :: ys, l => if hasG l y.1 y.2.1 y.2.2 then seed ys l else seed ys (l ++ [y])
def pass (x : G3) : List G3 → List G3 → List G3
  | [], l => l
  | y :: ys, l => match compG x.1 x.2.1 x.2.2 y.1 y.2.1 y.2.2 with
    | (a, b, c, true) => if hasG l a b c then pass x ys l else pass x ys (l ++ [(a, b, c)])
    | (_, _, _, false) => pass x ys l
def clos (data : List G3) : Nat → Nat → List G3 → List G3 × Bool
  | 0, _, l => if l.length ≤ 60 then (l, true) else ([], false)
  | n + 1, k, l => match l[k]? with
    | some x => if l.length ≤ 60 then clos data n (k + 1) (pass x data l) else ([], false)
    | none => if l.length ≤ 60 then (l, true) else ([], false)
theorem compG_ok {a0 a1 : List UInt8} {a2 : List (List Int)} {a3 a4 : List UInt8} {a5 : List (List Int)} (h2 : a2.length ≤ 1048576) (h5 : ∀ x ∈ a5, x.length ≤ 1048576) :
    okG ((compG a0 a1 a2 a3 a4 a5).1, (compG a0 a1 a2 a3 a4 a5).2.1, (compG a0 a1 a2 a3 a4 a5).2.2.1) := by
  unfold compG
  split
  · rename_i h
    refine ⟨by simpa using h2, fun x hx => ?_⟩
    simp only [List.mem_map] at hx
    obtain ⟨row, _, rfl⟩ := hx
    rw [rowC_len row a5 _ (colsOf a5) h.2.1 (by simp)]
    cases a5 with
    | nil => simp [colsOf]
    | cons x l => exact h5 x (by simp)
  · exact ⟨by simp, by simp⟩
theorem pass_ok {x : G3} (hx : okG x) : ∀ {ys : List G3} {l : List G3}, (∀ y ∈ ys, okG y) → (∀ g ∈ l, okG g) → (∀ g ∈ pass x ys l, okG g) ∧ (pass x ys l).length ≤ l.length + ys.length ∧ ∃ m, pass x ys l = l ++ m
  | [], l, _, hl => ⟨hl, by simp [pass], [], by simp [pass]⟩
  | y :: ys, l, hy, hl => by
    have hc := compG_ok (a0 := x.1) (a1 := x.2.1) (a2 := x.2.2) (a3 := y.1) (a4 := y.2.1) (a5 := y.2.2) hx.1 (hy y (by simp)).2
    rw [pass]
    split
    · rename_i a b c he
      rw [he] at hc
      split
      · obtain ⟨h1, h2, h3⟩ := pass_ok hx (ys := ys) (l := l) (fun z hz => hy z (by simp [hz])) hl
        exact ⟨h1, by simp only [List.length_cons]; omega, h3⟩
      · obtain ⟨h1, h2, m, h3⟩ := pass_ok hx (ys := ys) (l := l ++ [(a, b, c)]) (fun z hz => hy z (by simp [hz])) (fun g hg => by
          rcases List.mem_append.1 hg with hg | hg
          · exact hl g hg
          · simp at hg; rw [hg]; exact hc)
        exact ⟨h1, by simp only [List.length_cons, List.length_append, List.length_nil] at *; omega, [(a, b, c)] ++ m, by rw [h3, List.append_assoc]⟩
    · obtain ⟨h1, h2, h3⟩ := pass_ok hx (ys := ys) (l := l) (fun z hz => hy z (by simp [hz])) hl
      exact ⟨h1, by simp only [List.length_cons]; omega, h3⟩
theorem impl_l2_ok {data : List G3} (hd : ∀ y ∈ data, okG y) (hn : data.length ≤ 1048576) (k : Nat) (n : Int) (b : Bool) {x : G3} (hx : okG x) {l : List G3} (hk : l[k]? = some x) (hl : ∀ g ∈ l, okG g) (hs : l.length ≤ 1048576) :
    impl_CloseGraphs_l2 data k n b data data.length 0 l = impl_CloseGraphs_l1 data (w64 ((k : Int) + 1)) (pass x data l) := by
  have := loopD data (fun j s => ∀ l : List G3, l[k]? = some x → (∀ g ∈ l, okG g) → l.length ≤ 1048576 + j → impl_CloseGraphs_l2 data k n b data data.length (j : Int) l = impl_CloseGraphs_l1 data (w64 ((k : Int) + 1)) (pass x s l))
    (fun l hk hl hs => by rw [impl_CloseGraphs_l2_eq]; simp [pass]) (fun j y suf hdr hy hj ih l hk hl hs => by
      have oy := hd y (List.mem_of_getElem? hy)
      have hc := compG_ok (a0 := x.1) (a1 := x.2.1) (a2 := x.2.2) (a3 := y.1) (a4 := y.2.1) (a5 := y.2.2) hx.1 oy.2
      rw [impl_CloseGraphs_l2_eq, at_of hy, at_of hk, atN_of hk, atN_of hk, impl_ComposeGraphs_of hx.1 oy.1 oy.2, Option.bind_some, w64_nat (by omega), pass]
      simp only [Int.ofNat_lt, hj, decide_true, cond_true]
      rcases hcg : compG x.1 x.2.1 x.2.2 y.1 y.2.1 y.2.2 with ⟨a, b', c, d⟩
      rw [hcg] at hc
      cases d with
      | false => simp only [cond_false]; exact ih l hk hl (by omega)
      | true =>
        simp only [cond_true]
        rw [impl_hasGraph_ok hc (by omega), Option.bind_some]
        cases hh : hasG l a b' c with
        | true => simp only [Bool.not_true, cond_false, if_true]; exact ih l hk hl (by omega)
        | false =>
          simp only [Bool.not_false, cond_true, Bool.false_eq_true, if_false]
          rw [app_of (by simp; omega)]
          have hkl : k < l.length := by
            rcases Nat.lt_or_ge k l.length with h | h
            · exact h
            · simp [List.getElem?_eq_none h] at hk
          exact ih _ (by rw [List.getElem?_append_left hkl]; exact hk) (fun g hg => by
            rcases List.mem_append.1 hg with hg | hg
            · exact hl g hg
            · simp at hg; rw [hg]; exact hc) (by simp; omega))
  simpa using this l hk hl (by omega)
theorem spec_l2_ok {data : List G3} (hd : ∀ y ∈ data, okG y) (hn : data.length ≤ 1048576) (k : Nat) (n : Int) (b : Bool) {x : G3} (hx : okG x) {l : List G3} (hk : l[k]? = some x) (hl : ∀ g ∈ l, okG g) (hs : l.length ≤ 1048576) :
    spec_CloseGraphs_l2 data k 0 n b l = spec_CloseGraphs_l1 data (w64 ((k : Int) + 1)) (pass x data l) := by
  have := loopD data (fun j s => ∀ l : List G3, l[k]? = some x → (∀ g ∈ l, okG g) → l.length ≤ 1048576 + j → spec_CloseGraphs_l2 data k (j : Int) n b l = spec_CloseGraphs_l1 data (w64 ((k : Int) + 1)) (pass x s l))
    (fun l hk hl hs => by rw [spec_CloseGraphs_l2_eq]; simp [pass]) (fun j y suf hdr hy hj ih l hk hl hs => by
      have oy := hd y (List.mem_of_getElem? hy)
      have hc := compG_ok (a0 := x.1) (a1 := x.2.1) (a2 := x.2.2) (a3 := y.1) (a4 := y.2.1) (a5 := y.2.2) hx.1 oy.2
      rw [spec_CloseGraphs_l2_eq, at_of hk, atN_of hk, at_of hy, atN_of hk, spec_ComposeGraphs_of hx.1 oy.1 oy.2, Option.bind_some, w64_nat (by omega), pass]
      simp only [Int.ofNat_lt, hj, decide_true, cond_true]
      rcases hcg : compG x.1 x.2.1 x.2.2 y.1 y.2.1 y.2.2 with ⟨a, b', c, d⟩
      rw [hcg] at hc
      cases d with
      | false => simp only [cond_false]; exact ih l hk hl (by omega)
      | true =>
        simp only [cond_true]
        rw [spec_l22Has_ok hl (by omega), Option.bind_some]
        cases hh : hasG l a b' c with
        | true => simp only [Bool.not_true, cond_false, if_true]; exact ih l hk hl (by omega)
        | false =>
          simp only [Bool.not_false, cond_true, Bool.false_eq_true, if_false]
          rw [app_of (by simp; omega)]
          have hkl : k < l.length := by
            rcases Nat.lt_or_ge k l.length with h | h
            · exact h
            · simp [List.getElem?_eq_none h] at hk
          exact ih _ (by rw [List.getElem?_append_left hkl]; exact hk) (fun g hg => by
            rcases List.mem_append.1 hg with hg | hg
            · exact hl g hg
            · simp at hg; rw [hg]; exact hc) (by simp; omega))
  simpa using this l hk hl (by omega)
theorem impl_c1_ok {data : List G3} (hd : ∀ y ∈ data, okG y) (hn : data.length ≤ 1048576) : ∀ (n k : Nat) (l : List G3), 61 ≤ k + n → (∀ g ∈ l, okG g) → impl_CloseGraphs_l1 data k l = some (clos data n k l)
  | 0, k, l, hk, hl => by
    rw [impl_CloseGraphs_l1_eq, clos]
    by_cases h : l.length ≤ 60
    · have h1 : ¬ k < l.length := by omega
      have h2 : ¬ 60 < l.length := by omega
      simp [h1, h, show ¬ (60 : Int) < (l.length : Int) by omega]
    · have h3 : (60 : Int) < (l.length : Int) := by omega
      have h4 : ¬ (l.length : Int) ≤ 60 := by omega
      simp [h, h3, h4]
  | n + 1, k, l, hk, hl => by
    rw [impl_CloseGraphs_l1_eq, clos]
    cases hg : l[k]? with
    | none =>
      have h1 : ¬ k < l.length := fun h => by simp [List.getElem?_eq_getElem h] at hg
      by_cases h : l.length ≤ 60
      · simp [h1, h, show ¬ (60 : Int) < (l.length : Int) by omega]
      · simp [h1, h, show (60 : Int) < (l.length : Int) by omega]
    | some x =>
      have h1 : k < l.length := by
        rcases Nat.lt_or_ge k l.length with h | h
        · exact h
        · simp [List.getElem?_eq_none h] at hg
      have hx := hl x (List.mem_of_getElem? hg)
      by_cases h : l.length ≤ 60
      · obtain ⟨p1, p2, m, p3⟩ := pass_ok hx hd hl
        simp only [Int.ofNat_lt, h1, decide_true, cond_true, show (l.length : Int) ≤ 60 by omega, h, if_true]
        rw [impl_l2_ok hd (by omega) k _ _ hx hg hl (by omega), w64_nat (by omega)]
        exact impl_c1_ok hd hn n (k + 1) _ (by omega) p1
      · simp [h1, h, show (60 : Int) < (l.length : Int) by omega, show ¬ (l.length : Int) ≤ 60 by omega]
theorem spec_c1_ok {data : List G3} (hd : ∀ y ∈ data, okG y) (hn : data.length ≤ 1048576) : ∀ (n k : Nat) (l : List G3), 61 ≤ k + n → (∀ g ∈ l, okG g) → spec_CloseGraphs_l1 data k l = some (clos data n k l)
  | 0, k, l, hk, hl => by
    rw [spec_CloseGraphs_l1_eq, clos]
    by_cases h : l.length ≤ 60
    · have h1 : ¬ k < l.length := by omega
      have h2 : ¬ 60 < l.length := by omega
      simp [h1, h, show ¬ (60 : Int) < (l.length : Int) by omega]
    · have h3 : (60 : Int) < (l.length : Int) := by omega
      have h4 : ¬ (l.length : Int) ≤ 60 := by omega
      simp [h, h3, h4]
  | n + 1, k, l, hk, hl => by
    rw [spec_CloseGraphs_l1_eq, clos]
    cases hg : l[k]? with
    | none =>
      have h1 : ¬ k < l.length := fun h => by simp [List.getElem?_eq_getElem h] at hg
      by_cases h : l.length ≤ 60
      · simp [h1, h, show ¬ (60 : Int) < (l.length : Int) by omega]
      · simp [h1, h, show (60 : Int) < (l.length : Int) by omega]
    | some x =>
      have h1 : k < l.length := by
        rcases Nat.lt_or_ge k l.length with h | h
        · exact h
        · simp [List.getElem?_eq_none h] at hg
      have hx := hl x (List.mem_of_getElem? hg)
      by_cases h : l.length ≤ 60
      · obtain ⟨p1, p2, m, p3⟩ := pass_ok hx hd hl
        simp only [Int.ofNat_lt, h1, decide_true, cond_true, show (l.length : Int) ≤ 60 by omega, h, if_true]
        rw [spec_l2_ok hd (by omega) k _ _ hx hg hl (by omega), w64_nat (by omega)]
        exact spec_c1_ok hd hn n (k + 1) _ (by omega) p1
      · simp [h1, h, show (60 : Int) < (l.length : Int) by omega, show ¬ (l.length : Int) ≤ 60 by omega]
theorem both_same {α : Type} (x : Option α) : both_ x x = x := by unfold both_; simp
theorem slices_Clone_ok {l : List Int} (h : l.length ≤ 1073741824) : slices_Clone l = some l := by
  rw [slices_Clone_eq, app_of (by simpa using h)]
  cases l with
  | nil => simp [both_same]
  | cons x l => simp
theorem impl_copyGraph_ok {a0 a1 : List UInt8} {a2 : List (List Int)} (h : okG (a0, a1, a2)) : impl_copyGraph a0 a1 a2 = some (a0, a1, a2) := by
  rw [impl_copyGraph_eq]
  have h1 : a2.length ≤ 1048576 := h.1
  have := loopD a2 (fun k s => ∀ acc : List (List Int), acc.length = k → impl_copyGraph_l0 a2 a2.length (k : Int) [] [] [] a0 a1 acc = some (a0, a1, acc ++ s)) (fun acc _ => by rw [impl_copyGraph_l0_eq]; simp) (fun k x suf hd hx hk ih acc ha => by
    have h2 : x.length ≤ 1048576 := h.2 x (List.mem_of_getElem? hx)
    rw [impl_copyGraph_l0_eq, at_of hx, slices_Clone_ok (by omega), Option.bind_some, app_of (by simp; omega), w64_nat (by omega), ih _ (by simp [ha])]
    simp [hk])
  simpa using this [] rfl
theorem spec_l21Copy_ok {a0 a1 : List UInt8} {a2 : List (List Int)} (h : okG (a0, a1, a2)) : spec_l21Copy a0 a1 a2 = some (a0, a1, a2) := by
  rw [spec_l21Copy_eq]
  have h1 : a2.length ≤ 1048576 := h.1
  have := loopD a2 (fun k s => ∀ acc : List (List Int), acc.length = k → spec_l21Copy_l0 (k : Int) a0 a1 a2 [] [] [] a0 a1 acc = some (a0, a1, acc ++ s)) (fun acc _ => by rw [spec_l21Copy_l0_eq]; simp) (fun k x suf hd hx hk ih acc ha => by
    have h2 : x.length ≤ 1048576 := h.2 x (List.mem_of_getElem? hx)
    rw [spec_l21Copy_l0_eq, at_of hx, app_of (by simp; omega), app_of (by simp; omega), w64_nat (by omega), ih _ (by simp [ha])]
    simp [hk])
  simpa using this [] rfl
theorem seed_ok : ∀ {ys l : List G3}, (∀ y ∈ ys, okG y) → (∀ g ∈ l, okG g) → ∀ g ∈ seed ys l, okG g
  | [], _, _, hl => hl
  | y :: ys, l, hy, hl => by
    rw [seed]
    split
    · exact seed_ok (fun z hz => hy z (by simp [hz])) hl
    · exact seed_ok (fun z hz => hy z (by simp [hz])) fun g hg => by
        rcases List.mem_append.1 hg with hg | hg
        · exact hl g hg
        · simp at hg; rw [hg]; exact hy y (by simp)
def closure (data : List G3) : List G3 × Bool := clos data 61 0 (seed data [])
theorem impl_CloseGraphs_ok {data : List G3} (hd : ∀ y ∈ data, okG y) (hn : data.length ≤ 1048576) : impl_CloseGraphs data = some (closure data) := by
  rw [impl_CloseGraphs_eq]
  have := loopD data (fun j s => ∀ l : List G3, (∀ g ∈ l, okG g) → l.length ≤ j → impl_CloseGraphs_l0 data data data.length (j : Int) l = impl_CloseGraphs_l1 data 0 (seed s l))
    (fun l hl hs => by rw [impl_CloseGraphs_l0_eq]; simp [seed]) (fun j y suf hdr hy hj ih l hl hs => by
      have oy := hd y (List.mem_of_getElem? hy)
      rw [impl_CloseGraphs_l0_eq, at_of hy, impl_hasGraph_ok oy (by omega), Option.bind_some, w64_nat (by omega), seed]
      simp only [Int.ofNat_lt, hj, decide_true, cond_true]
      cases hh : hasG l y.1 y.2.1 y.2.2 with
      | true => simp only [Bool.not_true, cond_false, if_true]; exact ih l hl (by omega)
      | false =>
        simp only [Bool.not_false, cond_true, Bool.false_eq_true, if_false]
        rw [impl_copyGraph_ok oy, Option.bind_some, app_of (by simp; omega)]
        exact ih _ (fun g hg => by
          rcases List.mem_append.1 hg with hg | hg
          · exact hl g hg
          · simp at hg; rw [hg]; exact oy) (by simp; omega))
  have h0 := this [] (by simp) (by simp)
  exact h0.trans (impl_c1_ok hd hn 61 0 _ (by omega) (seed_ok hd (by simp)))
theorem spec_CloseGraphs_ok {data : List G3} (hd : ∀ y ∈ data, okG y) (hn : data.length ≤ 1048576) : spec_CloseGraphs data = some (closure data) := by
  rw [spec_CloseGraphs_eq]
  have := loopD data (fun j s => ∀ l : List G3, (∀ g ∈ l, okG g) → l.length ≤ j → spec_CloseGraphs_l0 data (j : Int) l = spec_CloseGraphs_l1 data 0 (seed s l))
    (fun l hl hs => by rw [spec_CloseGraphs_l0_eq]; simp [seed]) (fun j y suf hdr hy hj ih l hl hs => by
      have oy := hd y (List.mem_of_getElem? hy)
      rw [spec_CloseGraphs_l0_eq, at_of hy, spec_l22Has_ok hl (by omega), Option.bind_some, at_of hy, w64_nat (by omega), seed]
      simp only [Int.ofNat_lt, hj, decide_true, cond_true]
      cases hh : hasG l y.1 y.2.1 y.2.2 with
      | true => simp only [Bool.not_true, cond_false, if_true]; exact ih l hl (by omega)
      | false =>
        simp only [Bool.not_false, cond_true, Bool.false_eq_true, if_false]
        rw [spec_l21Copy_ok oy, Option.bind_some, app_of (by simp; omega)]
        exact ih _ (fun g hg => by
          rcases List.mem_append.1 hg with hg | hg
          · exact hl g hg
          · simp at hg; rw [hg]; exact oy) (by simp; omega))
  have h0 := this [] (by simp) (by simp)
  exact h0.trans (spec_c1_ok hd hn 61 0 _ (by omega) (seed_ok hd (by simp)))
end Go.Proofs.Ytoingpfepfhgkad.X
namespace Go.Proofs.Ytoingpfepfhgkad.X
open Go Go.Proofs.Ytoingpfepfhgkad.TM
open Go.Proofs.Ytoingpfepfhgkad.TM.Dat (size okd inr)
def hasDec : List (List Int) → Nat → Bool
  | [], _ => false
  | r :: l, k => r[k]? == some 2 || hasDec l (k + 1)
theorem impl_HasDecrease_l0_ok {l : List (List Int)} (hl : l.length ≤ 1048576) : impl_HasDecrease_l0 l (l.length : Int) 0 = some (hasDec l 0) := by
  refine loopD l (fun k s => impl_HasDecrease_l0 l (l.length : Int) (k : Int) = some (hasDec s k)) (by rw [impl_HasDecrease_l0_eq]; simp [hasDec]) fun k x suf hd hx hk ih => ?_
  rw [impl_HasDecrease_l0_eq, at_of hx, w64_nat (by omega), ih, hasDec]
  by_cases h : k < x.length
  · rw [at_of (List.getElem?_eq_getElem h)]
    cases h2 : (x[k] == 2) <;> simp [hk, h, h2]
  · simp [hk, h]
theorem spec_HasDecrease_l0_ok {a b : List UInt8} {l : List (List Int)} (hl : l.length ≤ 1048576) : spec_HasDecrease_l0 0 a b l = some (hasDec l 0 || !(a == b)) := by
  refine loopD l (fun k s => spec_HasDecrease_l0 (k : Int) a b l = some (hasDec s k || !(a == b))) (by rw [spec_HasDecrease_l0_eq]; simp [hasDec]) fun k x suf hd hx hk ih => ?_
  rw [spec_HasDecrease_l0_eq, at_of hx, at_of hx, w64_nat (by omega), ih, hasDec]
  by_cases h : k < x.length
  · rw [at_of (List.getElem?_eq_getElem h)]
    cases h2 : (x[k] == 2) <;> simp [hk, h, h2]
  · simp [hk, h]
def decG (g : G3) : Bool := hasDec g.2.2 0 || !(g.1 == g.2.1)
theorem impl_HasDecrease_ok {a b : List UInt8} {l : List (List Int)} (hl : l.length ≤ 1048576) : impl_HasDecrease a b l = some (decG (a, b, l)) := by
  rw [impl_HasDecrease_eq, impl_HasDecrease_l0_ok hl, decG]
  cases h : (a == b) <;> simp [h]
theorem spec_HasDecrease_ok {a b : List UInt8} {l : List (List Int)} (hl : l.length ≤ 1048576) : spec_HasDecrease a b l = some (decG (a, b, l)) := by
  rw [spec_HasDecrease_eq, spec_HasDecrease_l0_ok hl, decG]
def idemG (g : G3) : Bool := let c := compG g.1 g.2.1 g.2.2 g.1 g.2.1 g.2.2; c.2.2.2 && graphEq g.1 g.2.1 g.2.2 c.1 c.2.1 c.2.2.1
theorem spec_IsIdempotent_ok {g : G3} (h : okG g) : spec_IsIdempotent g.1 g.2.1 g.2.2 = some (idemG g) := by
  rw [spec_IsIdempotent_eq, spec_ComposeGraphs_of h.1 h.1 h.2]
  simp only [Option.bind_some, spec_EqualGraph_ok h.okd, and_cond, idemG]
theorem impl_IsIdempotent_ok {g : G3} (h : okG g) : impl_IsIdempotent g.1 g.2.1 g.2.2 = some (idemG g) := by
  rw [impl_IsIdempotent_eq, impl_ComposeGraphs_of h.1 h.1 h.2]
  simp only [Option.bind_some, impl_EqualGraph_ok h.okd, and_cond, idemG]
  by_cases hn : g.1 = g.2.1
  · simp [hn]
  · have : compG g.1 g.2.1 g.2.2 g.1 g.2.1 g.2.2 = ([], [], [], false) := by rw [compG, if_neg (fun e => hn e.1.symm)]
    rw [this]
    simp
def critG (g : G3) : Bool := idemG g && !decG g
theorem impl_crit_ok {g : G3} (h : okG g) : impl_GraphsTerminate_1 g.1 g.2.1 g.2.2 = some (critG g) := by
  rw [impl_GraphsTerminate_1_eq, impl_IsIdempotent_ok h, Option.bind_some, impl_HasDecrease_ok h.1, Option.bind_some, critG]
  cases idemG g <;> simp
theorem clos_len (data : List G3) : ∀ n k l, (clos data n k l).1.length ≤ 60
  | 0, k, l => by rw [clos]; split <;> simp [*]
  | n + 1, k, l => by
    rw [clos]
    split
    · split
      · exact clos_len data n _ _
      · simp
    · split <;> simp [*]
theorem clos_ok {data : List G3} (hd : ∀ y ∈ data, okG y) : ∀ n k l, (∀ g ∈ l, okG g) → ∀ g ∈ (clos data n k l).1, okG g
  | 0, k, l, hl => by rw [clos]; split <;> simp [hl]; exact fun a b c => hl (a, b, c)
  | n + 1, k, l, hl => by
    rw [clos]
    split
    · rename_i x hx
      split
      · exact clos_ok hd n _ _ (pass_ok (hl x (List.mem_of_getElem? hx)) hd hl).1
      · simp
    · split
      · exact hl
      · simp
theorem closure_ok {data : List G3} (hd : ∀ y ∈ data, okG y) : (closure data).1.length ≤ 60 ∧ ∀ g ∈ (closure data).1, okG g :=
  ⟨clos_len _ _ _ _, clos_ok hd _ _ _ (seed_ok hd (by simp))⟩
theorem impl_anyCrit {l : List G3} (h : ∀ g ∈ l, okG g) (hl : l.length ≤ 1048576) : slices_ContainsFunc_1 l () = some (l.any critG) := by
  rw [slices_ContainsFunc_1_eq, slices_IndexFunc_1_eq]
  have := idxLoop (F := fun i => slices_IndexFunc_1_l0 l l.length i) (p := critG) (fun i => slices_IndexFunc_1_l0_eq l _ i) (fun x hx => impl_crit_ok (h x hx)) (by omega)
  exact this
def firstC : List G3 → List UInt8 × List UInt8 × List (List Int) × Bool
  | [] => ([], [], [], false)
  | g :: l => if critG g then (g.1, g.2.1, g.2.2, true) else firstC l
theorem firstC_any : ∀ l, (firstC l).2.2.2 = l.any critG
  | [] => rfl
  | g :: l => by
    rw [firstC, List.any_cons]
    cases h : critG g <;> simp [firstC_any l]
theorem spec_firstC {l : List G3} (h : ∀ g ∈ l, okG g) (hl : l.length ≤ 1048576) : spec_CriticalGraph_l0 0 [] [] [] l = some (firstC l) := by
  refine loopD l (fun k s => spec_CriticalGraph_l0 (k : Int) [] [] [] l = some (firstC s)) (by rw [spec_CriticalGraph_l0_eq]; simp [firstC]) fun k x suf hd hx hk ih => ?_
  have ox := h x (List.mem_of_getElem? hx)
  have e1 : spec_IsIdempotent x.1 x.2.1 x.2.2 = some (idemG x) := spec_IsIdempotent_ok ox
  have e2 : spec_HasDecrease x.1 x.2.1 x.2.2 = some (decG x) := spec_HasDecrease_ok ox.1
  have e3 : spec_l21Copy x.1 x.2.1 x.2.2 = some (x.1, x.2.1, x.2.2) := spec_l21Copy_ok ox
  rw [spec_CriticalGraph_l0_eq]
  simp only [at_of hx, atN_of hx, e1, e2, e3, Option.bind_some, w64_nat (show k < 9223372036854775807 by omega), ih, Int.ofNat_lt, hk, decide_true, cond_true]
  rw [firstC, critG]
  cases idemG x <;> cases decG x <;> simp
end Go.Proofs.Ytoingpfepfhgkad.X
namespace Go.Proofs.Ytoingpfepfhgkad.X
open Go Go.Proofs.Ytoingpfepfhgkad.TM
open Go.Proofs.Ytoingpfepfhgkad.TM.Dat (size okd inr)
end Go.Proofs.Ytoingpfepfhgkad.X
namespace Go.Proofs.Ytoingpfepfhgkad.X
open Go Go.Proofs.Ytoingpfepfhgkad.TM
open Go.Proofs.Ytoingpfepfhgkad.TM.Dat (size okd inr)
end Go.Proofs.Ytoingpfepfhgkad.X
namespace Go.Proofs.Ytoingpfepfhgkad.X
open Go Go.Proofs.Ytoingpfepfhgkad.TM
open Go.Proofs.Ytoingpfepfhgkad.TM.Dat (size okd inr)
end Go.Proofs.Ytoingpfepfhgkad.X
namespace Go.Proofs.Ytoingpfepfhgkad.X
open Go Go.Proofs.Ytoingpfepfhgkad.TM
open Go.Proofs.Ytoingpfepfhgkad.TM.Dat (size okd inr)
end Go.Proofs.Ytoingpfepfhgkad.X
namespace Go.Proofs.Ytoingpfepfhgkad.X
open Go Go.Proofs.Ytoingpfepfhgkad.TM
open Go.Proofs.Ytoingpfepfhgkad.TM.Dat (size okd inr)
end Go.Proofs.Ytoingpfepfhgkad.X
namespace Go.Proofs.Ytoingpfepfhgkad.X
open Go Go.Proofs.Ytoingpfepfhgkad.TM
open Go.Proofs.Ytoingpfepfhgkad.TM.Dat (size okd inr)
end Go.Proofs.Ytoingpfepfhgkad.X
namespace Go.Proofs.Ytoingpfepfhgkad.X
open Go Go.Proofs.Ytoingpfepfhgkad.TM
open Go.Proofs.Ytoingpfepfhgkad.TM.Dat (size okd inr)
theorem and255 (a : Int) : 0 ≤ and_ .i64 a 255 ∧ and_ .i64 a 255 ≤ 255 := by
  unfold and_
  have h : (BitVec.ofInt IntKind.i64.bits a &&& BitVec.ofInt IntKind.i64.bits 255).toNat ≤ 255 := by
    rw [BitVec.toNat_and]
    exact Nat.le_trans Nat.and_le_right (by decide)
  rw [show IntKind.i64.wrap ((BitVec.ofInt IntKind.i64.bits a &&& BitVec.ofInt IntKind.i64.bits 255).toNat : Int) = _ from w64_id (by omega) (by omega)]
  omega
def Dr {α : Type} (c : List Int) (o : Option (List Int × Int × Int × α)) (P : α → Prop) : Prop := ∃ (p s : Int) (v : α), o = some (c, p, s, v) ∧ 0 ≤ p ∧ p ≤ c.length ∧ P v
def At (c : List Int) (p : Int) : Prop := (0 ≤ p ∧ p ≤ c.length) ∧ c.length ≤ 1048576
theorem Byte_ok {c : List Int} {p s : Int} (h : At c p) : Dr c (spec_l1Byte c p s) (fun v => 0 ≤ v ∧ v ≤ 255) := by
  obtain ⟨⟨h0, h1⟩, h2⟩ := h
  rw [spec_l1Byte_eq]
  by_cases hp : p < c.length
  · obtain ⟨k, rfl⟩ := Int.eq_ofNat_of_zero_le h0
    have hk : k < c.length := by omega
    simp only [hp, decide_true, cond_true]
    rw [at_of (List.getElem?_eq_getElem hk), w64_nat (n := k) (by omega)]
    exact ⟨_, _, _, rfl, by omega, by omega, and255 _⟩
  · simp only [hp, decide_false, cond_false]
    exact ⟨_, _, _, rfl, h0, h1, and255 _⟩
theorem Below_ok {c : List Int} {p s m : Int} (h : At c p) (hm : m ≤ 256) : Dr c (spec_l1Below c p s m) (fun v => 0 ≤ v ∧ (v < m ∨ v = 0)) := by
  rw [spec_l1Below_eq]
  by_cases h0 : m ≤ 0
  · simp only [h0, decide_true, cond_true]
    exact ⟨_, _, _, rfl, h.1.1, h.1.2, by omega, .inr rfl⟩
  · obtain ⟨p', s', v, e, q1, q2, q3⟩ := Byte_ok (s := s) h
    have hz : (m == 0) = false := by simp; omega
    simp only [h0, hm, decide_true, decide_false, cond_true, cond_false, e, Option.bind_some, hz]
    refine ⟨_, _, _, rfl, q1, q2, ?_⟩
    rw [Int.tmod_eq_emod_of_nonneg q3.1]
    have := Int.emod_nonneg v (show m ≠ 0 by omega)
    have := Int.emod_lt_of_pos v (show 0 < m by omega)
    omega
theorem Once_ok {c : List Int} {p s m : Int} (h : At c p) (hm : m ≤ 256) : Dr c (spec_l1Once c p s m) (fun _ => True) := by
  obtain ⟨p', s', v, e, q1, q2, _⟩ := Below_ok (s := s) h hm
  rw [spec_l1Once_eq, e]
  exact ⟨_, _, _, rfl, q1, q2, trivial⟩
theorem Pick_ok {c : List Int} {p s : Int} {l : List Int} (h : At c p) (hl : l.length ≤ 256) (hn : l ≠ []) : Dr c (spec_l1PickInt c p s l) (fun v => v ∈ l) := by
  have hn : 0 < l.length := List.length_pos_iff.2 hn
  obtain ⟨p', s', v, e, q1, q2, q3, q4⟩ := Below_ok (s := s) (m := (l.length : Int)) h (by omega)
  obtain ⟨k, rfl⟩ := Int.eq_ofNat_of_zero_le q3
  have hk : k < l.length := by omega
  rw [spec_l1PickInt_eq, e, Option.bind_some]
  simp only
  rw [at_of (List.getElem?_eq_getElem hk)]
  exact ⟨_, _, _, rfl, q1, q2, List.getElem_mem hk⟩
theorem New_ok (c : List Int) (hc : c.length ≤ 1048576) : ∃ s : Int, spec_l1New c = some (c, 0, s) := by
  rw [spec_l1New_eq]
  have := loopD c (fun k _ => ∀ a : Int, ∃ s : Int, spec_l1New_l0 c a (k : Int) = some (c, 0, s)) (fun a => ⟨a, by rw [spec_l1New_l0_eq]; simp⟩) (fun k x suf hd hx hk ih a => by
    rw [spec_l1New_l0_eq]
    by_cases h4 : (k : Int) < 4000
    · simp only [hk, Int.ofNat_lt, decide_true, cond_true, h4]
      rw [at_of hx, w64_nat (n := k) (by omega)]
      exact ih _
    · simp only [hk, Int.ofNat_lt, decide_true, cond_true, h4, decide_false, cond_false]
      exact ⟨_, rfl⟩)
  exact this _
end Go.Proofs.Ytoingpfepfhgkad.X
namespace Go.Proofs.Ytoingpfepfhgkad.X
open Go Go.Proofs.Ytoingpfepfhgkad.TM
open Go.Proofs.Ytoingpfepfhgkad.TM.Dat (size okd inr)
def Arcs (n m : Nat) (l : List (List Int)) : Prop := l.length = n ∧ ∀ r ∈ l, m ≤ r.length ∧ r.length ≤ m + 1
theorem Draw21_l1 {c : List Int} (hc : c.length ≤ 1048576) (n : Int) (m : Nat) (hm : m ≤ 1000) (i : Int) (f t : List UInt8) (arcs : List (List Int)) (ha : arcs.length ≤ 1000) : ∀ (j k : Nat) (p s : Int) (row : List Int), k + j = m → (0 ≤ p ∧ p ≤ c.length) → row.length = k →
    ∃ (p' s' : Int) (row' : List Int), (0 ≤ p' ∧ p' ≤ c.length) ∧ row'.length = m ∧ spec_l21Draw_l1 n m i k c p s [] [] [] f t arcs row = spec_l21Draw_l0 n m (w64 (i + 1)) c p' s' [] [] [] f t (arcs ++ [row']) := by
  intro j
  induction j with
  | zero =>
    intro k p s row hk hp hr
    have : k = m := by omega
    subst this
    refine ⟨p, s, row, hp, hr, ?_⟩
    rw [spec_l21Draw_l1_eq]
    simp only [Int.lt_irrefl, decide_false, cond_false]
    rw [app_of (by simp; omega)]
  | succ j ih =>
    intro k p s row hk hp hr
    have hkm : (k : Int) < (m : Int) := by omega
    obtain ⟨p', s', v, e, q1, q2, _⟩ := Pick_ok (s := s) (c := c) (p := p) (l := [0, 0, 1, 2]) ⟨hp, hc⟩ (by simp) (by simp)
    obtain ⟨p2, s2, row2, h1, h2, h3⟩ := ih (k + 1) p' s' (row ++ [v]) (by omega) ⟨q1, q2⟩ (by simp [hr])
    refine ⟨p2, s2, row2, h1, h2, ?_⟩
    rw [spec_l21Draw_l1_eq]
    simp only [hkm, decide_true, cond_true, e, Option.bind_some]
    rw [app_of (by simp; omega), w64_nat (n := k) (by omega)]
    exact h3
theorem Draw21_l0 {c : List Int} (hc : c.length ≤ 1048576) (n m : Nat) (hn : n ≤ 999) (hm : m ≤ 1000) (f t : List UInt8) : ∀ (j i : Nat) (p s : Int) (arcs : List (List Int)), i + j = n → (0 ≤ p ∧ p ≤ c.length) → arcs.length = i → (∀ r ∈ arcs, r.length = m) →
    Dr c (spec_l21Draw_l0 n m i c p s [] [] [] f t arcs) (fun g => g.1 = f ∧ g.2.1 = t ∧ Arcs n m g.2.2) := by
  intro j
  induction j with
  | zero =>
    intro i p s arcs hi hp ha hr
    have : i = n := by omega
    subst this
    have hr' : ∀ r ∈ arcs, m ≤ r.length ∧ r.length ≤ m + 1 := fun r h => by have := hr r h; omega
    rw [spec_l21Draw_l0_eq]
    simp only [Int.lt_irrefl, decide_false, cond_false]
    by_cases h0 : (0 : Int) < (i : Int)
    · obtain ⟨p', s', b, e, q1, q2, _⟩ := Once_ok (s := s) (m := 12) (c := c) (p := p) ⟨hp, hc⟩ (by omega)
      simp only [h0, decide_true, cond_true, e, Option.bind_some]
      cases b with
      | false => exact ⟨_, _, _, rfl, q1, q2, rfl, rfl, ha, hr'⟩
      | true =>
        obtain ⟨p2, s2, v, e2, r1, r2, _⟩ := Below_ok (s := s') (m := 4) (c := c) (p := p') ⟨⟨q1, q2⟩, hc⟩ (by omega)
        cases arcs with
        | nil => simp at ha; omega
        | cons x l =>
          have hx := hr x (by simp)
          simp only [cond_true, at_zero, e2, Option.bind_some]
          simp only [atN, List.getElem?_cons_zero]
          rw [app_of (by simp; omega)]
          simp only [beq_self_eq_true, cond_true]
          refine ⟨_, _, _, rfl, r1, r2, rfl, rfl, by simpa using ha, fun r h => ?_⟩
          simp only [List.set_cons_zero, List.mem_cons] at h
          rcases h with rfl | h
          · simp; omega
          · exact hr' r (by simp [h])
    · simp only [h0, decide_false, cond_false]
      exact ⟨_, _, _, rfl, hp.1, hp.2, rfl, rfl, ha, hr'⟩
  | succ j ih =>
    intro i p s arcs hi hp ha hr
    have hin : (i : Int) < (n : Int) := by omega
    obtain ⟨p', s', row, h1, h2, h3⟩ := Draw21_l1 hc n m hm i f t arcs (by omega) m 0 p s [] (by omega) hp rfl
    rw [spec_l21Draw_l0_eq]
    simp only [hin, decide_true, cond_true]
    have h3' : spec_l21Draw_l1 (n : Int) (m : Int) (i : Int) 0 c p s [] [] [] f t arcs [] = _ := h3
    rw [h3', w64_nat (n := i) (by omega)]
    refine ih (i + 1) p' s' _ (by omega) h1 (by simp [ha]) fun r h => ?_
    rcases List.mem_append.1 h with h | h
    · exact hr r h
    · simp at h; rw [h]; exact h2
theorem Draw21_ok {c : List Int} {p s : Int} {n m : Nat} {f t : List UInt8} (h : At c p) (hn : n ≤ 999) (hm : m ≤ 1000) : Dr c (spec_l21Draw c p s f t n m) (fun g => g.1 = f ∧ g.2.1 = t ∧ Arcs n m g.2.2) := by
  rw [spec_l21Draw_eq]
  exact Draw21_l0 h.2 n m hn hm f t n 0 p s [] (by omega) h.1 rfl (by simp)
theorem Arcs.okG {n m : Nat} {f t : List UInt8} {l : List (List Int)} (h : Arcs n m l) (hn : n ≤ 999) (hm : m ≤ 1000) : okG (f, t, l) := ⟨by have := h.1; show l.length ≤ _; omega, fun x hx => by have := h.2 x hx; omega⟩
theorem Text_ok {c : List Int} {p s : Int} {l : List (List UInt8)} (h : At c p) (hl : l.length ≤ 256) (hn : l ≠ []) : Dr c (spec_l1Pick c p s l) (fun v => v ∈ l) := by
  have hn : 0 < l.length := List.length_pos_iff.2 hn
  obtain ⟨p', s', v, e, q1, q2, q3, q4⟩ := Below_ok (s := s) (m := (l.length : Int)) h (by omega)
  obtain ⟨k, rfl⟩ := Int.eq_ofNat_of_zero_le q3
  have hk : k < l.length := by omega
  rw [spec_l1Pick_eq, e, Option.bind_some]
  simp only
  rw [at_of (List.getElem?_eq_getElem hk)]
  exact ⟨_, _, _, rfl, q1, q2, List.getElem_mem hk⟩
theorem Draw22_ok {c : List Int} {p s : Int} (h : At c p) : Dr c (spec_l22Draw c p s) (fun l => l.length ≤ 3 ∧ ∀ g ∈ l, okG g) := by
  obtain ⟨p1, s1, v, e1, q1, q2, q3, q4⟩ := Below_ok (s := s) (m := 3) h (by omega)
  obtain ⟨n, hn⟩ := Int.eq_ofNat_of_zero_le (show 0 ≤ 1 + v by omega)
  have hw : w64 (1 + v) = (n : Int) := by rw [w64_id (by omega) (by omega)]; exact hn
  have hc := h.2
  rw [spec_l22Draw_eq, e1, Option.bind_some]
  simp only
  rw [hw]
  have key : ∀ (m k : Nat) (p s : Int) (l : List G3), k + m = n → (0 ≤ p ∧ p ≤ c.length) → l.length = k → (∀ g ∈ l, okG g) → Dr c (spec_l22Draw_l0 n (k : Int) c p s l) (fun l => l.length ≤ 3 ∧ ∀ g ∈ l, okG g) := by
    intro m
    induction m with
    | zero =>
      intro k p s l hk hp hl hg
      have : k = n := by omega
      subst this
      rw [spec_l22Draw_l0_eq]
      simp only [Int.lt_irrefl, decide_false, cond_false]
      exact ⟨_, _, _, rfl, hp.1, hp.2, by omega, hg⟩
    | succ m ih =>
      intro k p s l hk hp hl hg
      have hkn : (k : Int) < (n : Int) := by omega
      obtain ⟨pa, sa, ta, ea, a1, a2, _⟩ := Text_ok (s := s) (c := c) (p := p) (l := [[102], [102], [103]]) ⟨hp, hc⟩ (by simp) (by simp)
      obtain ⟨pb, sb, tb, eb, b1, b2, _⟩ := Text_ok (s := sa) (c := c) (p := pa) (l := [[102], [102], [103]]) ⟨⟨a1, a2⟩, hc⟩ (by simp) (by simp)
      obtain ⟨pc, sc, g, ec, c1, c2, _, _, c5⟩ := Draw21_ok (c := c) (p := pb) (s := sb) (n := 2) (m := 2) (f := ta) (t := tb) ⟨⟨b1, b2⟩, hc⟩ (by omega) (by omega)
      have ec' : spec_l21Draw c pb sb ta tb 2 2 = _ := ec
      rw [spec_l22Draw_l0_eq]
      simp only [hkn, decide_true, cond_true, ea, eb, ec', Option.bind_some]
      rw [app_of (by simp; omega), w64_nat (n := k) (by omega)]
      refine ih (k + 1) pc sc _ (by omega) ⟨c1, c2⟩ (by simp [hl]) fun g' h => ?_
      rcases List.mem_append.1 h with h | h
      · exact hg g' h
      · simp at h; rw [h]; exact c5.okG (f := g.1) (t := g.2.1) (by omega) (by omega)
  exact key n 0 p1 s1 [] (by omega) ⟨q1, q2⟩ rfl (by simp)
theorem DrawBelowGraph_ok {c : List Int} (hc : c.length ≤ 1048576) : ∃ a b : G3, okG a ∧ okG b ∧ (b.1 = [102] ∧ b.2.1 = [103]) ∧ spec_DrawBelowGraph c = some (a.1, a.2.1, a.2.2, b.1, b.2.1, b.2.2) := by
  obtain ⟨s, e0⟩ := New_ok c hc
  obtain ⟨p1, s1, a, e1, q1, q2, qa, qb, q5⟩ := Draw21_ok (c := c) (p := 0) (s := s) (n := 2) (m := 2) (f := [102]) (t := [103]) ⟨⟨by omega, by omega⟩, hc⟩ (by omega) (by omega)
  have e1' : spec_l21Draw c 0 s [102] [103] 2 2 = _ := e1
  have oa : okG a := q5.okG (f := a.1) (t := a.2.1) (by omega) (by omega)
  obtain ⟨p2, s2, v, e2, r1, r2, r3, r4⟩ := Below_ok (c := c) (p := p1) (s := s1) (m := 3) ⟨⟨q1, q2⟩, hc⟩ (by omega)
  rw [spec_DrawBelowGraph_eq, e0, Option.bind_some]
  simp only
  rw [e1', Option.bind_some]
  simp only
  rw [spec_l21Copy_ok oa, Option.bind_some]
  simp only
  rw [e2, Option.bind_some]
  simp only
  by_cases h0 : v = 0
  · have hb : (v == 0) = true := by simp [h0]
    simp only [hb, cond_true]
    obtain ⟨fa, ta, l⟩ := a
    simp only at q5 oa qa qb ⊢
    have hl := q5.1
    have h1 : (1 : Nat) < l.length := by omega
    have hr := q5.2 _ (List.getElem_mem h1)
    have g1 : l[1]? = some l[1] := List.getElem?_eq_getElem h1
    have g2 : l[1][1]? = some (l[1][1]'(by omega)) := List.getElem?_eq_getElem (by omega)
    rw [show (1 : Int) = ((1 : Nat) : Int) from rfl, at_of g1]
    simp only [atN_of g1]
    rw [at_of g2]
    simp only [atN_of g2]
    refine ⟨(fa, ta, l), (fa, ta, l.set 1 (l[1].set 1 2)), oa, ⟨by simp; omega, fun x hx => ?_⟩, ⟨qa, qb⟩, rfl⟩
    rcases List.mem_or_eq_of_mem_set hx with h | h
    · exact oa.2 x h
    · rw [h]; simp; omega
  · have hb : (v == 0) = false := by simp [h0]
    simp only [hb, cond_false]
    by_cases h1 : v = 1
    · have hb1 : (v == 1) = true := by simp [h1]
      obtain ⟨p3, s3, b, e3, t1, t2, ta, tb, t5⟩ := Draw21_ok (c := c) (p := p2) (s := s2) (n := 2) (m := 2) (f := [102]) (t := [103]) ⟨⟨r1, r2⟩, hc⟩ (by omega) (by omega)
      have e3' : spec_l21Draw c p2 s2 [102] [103] 2 2 = _ := e3
      simp only [hb1, cond_true, e3', Option.bind_some]
      exact ⟨a, b, oa, t5.okG (f := b.1) (t := b.2.1) (by omega) (by omega), ⟨ta, tb⟩, rfl⟩
    · have hb1 : (v == 1) = false := by simp [h1]
      simp only [hb1, cond_false]
      exact ⟨a, a, oa, oa, ⟨qa, qb⟩, rfl⟩
end Go.Proofs.Ytoingpfepfhgkad.X
namespace Go.Proofs.Ytoingpfepfhgkad.X
open Go Go.Proofs.Ytoingpfepfhgkad.TM
open Go.Proofs.Ytoingpfepfhgkad.TM.Dat (size okd inr)
end Go.Proofs.Ytoingpfepfhgkad.X
namespace Go.Proofs.Ytoingpfepfhgkad.X
open Go Go.Proofs.Ytoingpfepfhgkad.TM
open Go.Proofs.Ytoingpfepfhgkad.TM.Dat (size okd inr)
theorem impl_firstC {l : List G3} (h : ∀ g ∈ l, okG g) (hl : l.length ≤ 1048576) : impl_CriticalGraph_l0 (l.length : Int) 0 [] [] [] l = some (firstC l) := by
  refine loopD l (fun k s => impl_CriticalGraph_l0 (l.length : Int) (k : Int) [] [] [] l = some (firstC s)) (by rw [impl_CriticalGraph_l0_eq]; simp [firstC]) fun k x suf hd hx hk ih => ?_
  have ox := h x (List.mem_of_getElem? hx)
  have e1 : impl_IsIdempotent x.1 x.2.1 x.2.2 = some (idemG x) := impl_IsIdempotent_ok ox
  have e2 : impl_HasDecrease x.1 x.2.1 x.2.2 = some (decG x) := impl_HasDecrease_ok ox.1
  rw [impl_CriticalGraph_l0_eq]
  simp only [at_of hx, atN_of hx, e1, e2, Option.bind_some, w64_nat (show k < 9223372036854775807 by omega), ih, Int.ofNat_lt, hk, decide_true, cond_true]
  rw [firstC, critG]
  cases idemG x <;> cases decG x <;> simp
theorem firstC_ok : ∀ {l : List G3}, (∀ g ∈ l, okG g) → okG ((firstC l).1, (firstC l).2.1, (firstC l).2.2.1)
  | [], _ => ⟨by simp [firstC], by simp [firstC]⟩
  | g :: l, h => by
    rw [firstC]
    split
    · exact h g (by simp)
    · exact firstC_ok fun g hg => h g (by simp [hg])
def critOf (data : List G3) : List UInt8 × List UInt8 × List (List Int) × Bool := firstC (closure data).1
theorem impl_CriticalGraph_ok {data : List G3} (hd : ∀ y ∈ data, okG y) (hn : data.length ≤ 1048576) : impl_CriticalGraph data = some (critOf data) := by
  obtain ⟨c1, c2⟩ := closure_ok hd
  rw [impl_CriticalGraph_eq, impl_CloseGraphs_ok hd hn, Option.bind_some, impl_firstC c2 (by omega)]
  rfl
theorem spec_CriticalGraph_ok {data : List G3} (hd : ∀ y ∈ data, okG y) (hn : data.length ≤ 1048576) : spec_CriticalGraph data = some (critOf data) := by
  obtain ⟨c1, c2⟩ := closure_ok hd
  rw [spec_CriticalGraph_eq, spec_CloseGraphs_ok hd hn, Option.bind_some, spec_firstC c2 (by omega)]
  rfl
end Go.Proofs.Ytoingpfepfhgkad.X
namespace Go.Proofs.Ytoingpfepfhgkad.X
open Go Go.Proofs.Ytoingpfepfhgkad.TM
open Go.Proofs.Ytoingpfepfhgkad.TM.Dat (size okd inr)
theorem graphEq_self (a b : List UInt8) (c : List (List Int)) : graphEq a b c a b c = true := by simp [graphEq]
end Go.Proofs.Ytoingpfepfhgkad.X
namespace Go.Proofs.Ytoingpfepfhgkad.X
open Go Go.Proofs.Ytoingpfepfhgkad.TM
open Go.Proofs.Ytoingpfepfhgkad.TM.Dat (size okd inr)
theorem firstC_crit : ∀ {l : List G3}, (firstC l).2.2.2 = true → critG ((firstC l).1, (firstC l).2.1, (firstC l).2.2.1) = true
  | [], h => by simp [firstC] at h
  | g :: l, h => by
    rw [firstC] at h ⊢
    split
    · assumption
    · rename_i hc
      rw [if_neg hc] at h
      exact firstC_crit h
theorem all2_refl {α : Type} {p : α → α → Bool} (h : ∀ x, p x x = true) : ∀ l : List α, all2 p l l = true
  | [] => rfl
  | x :: l => by simp [all2, h, all2_refl h l]
theorem graphLe_self (a b : List UInt8) (c : List (List Int)) : graphLe a b c a b c = true := by
  unfold graphLe
  rw [all2_refl (fun l => all2_refl (fun x => by simp) l)]
  simp
theorem GraphsTerminate_both {data : List G3} (hd : ∀ y ∈ data, okG y) (hn : data.length ≤ 1048576) : spec_GraphsTerminate data = some ((closure data).2 && !(closure data).1.any critG) ∧ impl_GraphsTerminate data = some ((closure data).2 && !(closure data).1.any critG) := by
  obtain ⟨c1, c2⟩ := closure_ok hd
  rw [spec_GraphsTerminate_eq, impl_GraphsTerminate_eq, spec_CriticalGraph_eq, spec_CloseGraphs_ok hd hn, impl_CloseGraphs_ok hd hn]
  simp only [Option.bind_some]
  rw [spec_firstC c2 (by omega), impl_anyCrit c2 (by omega)]
  simp only [Option.bind_some, firstC_any]
  exact ⟨by cases (closure data).2 <;> rfl, by cases (closure data).2 <;> rfl⟩
theorem FnCritical_ok {a0 : List Int} (_ : okd a0) : laws_FnCritical a0 = some true := by
  rw [laws_FnCritical_eq, laws_big_eq, Option.bind_some]
  by_cases hb : 1048576 < (a0.length : Int)
  · simp only [hb, decide_true, cond_true]
  simp only [hb, decide_false, cond_false]
  have hc : a0.length ≤ 1048576 := by omega
  obtain ⟨s, e0⟩ := New_ok a0 hc
  obtain ⟨p1, s1, data, e1, q1, q2, q3, hd⟩ := Draw22_ok (c := a0) (p := 0) (s := s) ⟨⟨by omega, by omega⟩, hc⟩
  have e2 : spec_DrawGraphsTerminate a0 = some data := by
    rw [spec_DrawGraphsTerminate_eq, e0, Option.bind_some]
    simp only [e1, Option.bind_some]
  obtain ⟨c1, c2⟩ := closure_ok hd
  have hn : data.length ≤ 1048576 := by omega
  obtain ⟨t1, t2⟩ := GraphsTerminate_both hd hn
  have or : okG ((critOf data).1, (critOf data).2.1, (critOf data).2.2.1) := firstC_ok c2
  have e3 : spec_EqualGraph (critOf data).1 (critOf data).2.1 (critOf data).2.2.1 (critOf data).1 (critOf data).2.1 (critOf data).2.2.1 = some true := by
    rw [spec_EqualGraph_ok or.okd, graphEq_self]
  obtain ⟨a, b, oa, ob, ⟨nb1, nb2⟩, e4⟩ := DrawBelowGraph_ok hc
  have e5 : impl_BelowGraph a.1 a.2.1 a.2.2 b.1 b.2.1 b.2.2 = some (graphLe a.1 a.2.1 a.2.2 b.1 b.2.1 b.2.2) := impl_BelowGraph_ok oa.okd
  have e6 : spec_BelowGraph a.1 a.2.1 a.2.2 b.1 b.2.1 b.2.2 = some (graphLe a.1 a.2.1 a.2.2 b.1 b.2.1 b.2.2) := spec_BelowGraph_ok oa.okd
  have e7 : impl_BelowGraph a.1 a.2.1 a.2.2 a.1 a.2.1 a.2.2 = some true := by rw [impl_BelowGraph_ok oa.okd, graphLe_self]
  have e8 : impl_HasDecrease a.1 a.2.1 a.2.2 = some (decG a) := impl_HasDecrease_ok oa.1
  have e9 : impl_HasDecrease b.1 b.2.1 b.2.2 = some true := by
    rw [impl_HasDecrease_ok ob.1, decG]
    simp [nb1, nb2]
  have hcr : (critOf data).2.2.2 = (closure data).1.any critG := firstC_any _
  have e10 : impl_IsIdempotent (critOf data).1 (critOf data).2.1 (critOf data).2.2.1 = some (idemG ((critOf data).1, (critOf data).2.1, (critOf data).2.2.1)) := impl_IsIdempotent_ok or
  have e11 : impl_HasDecrease (critOf data).1 (critOf data).2.1 (critOf data).2.2.1 = some (decG ((critOf data).1, (critOf data).2.1, (critOf data).2.2.1)) := impl_HasDecrease_ok or.1
  have e12 : (critOf data).2.2.2 = true → idemG ((critOf data).1, (critOf data).2.1, (critOf data).2.2.1) = true ∧ decG ((critOf data).1, (critOf data).2.1, (critOf data).2.2.1) = false := fun h => by
    have := firstC_crit (l := (closure data).1) h
    rw [critG, Bool.and_eq_true, Bool.not_eq_true'] at this
    exact this
  have e13 : laws_FnCritical_l0 a0 = some true := by
    rw [laws_FnCritical_l0_eq, e4]
    simp only [Option.bind_some, beq_self_eq_true, Bool.not_true, Bool.not_false, cond_true, cond_false, e5, e6, e7, e8, e9]
    generalize graphLe a.1 a.2.1 a.2.2 b.1 b.2.1 b.2.2 = gl
    generalize decG a = da
    cases gl <;> cases da <;> rfl
  rw [e2, Option.bind_some, t2, Option.bind_some, impl_CriticalGraph_ok hd hn, Option.bind_some, spec_CriticalGraph_ok hd hn, Option.bind_some, t1, Option.bind_some, spec_CloseGraphs_ok hd hn]
  simp only [Option.bind_some, beq_self_eq_true, Bool.not_true, Bool.not_false, cond_true, cond_false, e3, e10, e11, e13, ← hcr]
  cases hx : (critOf data).2.2.2 with
  | true =>
    obtain ⟨h1, h2⟩ := e12 hx
    rw [h1, h2]
    cases (closure data).2 <;> rfl
  | false => cases (closure data).2 <;> rfl
end Go.Proofs.Ytoingpfepfhgkad.X
