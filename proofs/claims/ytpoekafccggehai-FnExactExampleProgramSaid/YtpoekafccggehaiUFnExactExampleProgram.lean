/- Plain lemmas on these equations. No condition. -/
import Derived.Test.YtpoekafccggehaiEFnExactExampleProgram
import Derived.IntWalk
namespace Go.Proofs.Ytpoekafccggehai.TM
open Go
section
variable {ρ α β : Type}
theorem w64_id {n : Int} (h : -9223372036854775808 ≤ n) (h' : n ≤ 9223372036854775807) : w64 n = n := IntWalk.i64_in n ⟨h, h'⟩
theorem w64_nat {n : Nat} (h : n < 9223372036854775807) : w64 ((n : Int) + 1) = ((n + 1 : Nat) : Int) := by rw [w64_id (by omega) (by omega)]; rfl
theorem at_of {l : List α} {n : Nat} {x : α} (h : l[n]? = some x) (k : Nat → α → Option ρ) : at_ l (n : Int) k = k n x := by unfold at_; simp [h]
theorem app_of {l m : List α} (h : l.length + m.length ≤ 1073741824) (k : List α → Option ρ) : app_ l m k = k (l ++ m) := if_pos h
def sums : List Nat → Nat
  | [] => 0
  | x :: l => x + sums l
end
end Go.Proofs.Ytpoekafccggehai.TM
namespace Go.Proofs.Ytpoekafccggehai.TM
open Go
class Dat (α : Type) where
  size : α → Nat
  okd : α → Prop
  inr : α → Prop
  ok_of : ∀ x, size x ≤ 9223372036854775807 → okd x
open Dat (size okd inr)
instance : Dat Int := ⟨fun _ => 0, fun _ => True, fun n => -9223372036854775808 ≤ n ∧ n ≤ 9223372036854775807, fun _ _ => trivial⟩
instance : Dat Bool := ⟨fun _ => 0, fun _ => True, fun _ => True, fun _ _ => trivial⟩
instance : Dat UInt8 := ⟨fun _ => 0, fun _ => True, fun _ => True, fun _ _ => trivial⟩
theorem sums_mem {l : List Nat} {x : Nat} (h : x ∈ l) : x ≤ sums l := by
  induction l with
  | nil => simp at h
  | cons y l ih =>
    simp only [sums]
    rcases List.mem_cons.1 h with rfl | h
    · omega
    · have := ih h; omega
instance {α : Type} [Dat α] : Dat (List α) := ⟨fun l => l.length + sums (l.map size), fun l => l.length ≤ 9223372036854775807 ∧ ∀ x ∈ l, okd x, fun l => ∀ x ∈ l, inr x,
  fun l h => ⟨by omega, fun x hx => Dat.ok_of x (by have := sums_mem (List.mem_map_of_mem (f := size) hx); omega)⟩⟩
instance {α β : Type} [Dat α] [Dat β] : Dat (α × β) := ⟨fun x => size x.1 + size x.2, fun x => okd x.1 ∧ okd x.2, fun x => inr x.1 ∧ inr x.2, fun x h => ⟨Dat.ok_of _ (by omega), Dat.ok_of _ (by omega)⟩⟩
section
variable {α β γ ρ : Type}
end
end Go.Proofs.Ytpoekafccggehai.TM
namespace Go.Proofs.Ytpoekafccggehai.X
open Go Go.Proofs.Ytpoekafccggehai.TM
open Go.Proofs.Ytpoekafccggehai.TM.Dat (size okd inr)
end Go.Proofs.Ytpoekafccggehai.X
namespace Go.Proofs.Ytpoekafccggehai.X
open Go Go.Proofs.Ytpoekafccggehai.TM
open Go.Proofs.Ytpoekafccggehai.TM.Dat (size okd inr)
def tailB (b : List UInt8) : List (List UInt8) → List UInt8
  | [] => []
  | x :: xs => b ++ x ++ tailB b xs
def joinB (b : List UInt8) : List (List UInt8) → List UInt8
  | [] => []
  | x :: xs => x ++ tailB b xs
theorem bytesI_N (l : List UInt8) : bytesI (bytesN l) = l := by
  unfold bytesI bytesN
  rw [List.map_map]
  exact List.map_id'' (fun c => by simp) l
theorem bytesN_app (l m : List UInt8) : bytesN (l ++ m) = bytesN l ++ bytesN m := by unfold bytesN; rw [List.map_append]
theorem bytesN_len (l : List UInt8) : (bytesN l).length = l.length := by unfold bytesN; rw [List.length_map]
def lenB (b : List UInt8) : List (List UInt8) → Nat
  | [] => 0
  | x :: xs => b.length + x.length + lenB b xs
theorem Join_l0_ok (l : List (List UInt8)) (b : List UInt8) (hl : l.length ≤ 1073741824) : ∀ (suf : List (List UInt8)) (k : Nat) (acc : List UInt8), l.drop k = suf → 0 < k → acc.length + lenB b suf ≤ 1073741824 → spec_Join_l0 l b (k : Int) (bytesN acc) = some (acc ++ tailB b suf) := by
  intro suf
  induction suf with
  | nil =>
    intro k acc hd hk hs
    have : l.length ≤ k := List.drop_eq_nil_iff.1 hd
    rw [spec_Join_l0_eq]
    have h1 : ¬ ((k : Int) < (l.length : Int)) := by omega
    simp only [h1, decide_false, cond_false, bytesI_N, tailB, List.append_nil]
  | cons x suf ih =>
    intro k acc hd hk hs
    have hx := drop_head hd
    have hkl := (List.getElem?_eq_some_iff.1 hx).1
    have hd2 : l.drop (k + 1) = suf := by rw [← List.drop_drop, hd]; rfl
    simp only [lenB] at hs
    rw [spec_Join_l0_eq]
    have h1 : ((k : Int) < (l.length : Int)) := by omega
    have h2 : (0 < (k : Int)) := by omega
    simp only [h1, h2, decide_true, cond_true]
    rw [app_of (by rw [bytesN_len, bytesN_len]; omega), at_of hx, ← bytesN_app, app_of (by rw [bytesN_len, bytesN_len, List.length_append]; omega), ← bytesN_app, w64_nat (by omega), ih (k + 1) _ hd2 (by omega) (by rw [List.length_append, List.length_append]; omega)]
    simp only [tailB, List.append_assoc]
theorem spec_Join_ok {l : List (List UInt8)} {b : List UInt8} (hl : l.length ≤ 1000000) (hs : lenB b l ≤ 1000000) : spec_Join l b = some (joinB b l) := by
  rw [spec_Join_eq]
  cases l with
  | nil =>
    rw [spec_Join_l0_eq]
    rfl
  | cons x l =>
    simp only [lenB] at hs
    have h1 : (0 : Int) < (((x :: l).length : Nat) : Int) := by simp only [List.length_cons]; omega
    rw [spec_Join_l0_eq]
    simp only [h1, decide_true, cond_true, Int.lt_irrefl, decide_false, cond_false]
    have e := at_of (l := x :: l) (n := 0) (x := x) rfl (ρ := List UInt8)
    rw [show ((0 : Int)) = ((0 : Nat) : Int) from rfl, e, app_of (by rw [bytesN_len]; simp; omega), w64_nat (by omega), List.nil_append]
    rw [Join_l0_ok (x :: l) b (by omega) l 1 x rfl (by omega) (by omega)]
    rfl
theorem exJoin (L : List (List UInt8)) (h0 : L ≠ []) (hl : L.length ≤ 1000) (hs : lenB [10] L ≤ 1000000) (ht : (joinB [10] L).length ≤ 1000000) :
    ((some L).bind fun x0 => cond ((x0.length : Int) == 0) (some []) ((spec_Join x0 [10]).bind fun x1 => catS x1 [10] fun x2 => some x2)) = some (joinB [10] L ++ [10]) := by
  rw [Option.bind_some]
  have h1 : ((L.length : Int) == 0) = false := by
    have : L.length ≠ 0 := fun h => h0 (List.length_eq_zero_iff.1 h)
    simp only [beq_eq_false_iff_ne, ne_eq]
    omega
  rw [h1, cond_false, spec_Join_ok (by omega) hs, Option.bind_some]
  unfold catS
  rw [if_pos (by simp; omega)]
set_option maxRecDepth 100000 in
theorem ExampleProgram_core (a0 : Int) : ∃ r, spec_ExampleProgram a0 = some r ∧ impl_ExampleProgram a0 = some r := by
  rw [spec_ExampleProgram_eq, impl_ExampleProgram_eq, spec_l28Lines_eq]
  by_cases h1 : a0 = 1
  · subst h1
    exact ⟨_, exJoin _ (List.cons_ne_nil _ _) (by decide) (by decide) (by decide), rfl⟩
  have e1 : (a0 == 1) = false := by simp [h1]
  by_cases h2 : a0 = 2
  · subst h2
    exact ⟨_, exJoin _ (List.cons_ne_nil _ _) (by decide) (by decide) (by decide), rfl⟩
  have e2 : (a0 == 2) = false := by simp [h2]
  by_cases h3 : a0 = 3
  · subst h3
    exact ⟨_, exJoin _ (List.cons_ne_nil _ _) (by decide) (by decide) (by decide), rfl⟩
  have e3 : (a0 == 3) = false := by simp [h3]
  by_cases h4 : a0 = 4
  · subst h4
    exact ⟨_, exJoin _ (List.cons_ne_nil _ _) (by decide) (by decide) (by decide), rfl⟩
  have e4 : (a0 == 4) = false := by simp [h4]
  by_cases h5 : a0 = 5
  · subst h5
    exact ⟨_, exJoin _ (List.cons_ne_nil _ _) (by decide) (by decide) (by decide), rfl⟩
  have e5 : (a0 == 5) = false := by simp [h5]
  by_cases h6 : a0 = 6
  · subst h6
    exact ⟨_, exJoin _ (List.cons_ne_nil _ _) (by decide) (by decide) (by decide), rfl⟩
  have e6 : (a0 == 6) = false := by simp [h6]
  rw [e1, e2, e3, e4, e5, e6]
  exact ⟨[], rfl, rfl⟩
theorem FnExactExampleProgram_ok {a0 : Int} (_ : okd a0) (_ : inr a0) : laws_FnExactExampleProgram a0 = some true := by
  obtain ⟨r, e1, e2⟩ := ExampleProgram_core a0
  rw [laws_FnExactExampleProgram_eq]
  simp only [e1, e2, Option.bind_some, beq_self_eq_true, Bool.not_true, cond_false]
end Go.Proofs.Ytpoekafccggehai.X
