/- Plain lemmas on these equations. No condition. -/
import Derived.Test.YtodeihooadbbkaaEFnExactTotalCost
import Derived.IntWalk
namespace Go.Proofs.Ytodeihooadbbkaa.TM
open Go
section
variable {ρ α β : Type}
theorem w64_id {n : Int} (h : -9223372036854775808 ≤ n) (h' : n ≤ 9223372036854775807) : w64 n = n := IntWalk.i64_in n ⟨h, h'⟩
theorem w64_nat {n : Nat} (h : n < 9223372036854775807) : w64 ((n : Int) + 1) = ((n + 1 : Nat) : Int) := by rw [w64_id (by omega) (by omega)]; rfl
theorem at_of {l : List α} {n : Nat} {x : α} (h : l[n]? = some x) (k : Nat → α → Option ρ) : at_ l (n : Int) k = k n x := by unfold at_; simp [h]
theorem atN_of {l : List α} {n : Nat} {x : α} (h : l[n]? = some x) (k : α → Option ρ) : atN l n k = k x := by unfold atN; simp [h]
theorem rep_of {n : Nat} {e : α} (h : n ≤ 1073741824) (k : List α → Option ρ) : rep_ (n : Int) e k = k (List.replicate n e) := by unfold rep_; rw [if_pos (by omega)]; rfl
theorem loopD (l : List α) (M : Nat → List α → Prop) (h0 : M l.length []) (h1 : ∀ k x suf, l.drop k = x :: suf → l[k]? = some x → k < l.length → M (k + 1) suf → M k (x :: suf)) : M 0 l := by
  have key : ∀ n k, k + n = l.length → M k (l.drop k) := by
    intro n
    induction n with
    | zero =>
      intro k hk
      have : k = l.length := by omega
      subst this
      rw [List.drop_length]
      exact h0
    | succ n ih =>
      intro k hk
      have hlt : k < l.length := by omega
      rw [List.drop_eq_getElem_cons hlt]
      exact h1 k _ _ (List.drop_eq_getElem_cons hlt) (List.getElem?_eq_getElem hlt) hlt (ih (k + 1) (by omega))
  simpa using key l.length 0 (by omega)
theorem toLoop {F : List α → Int → List β → Option (List β)} {f : α → Option β} {g : α → β} (ok : α → Prop)
    (hF : ∀ a i o, F a i o = cond (decide (i < (a.length : Int))) (at_ a i fun _ x => (f x).bind fun y => at_ o i fun j _ => atN o j fun _ => atN o j fun _ => F a (w64 (i + 1)) (o.set j y)) (some o))
    (hf : ∀ x, ok x → f x = some (g x)) {a : List α} (ha : ∀ x ∈ a, ok x) {e : β} (hs : a.length ≤ 1073741824) : (rep_ (a.length : Int) e fun o => F a 0 o) = some (a.map g) := by
  rw [rep_of hs]
  have := loopD a (fun k s => ∀ o : List β, o.length = a.length → F a (k : Int) o = some (o.take k ++ s.map g)) (fun o ho => by rw [hF]; simp [← ho]) (fun k x suf hd hx hk ih o ho => by
    have hb : k < o.length := by omega
    rw [hF, at_of hx, hf _ (ha x (List.mem_of_getElem? hx))]
    simp only [Option.bind_some]
    rw [at_of (List.getElem?_eq_getElem hb), atN_of (List.getElem?_eq_getElem hb), atN_of (List.getElem?_eq_getElem hb), w64_nat (by omega), ih _ (by simp [ho])]
    have e1 : (o.set k (g x)).take (k + 1) = o.take k ++ [g x] := by
      rw [List.take_add_one, List.take_set, List.set_eq_of_length_le (by simp; omega)]
      simp [hb]
    simp [hk, e1])
  simpa using this _ (by simp)
def left_ (l : Int) (n : Nat) : Int := if l < n then -1 else l - n
theorem left_add (l : Int) (m n : Nat) (_hl : 0 ≤ l) : (if left_ l m < 0 then -1 else left_ (left_ l m) n) = left_ l (m + n) := by
  unfold left_
  repeat' split
  all_goals omega
theorem left_le {l : Int} {n : Nat} : left_ l n ≤ max l (-1) := by unfold left_; split <;> omega
def sums : List Nat → Nat
  | [] => 0
  | x :: l => x + sums l
end
end Go.Proofs.Ytodeihooadbbkaa.TM
namespace Go.Proofs.Ytodeihooadbbkaa.TM
open Go
class Dat (α : Type) where
  size : α → Nat
  okd : α → Prop
  inr : α → Prop
  ok_of : ∀ x, size x ≤ 9223372036854775807 → okd x
open Dat (size okd inr)
instance : Dat Int := ⟨fun _ => 0, fun _ => True, fun n => -9223372036854775808 ≤ n ∧ n ≤ 9223372036854775807, fun _ _ => trivial⟩
instance : Dat Bool := ⟨fun _ => 0, fun _ => True, fun _ => True, fun _ _ => trivial⟩
instance : Dat UInt8 := ⟨fun _ => 0, fun _ => True, fun _ => True, fun _ _ => trivial⟩
theorem sums_mem {l : List Nat} {x : Nat} (h : x ∈ l) : x ≤ sums l := by
  induction l with
  | nil => simp at h
  | cons y l ih =>
    simp only [sums]
    rcases List.mem_cons.1 h with rfl | h
    · omega
    · have := ih h; omega
instance {α : Type} [Dat α] : Dat (List α) := ⟨fun l => l.length + sums (l.map size), fun l => l.length ≤ 9223372036854775807 ∧ ∀ x ∈ l, okd x, fun l => ∀ x ∈ l, inr x,
  fun l h => ⟨by omega, fun x hx => Dat.ok_of x (by have := sums_mem (List.mem_map_of_mem (f := size) hx); omega)⟩⟩
instance {α β : Type} [Dat α] [Dat β] : Dat (α × β) := ⟨fun x => size x.1 + size x.2, fun x => okd x.1 ∧ okd x.2, fun x => inr x.1 ∧ inr x.2, fun x h => ⟨Dat.ok_of _ (by omega), Dat.ok_of _ (by omega)⟩⟩
section
variable {α β γ ρ : Type}
theorem size_int (n : Int) : size n = 0 := rfl
theorem size_bool (n : Bool) : size n = 0 := rfl
theorem size_list [Dat α] (l : List α) : size l = l.length + sums (l.map size) := rfl
theorem size_prod [Dat α] [Dat β] (a : α) (b : β) : size (a, b) = size a + size b := rfl
theorem sums_zero {l : List α} {f : α → Nat} (h : ∀ x ∈ l, f x = 0) : sums (l.map f) = 0 := by
  induction l with
  | nil => rfl
  | cons x l ih => simp only [List.map_cons, sums, h x (by simp), ih fun y hy => h y (by simp [hy])]
theorem size_str (l : List UInt8) : size l = l.length := by rw [size_list, sums_zero (f := size) fun _ _ => rfl]; omega
theorem size_ints (l : List Int) : size l = l.length := by rw [size_list, sums_zero (f := size) fun _ _ => rfl]; omega
theorem size_mem [Dat α] {l : List α} {x : α} (h : x ∈ l) : size x + l.length ≤ size l := by have := sums_mem (List.mem_map_of_mem (f := size) h); rw [size_list]; omega
theorem len_size [Dat α] (l : List α) : l.length ≤ size l := by rw [size_list]; omega
theorem okd_len [Dat α] {l : List α} (h : okd l) : l.length ≤ 9223372036854775807 := h.1
theorem szEnd {k : Int} (h : 0 ≤ k) : some k = some (left_ k 0) := by unfold left_; rw [if_neg (by omega)]; simp
theorem szStep {k : Int} {m n : Nat} {e : Option Int} {K : Int → Option Int} (h0 : 0 ≤ k) (h1 : k ≤ 1048576) (he : e = some (left_ k m)) (hK : ∀ j, 0 ≤ j → j ≤ 1048576 → K j = some (left_ j n)) :
    (e.bind fun x => cond (decide (x < 0)) (some (-1)) (K x)) = some (left_ k (m + n)) := by
  subst he
  rw [Option.bind_some, ← left_add k m n h0]
  by_cases h : left_ k m < 0
  · simp [h]
  · simp only [h, decide_false, cond_false, if_false]
    exact hK _ (by omega) (by have := @left_le k m; omega)
theorem szLen {k : Int} {m n : Nat} {K : Int → Option Int} (h0 : 0 ≤ k) (h1 : k ≤ 1048576) (hm : m ≤ 9223372036854775807) (hK : ∀ j, 0 ≤ j → j ≤ 1048576 → K j = some (left_ j n)) :
    cond (decide (w64 (k - (m : Int)) < 0)) (some (-1)) (K (w64 (k - (m : Int)))) = some (left_ k (m + n)) := by
  have hw : w64 (k - (m : Int)) = k - m := w64_id (by omega) (by omega)
  rw [hw]
  by_cases h : k - (m : Int) < 0
  · have : left_ k (m + n) = -1 := by unfold left_; rw [if_pos (by omega)]
    simp [h, this]
  · simp only [h, decide_false, cond_false]
    rw [hK _ (by omega) (by omega)]
    unfold left_
    congr 1
    split <;> split <;> omega
theorem left_eq {k : Int} {m n : Nat} (h : m = n) : some (left_ k m) = some (left_ k n) := by rw [h]
theorem at_N {l : List α} {i : Int} (k : Nat → α → α → Option ρ) : (at_ l i fun j x => atN l j (k j x)) = at_ l i fun j x => k j x x := by
  unfold at_
  split
  · next e h =>
    have : l[i.toNat]? = some e := by split at h <;> simp_all
    exact atN_of this _
  · rfl
theorem atN_N {l : List α} {i : Nat} (k : α → α → Option ρ) : (atN l i fun x => atN l i (k x)) = atN l i fun x => k x x := by
  unfold atN
  cases l[i]? <;> rfl
theorem at_set {l : List α} {i : Int} {f : Nat → α → α} (k : Nat → α → α → Option ρ) : (at_ l i fun j x => atN (l.set j (f j x)) j (k j x)) = at_ l i fun j x => k j x (f j x) := by
  unfold at_
  split
  · next e h =>
    have h2 : l[i.toNat]? = some e := by split at h <;> simp_all
    have h3 : i.toNat < l.length := by rcases Nat.lt_or_ge i.toNat l.length with h4 | h4; exact h4; simp [List.getElem?_eq_none h4] at h2
    exact atN_of (List.getElem?_set_self h3) _
  · rfl
theorem toList [Dat α] {F : List α → Int → List α → Option (List α)} {f : α → Option α}
    (hF : ∀ a i o, F a i o = cond (decide (i < (a.length : Int))) (at_ a i fun _ x => (f x).bind fun y => at_ o i fun j _ => F a (w64 (i + 1)) (o.set j y)) (some o))
    (hf : ∀ x, size x ≤ 1048576 → f x = some x) {a : List α} (ha : size a ≤ 1048576) {e : α} : (rep_ (a.length : Int) e fun o => F a 0 o) = some a := by
  refine (toLoop (F := F) (f := f) (g := id) (fun x => size x ≤ 1048576) (fun a i o => ?_) hf (fun x hx => by have := size_mem hx; omega) (by have := len_size a; omega)).trans (by simp)
  rw [hF]
  congr 2
  funext _ x
  congr 1
  funext y
  unfold at_ atN
  cases h : (if 0 ≤ i then o[i.toNat]? else none) with
  | none => rfl
  | some e =>
    have : o[i.toNat]? = some e := by split at h <;> simp_all
    simp [this]
theorem selfList [Dat α] {F : List α → List α → Int → Option Bool} {e : α → α → Option Bool}
    (hF : ∀ a b i, F a b i = cond (decide (i < (a.length : Int))) (at_ a i fun _ x => at_ b i fun _ y => (e x y).bind fun r => cond (!r) (some false) (F a b (w64 (i + 1)))) (some true))
    (he : ∀ x, okd x → e x x = some true) {a : List α} (ha : okd a) : cond (!((a.length : Int) == (a.length : Int))) (some false) (F a a 0) = some true := by
  have := loopD a (fun k s => F a a (k : Int) = some true) (by rw [hF]; simp) (fun k x suf hd hx hk ih => by
    rw [hF, at_of hx, at_of hx, he _ (ha.2 x (List.mem_of_getElem? hx)), w64_nat (by have := ha.1; omega), ih]
    simp)
  simpa using this
theorem lawSz {k : Int} {m : Nat} {e : Option Int} {K : Int → Option Bool} (_h0 : 0 ≤ k) (_h1 : k ≤ 1048576) (he : e = some (left_ k m)) (hK : (m : Int) ≤ k → K (k - m) = some true) :
    (e.bind fun x => cond (decide (x < 0)) (some true) (K x)) = some true := by
  subst he
  rw [Option.bind_some]
  by_cases h : k < m
  · simp [left_, h]
  · have : left_ k m = k - m := by unfold left_; rw [if_neg h]
    rw [this]
    simp only [show ¬ (k - (m : Int) < 0) by omega, decide_false, cond_false]
    exact hK (by omega)
theorem le_maxLen {n : Nat} (h : n ≤ maxLen) : n ≤ 9223372036854775807 := h
end
end Go.Proofs.Ytodeihooadbbkaa.TM
namespace Go.Proofs.Ytodeihooadbbkaa.X
open Go Go.Proofs.Ytodeihooadbbkaa.TM
open Go.Proofs.Ytodeihooadbbkaa.TM.Dat (size okd inr)
theorem laws_szIntS_ok {a0 : List Int} {a1 : Int} (h : okd a0) (h0 : 0 ≤ a1) (h1 : a1 ≤ 1048576) : laws_szIntS a0 a1 = some (left_ a1 (size a0)) := by
  rw [laws_szIntS_eq]
  exact (szLen h0 h1 (okd_len h) fun _ h0 h1 => szEnd h0).trans (left_eq (by simp only [size_prod, size_str, size_ints, size_int, size_bool]; omega))
theorem laws_szValue_ok {a0 : Bool} {a1 : Int} {a2 : List Int} {a3 : Int} (h : okd (a0, a1, a2)) (h0 : 0 ≤ a3) (h1 : a3 ≤ 1048576) : laws_szValue a0 a1 a2 a3 = some (left_ a3 (size (a0, a1, a2))) := by
  rw [laws_szValue_eq]
  exact (szStep h0 h1 (laws_szIntS_ok h.2.2 h0 h1) fun _ h0 h1 => szEnd h0).trans (left_eq (by simp only [size_prod, size_str, size_ints, size_int, size_bool]; omega))
theorem laws_szOutcome_ok {a0 : Int} {a1 : Bool} {a2 : Int} {a3 : List Int} {a4 : Int} {a5 : Int} {a6 : Int} (h : okd (a0, a1, a2, a3, a4, a5)) (h0 : 0 ≤ a6) (h1 : a6 ≤ 1048576) : laws_szOutcome a0 a1 a2 a3 a4 a5 a6 = some (left_ a6 (size (a0, a1, a2, a3, a4, a5))) := by
  rw [laws_szOutcome_eq]
  exact (szStep h0 h1 (laws_szValue_ok ⟨h.2.1, h.2.2.1, h.2.2.2.1⟩ h0 h1) fun _ h0 h1 => szEnd h0).trans (left_eq (by simp only [size_prod, size_str, size_ints, size_int, size_bool]; omega))
theorem laws_toIntS_ok {a0 : List Int} (h : size a0 ≤ 1048576) : laws_toIntS a0 = some a0 := by
  rw [laws_toIntS_eq]
  exact toList (F := laws_toIntS_l0) (f := fun x => some x) (fun a i o => (laws_toIntS_l0_eq a i o).trans (by simp only [at_N, atN_N, at_set, List.set_set, Option.bind_some])) (fun _ _ => rfl) h
theorem laws_toValue_ok {a0 : Bool} {a1 : Int} {a2 : List Int} (h : size (a0, a1, a2) ≤ 1048576) : laws_toValue a0 a1 a2 = some (a0, a1, a2) := by
  simp only [size_prod] at h
  rw [laws_toValue_eq, laws_toIntS_ok (by (try simp only [size_prod]); omega), Option.bind_some]
theorem laws_toOutcome_ok {a0 : Int} {a1 : Bool} {a2 : Int} {a3 : List Int} {a4 : Int} {a5 : Int} (h : size (a0, a1, a2, a3, a4, a5) ≤ 1048576) : laws_toOutcome a0 a1 a2 a3 a4 a5 = some (a0, a1, a2, a3, a4, a5) := by
  simp only [size_prod] at h
  rw [laws_toOutcome_eq, laws_toValue_ok (by (try simp only [size_prod]); omega), Option.bind_some]
theorem laws_eqIntS_self {a0 : List Int} (h : okd a0) : laws_eqIntS a0 a0 = some true := by
  rw [laws_eqIntS_eq]
  exact selfList (F := laws_eqIntS_l0) (e := fun x y => some (x == y)) laws_eqIntS_l0_eq (fun x _ => by simp) h
theorem laws_eqValue_self {a0 : Bool} {a1 : Int} {a2 : List Int} (h : okd (a0, a1, a2)) : laws_eqValue a0 a1 a2 a0 a1 a2 = some true := by
  simp only [laws_eqValue_eq, laws_eqIntS_self h.2.2, Option.bind_some, beq_self_eq_true, Bool.not_true, cond_false]
theorem laws_eqOutcome_self {a0 : Int} {a1 : Bool} {a2 : Int} {a3 : List Int} {a4 : Int} {a5 : Int} (h : okd (a0, a1, a2, a3, a4, a5)) : laws_eqOutcome a0 a1 a2 a3 a4 a5 a0 a1 a2 a3 a4 a5 = some true := by
  simp only [laws_eqOutcome_eq, laws_eqValue_self ⟨h.2.1, h.2.2.1, h.2.2.2.1⟩, Option.bind_some, beq_self_eq_true, Bool.not_true, cond_false]
end Go.Proofs.Ytodeihooadbbkaa.X
namespace Go.Proofs.Ytodeihooadbbkaa.X
open Go Go.Proofs.Ytodeihooadbbkaa.TM
open Go.Proofs.Ytodeihooadbbkaa.TM.Dat (size okd inr)
theorem TotalCost_core {a0 : Int} {a1 : Bool} {a2 : Int} {a3 : List Int} {a4 a5 a6 : Int} (_ : okd (a0, a1, a2, a3, a4, a5, a6)) (_ : inr (a0, a1, a2, a3, a4, a5, a6)) (_ : size (a0, a1, a2, a3, a4, a5) ≤ 1048576) :
    ∃ r, spec_TotalCost a0 a1 a2 a3 a4 a5 a6 = some r ∧ impl_TotalCost a0 a1 a2 a3 a4 a5 a6 = some r := by
  rw [spec_TotalCost_eq, impl_TotalCost_eq]
  cases a6 == 1 <;> cases a6 == 2 <;> exact ⟨_, rfl, rfl⟩
end Go.Proofs.Ytodeihooadbbkaa.X
namespace Go.Proofs.Ytodeihooadbbkaa.X
open Go Go.Proofs.Ytodeihooadbbkaa.TM
open Go.Proofs.Ytodeihooadbbkaa.TM.Dat (size okd inr)
end Go.Proofs.Ytodeihooadbbkaa.X
namespace Go.Proofs.Ytodeihooadbbkaa.X
open Go Go.Proofs.Ytodeihooadbbkaa.TM
open Go.Proofs.Ytodeihooadbbkaa.TM.Dat (size okd inr)
end Go.Proofs.Ytodeihooadbbkaa.X
namespace Go.Proofs.Ytodeihooadbbkaa.X
open Go Go.Proofs.Ytodeihooadbbkaa.TM
open Go.Proofs.Ytodeihooadbbkaa.TM.Dat (size okd inr)
theorem FnExactTotalCost_ok {a0 : Int} {a1 : Bool} {a2 : Int} {a3 : List Int} {a4 : Int} {a5 : Int} {a6 : Int} (h : okd (a0, a1, a2, a3, a4, a5, a6)) (hr : inr (a0, a1, a2, a3, a4, a5, a6)) : laws_FnExactTotalCost a0 a1 a2 a3 a4 a5 a6 = some true := by
  rw [laws_FnExactTotalCost_eq]
  refine lawSz (by omega) (by omega) (laws_szOutcome_ok ⟨h.1, h.2.1, h.2.2.1, h.2.2.2.1, h.2.2.2.2.1, h.2.2.2.2.2.1⟩ (by omega) (by omega)) fun s1 => ?_
  obtain ⟨r, e1, e2⟩ := TotalCost_core h hr (by omega)
  simp only [laws_toOutcome_ok (show size (a0, a1, a2, a3, a4, a5) ≤ 1048576 by omega), Option.bind_some, e1, e2, laws_eqOutcome_self (show okd (a0, a1, a2, a3, a4, a5) from ⟨h.1, h.2.1, h.2.2.1, h.2.2.2.1, h.2.2.2.2.1, h.2.2.2.2.2.1⟩), beq_self_eq_true, Bool.not_true, cond_false, decide_false]
end Go.Proofs.Ytodeihooadbbkaa.X
