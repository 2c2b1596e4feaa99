/- Plain lemmas on these equations. No condition. -/
import Derived.Test.YtpoekafccggehacGreatEFnExactEqualSession
import Derived.IntWalk
namespace Go.Proofs.YtpoekafccggehacGreat.TM
open Go
section
variable {ρ α β : Type}
theorem w64_id {n : Int} (h : -9223372036854775808 ≤ n) (h' : n ≤ 9223372036854775807) : w64 n = n := IntWalk.i64_in n ⟨h, h'⟩
theorem w64_nat {n : Nat} (h : n < 9223372036854775807) : w64 ((n : Int) + 1) = ((n + 1 : Nat) : Int) := by rw [w64_id (by omega) (by omega)]; rfl
theorem at_of {l : List α} {n : Nat} {x : α} (h : l[n]? = some x) (k : Nat → α → Option ρ) : at_ l (n : Int) k = k n x := by unfold at_; simp [h]
theorem atN_of {l : List α} {n : Nat} {x : α} (h : l[n]? = some x) (k : α → Option ρ) : atN l n k = k x := by unfold atN; simp [h]
theorem rep_of {n : Nat} {e : α} (h : n ≤ 1073741824) (k : List α → Option ρ) : rep_ (n : Int) e k = k (List.replicate n e) := by unfold rep_; rw [if_pos (by omega)]; rfl
theorem loopD (l : List α) (M : Nat → List α → Prop) (h0 : M l.length []) (h1 : ∀ k x suf, l.drop k = x :: suf → l[k]? = some x → k < l.length → M (k + 1) suf → M k (x :: suf)) : M 0 l := by
  have key : ∀ n k, k + n = l.length → M k (l.drop k) := by
    intro n
    induction n with
    | zero =>
      intro k hk
      have : k = l.length := by omega
      subst this
      rw [List.drop_length]
      exact h0
    | succ n ih =>
      intro k hk
      have hlt : k < l.length := by omega
      rw [List.drop_eq_getElem_cons hlt]
      exact h1 k _ _ (List.drop_eq_getElem_cons hlt) (List.getElem?_eq_getElem hlt) hlt (ih (k + 1) (by omega))
  simpa using key l.length 0 (by omega)
theorem toLoop {F : List α → Int → List β → Option (List β)} {f : α → Option β} {g : α → β} (ok : α → Prop)
    (hF : ∀ a i o, F a i o = cond (decide (i < (a.length : Int))) (at_ a i fun _ x => (f x).bind fun y => at_ o i fun j _ => atN o j fun _ => atN o j fun _ => F a (w64 (i + 1)) (o.set j y)) (some o))
    (hf : ∀ x, ok x → f x = some (g x)) {a : List α} (ha : ∀ x ∈ a, ok x) {e : β} (hs : a.length ≤ 1073741824) : (rep_ (a.length : Int) e fun o => F a 0 o) = some (a.map g) := by
  rw [rep_of hs]
  have := loopD a (fun k s => ∀ o : List β, o.length = a.length → F a (k : Int) o = some (o.take k ++ s.map g)) (fun o ho => by rw [hF]; simp [← ho]) (fun k x suf hd hx hk ih o ho => by
    have hb : k < o.length := by omega
    rw [hF, at_of hx, hf _ (ha x (List.mem_of_getElem? hx))]
    simp only [Option.bind_some]
    rw [at_of (List.getElem?_eq_getElem hb), atN_of (List.getElem?_eq_getElem hb), atN_of (List.getElem?_eq_getElem hb), w64_nat (by omega), ih _ (by simp [ho])]
    have e1 : (o.set k (g x)).take (k + 1) = o.take k ++ [g x] := by
      rw [List.take_add_one, List.take_set, List.set_eq_of_length_le (by simp; omega)]
      simp [hb]
    simp [hk, e1])
  simpa using this _ (by simp)
def left_ (l : Int) (n : Nat) : Int := if l < n then -1 else l - n
theorem left_neg {l : Int} {n : Nat} (_hl : 0 ≤ l) : left_ l n < 0 ↔ l < n := by unfold left_; split <;> omega
theorem left_add (l : Int) (m n : Nat) (_hl : 0 ≤ l) : (if left_ l m < 0 then -1 else left_ (left_ l m) n) = left_ l (m + n) := by
  unfold left_
  repeat' split
  all_goals omega
theorem left_le {l : Int} {n : Nat} : left_ l n ≤ max l (-1) := by unfold left_; split <;> omega
def sums : List Nat → Nat
  | [] => 0
  | x :: l => x + sums l
theorem szLoop {F : List α → Int → Int → Option Int} {f : α → Int → Option Int} {sz : α → Nat} (ok : α → Prop)
    (hF : ∀ a l i, F a l i = cond (decide (i < (a.length : Int))) (at_ a i fun _ x => (f x l).bind fun r => cond (decide (r < 0)) (some (-1)) (F a r (w64 (i + 1)))) (some l))
    (hf : ∀ x l, ok x → 0 ≤ l → l ≤ 1048576 → f x l = some (left_ l (sz x))) {a : List α} (ha : ∀ x ∈ a, ok x) (hs : a.length < 9223372036854775808) {l : Int} (h0 : 0 ≤ l) (h1 : l ≤ 1048576) : F a l 0 = some (left_ l (sums (a.map sz))) := by
  have := loopD a (fun k s => ∀ l : Int, 0 ≤ l → l ≤ 1048576 → F a l (k : Int) = some (left_ l (sums (s.map sz)))) (fun l h0 h1 => by rw [hF]; simp [sums, left_]; omega) (fun k x suf hd hx hk ih l h0 h1 => by
    rw [hF, at_of hx, hf _ _ (ha x (List.mem_of_getElem? hx)) h0 h1]
    simp only [Option.bind_some, Int.ofNat_lt, hk, decide_true, cond_true, w64_nat (show k < 9223372036854775807 by omega)]
    by_cases h : left_ l (sz x) < 0
    · have h2 := (left_neg h0).1 h
      simp only [h, decide_true, cond_true, List.map_cons, sums]
      unfold left_
      rw [if_pos (by omega)]
    · have h2 : ¬ l < sz x := fun h3 => h ((left_neg h0).2 h3)
      simp only [h, decide_false, cond_false, List.map_cons, sums]
      rw [ih _ (by omega) (by have := @left_le l (sz x); omega), ← left_add l _ _ h0, if_neg h])
  simpa using this l h0 h1
end
end Go.Proofs.YtpoekafccggehacGreat.TM
namespace Go.Proofs.YtpoekafccggehacGreat.TM
open Go
class Dat (α : Type) where
  size : α → Nat
  okd : α → Prop
  inr : α → Prop
  ok_of : ∀ x, size x ≤ 9223372036854775807 → okd x
open Dat (size okd inr)
instance : Dat Int := ⟨fun _ => 0, fun _ => True, fun n => -9223372036854775808 ≤ n ∧ n ≤ 9223372036854775807, fun _ _ => trivial⟩
instance : Dat Bool := ⟨fun _ => 0, fun _ => True, fun _ => True, fun _ _ => trivial⟩
instance : Dat UInt8 := ⟨fun _ => 0, fun _ => True, fun _ => True, fun _ _ => trivial⟩
theorem sums_mem {l : List Nat} {x : Nat} (h : x ∈ l) : x ≤ sums l := by
  induction l with
  | nil => simp at h
  | cons y l ih =>
    simp only [sums]
    rcases List.mem_cons.1 h with rfl | h
    · omega
    · have := ih h; omega
instance {α : Type} [Dat α] : Dat (List α) := ⟨fun l => l.length + sums (l.map size), fun l => l.length ≤ 9223372036854775807 ∧ ∀ x ∈ l, okd x, fun l => ∀ x ∈ l, inr x,
  fun l h => ⟨by omega, fun x hx => Dat.ok_of x (by have := sums_mem (List.mem_map_of_mem (f := size) hx); omega)⟩⟩
instance {α β : Type} [Dat α] [Dat β] : Dat (α × β) := ⟨fun x => size x.1 + size x.2, fun x => okd x.1 ∧ okd x.2, fun x => inr x.1 ∧ inr x.2, fun x h => ⟨Dat.ok_of _ (by omega), Dat.ok_of _ (by omega)⟩⟩
section
variable {α β γ ρ : Type}
theorem size_int (n : Int) : size n = 0 := rfl
theorem size_bool (n : Bool) : size n = 0 := rfl
theorem size_list [Dat α] (l : List α) : size l = l.length + sums (l.map size) := rfl
theorem size_prod [Dat α] [Dat β] (a : α) (b : β) : size (a, b) = size a + size b := rfl
theorem sums_zero {l : List α} {f : α → Nat} (h : ∀ x ∈ l, f x = 0) : sums (l.map f) = 0 := by
  induction l with
  | nil => rfl
  | cons x l ih => simp only [List.map_cons, sums, h x (by simp), ih fun y hy => h y (by simp [hy])]
theorem size_str (l : List UInt8) : size l = l.length := by rw [size_list, sums_zero (f := size) fun _ _ => rfl]; omega
theorem size_ints (l : List Int) : size l = l.length := by rw [size_list, sums_zero (f := size) fun _ _ => rfl]; omega
theorem size_mem [Dat α] {l : List α} {x : α} (h : x ∈ l) : size x + l.length ≤ size l := by have := sums_mem (List.mem_map_of_mem (f := size) h); rw [size_list]; omega
theorem len_size [Dat α] (l : List α) : l.length ≤ size l := by rw [size_list]; omega
theorem okd_len [Dat α] {l : List α} (h : okd l) : l.length ≤ 9223372036854775807 := h.1
theorem szEnd {k : Int} (h : 0 ≤ k) : some k = some (left_ k 0) := by unfold left_; rw [if_neg (by omega)]; simp
theorem szStep {k : Int} {m n : Nat} {e : Option Int} {K : Int → Option Int} (h0 : 0 ≤ k) (h1 : k ≤ 1048576) (he : e = some (left_ k m)) (hK : ∀ j, 0 ≤ j → j ≤ 1048576 → K j = some (left_ j n)) :
    (e.bind fun x => cond (decide (x < 0)) (some (-1)) (K x)) = some (left_ k (m + n)) := by
  subst he
  rw [Option.bind_some, ← left_add k m n h0]
  by_cases h : left_ k m < 0
  · simp [h]
  · simp only [h, decide_false, cond_false, if_false]
    exact hK _ (by omega) (by have := @left_le k m; omega)
theorem szLen {k : Int} {m n : Nat} {K : Int → Option Int} (h0 : 0 ≤ k) (h1 : k ≤ 1048576) (hm : m ≤ 9223372036854775807) (hK : ∀ j, 0 ≤ j → j ≤ 1048576 → K j = some (left_ j n)) :
    cond (decide (w64 (k - (m : Int)) < 0)) (some (-1)) (K (w64 (k - (m : Int)))) = some (left_ k (m + n)) := by
  have hw : w64 (k - (m : Int)) = k - m := w64_id (by omega) (by omega)
  rw [hw]
  by_cases h : k - (m : Int) < 0
  · have : left_ k (m + n) = -1 := by unfold left_; rw [if_pos (by omega)]
    simp [h, this]
  · simp only [h, decide_false, cond_false]
    rw [hK _ (by omega) (by omega)]
    unfold left_
    congr 1
    split <;> split <;> omega
theorem left_eq {k : Int} {m n : Nat} (h : m = n) : some (left_ k m) = some (left_ k n) := by rw [h]
theorem szList [Dat α] {F : List α → Int → Int → Option Int} {f : α → Int → Option Int}
    (hF : ∀ a l i, F a l i = cond (decide (i < (a.length : Int))) (at_ a i fun _ x => (f x l).bind fun r => cond (decide (r < 0)) (some (-1)) (F a r (w64 (i + 1)))) (some l))
    (hf : ∀ x l, okd x → 0 ≤ l → l ≤ 1048576 → f x l = some (left_ l (size x))) {a : List α} (ha : okd a) {k : Int} (h0 : 0 ≤ k) (h1 : k ≤ 1048576) :
    cond (decide (w64 (k - (a.length : Int)) < 0)) (some (-1)) (F a (w64 (k - (a.length : Int))) 0) = some (left_ k (size a)) :=
  szLen (K := fun j => F a j 0) h0 h1 ha.1 fun j h0 h1 => szLoop okd hF hf ha.2 (by have := ha.1; omega) h0 h1
theorem at_N {l : List α} {i : Int} (k : Nat → α → α → Option ρ) : (at_ l i fun j x => atN l j (k j x)) = at_ l i fun j x => k j x x := by
  unfold at_
  split
  · next e h =>
    have : l[i.toNat]? = some e := by split at h <;> simp_all
    exact atN_of this _
  · rfl
theorem atN_N {l : List α} {i : Nat} (k : α → α → Option ρ) : (atN l i fun x => atN l i (k x)) = atN l i fun x => k x x := by
  unfold atN
  cases l[i]? <;> rfl
theorem at_set {l : List α} {i : Int} {f : Nat → α → α} (k : Nat → α → α → Option ρ) : (at_ l i fun j x => atN (l.set j (f j x)) j (k j x)) = at_ l i fun j x => k j x (f j x) := by
  unfold at_
  split
  · next e h =>
    have h2 : l[i.toNat]? = some e := by split at h <;> simp_all
    have h3 : i.toNat < l.length := by rcases Nat.lt_or_ge i.toNat l.length with h4 | h4; exact h4; simp [List.getElem?_eq_none h4] at h2
    exact atN_of (List.getElem?_set_self h3) _
  · rfl
theorem toList [Dat α] {F : List α → Int → List α → Option (List α)} {f : α → Option α}
    (hF : ∀ a i o, F a i o = cond (decide (i < (a.length : Int))) (at_ a i fun _ x => (f x).bind fun y => at_ o i fun j _ => F a (w64 (i + 1)) (o.set j y)) (some o))
    (hf : ∀ x, size x ≤ 1048576 → f x = some x) {a : List α} (ha : size a ≤ 1048576) {e : α} : (rep_ (a.length : Int) e fun o => F a 0 o) = some a := by
  refine (toLoop (F := F) (f := f) (g := id) (fun x => size x ≤ 1048576) (fun a i o => ?_) hf (fun x hx => by have := size_mem hx; omega) (by have := len_size a; omega)).trans (by simp)
  rw [hF]
  congr 2
  funext _ x
  congr 1
  funext y
  unfold at_ atN
  cases h : (if 0 ≤ i then o[i.toNat]? else none) with
  | none => rfl
  | some e =>
    have : o[i.toNat]? = some e := by split at h <;> simp_all
    simp [this]
def all2 (p : α → β → Bool) : List α → List β → Bool
  | [], [] => true
  | x :: a, y :: b => p x y && all2 p a b
  | _, _ => false
theorem all2_len {p : α → β → Bool} : ∀ {a : List α} {b : List β}, a.length ≠ b.length → all2 p a b = false
  | [], [], h => absurd rfl h
  | [], _ :: _, _ => rfl
  | _ :: _, [], _ => rfl
  | x :: a, y :: b, h => by simp only [all2, all2_len (p := p) (a := a) (b := b) (fun e => h (by simp [e])), Bool.and_false]
theorem all2_eq [DecidableEq α] : ∀ (a b : List α), all2 (fun x y => decide (x = y)) a b = decide (a = b)
  | [], [] => by simp [all2]
  | [], _ :: _ => by simp [all2]
  | _ :: _, [] => by simp [all2]
  | x :: a, y :: b => by simp [all2, all2_eq a b]
theorem allLoop {F : Int → Option Bool} {e : α → β → Option Bool} {p : α → β → Bool} {a : List α} {b : List β}
    (hF : ∀ i, F i = cond (decide (i < (a.length : Int))) (at_ a i fun _ x => at_ b i fun _ y => (e x y).bind fun r => cond (!r) (some false) (F (w64 (i + 1)))) (some true))
    (he : ∀ x ∈ a, ∀ y ∈ b, e x y = some (p x y)) (hl : a.length = b.length) (hs : a.length ≤ 9223372036854775807) : F 0 = some (all2 p a b) := by
  have := loopD a (fun k s => F (k : Int) = some (all2 p s (b.drop k))) (by rw [hF]; simp [hl, all2]) (fun k x suf hd hx hk ih => by
    have hb : k < b.length := by omega
    rw [hF, at_of hx, at_of (List.getElem?_eq_getElem hb), he _ (List.mem_of_getElem? hx) _ (List.getElem_mem hb), w64_nat (by omega), ih, List.drop_eq_getElem_cons hb]
    cases h1 : p x b[k] <;> simp [hk, h1, all2])
  simpa using this
theorem allChk {F : Int → Option Bool} {e : α → β → Option Bool} {p : α → β → Bool} {a : List α} {b : List β}
    (hF : ∀ i, F i = cond (decide (i < (a.length : Int))) (at_ a i fun _ x => at_ b i fun _ y => (e x y).bind fun r => cond (!r) (some false) (F (w64 (i + 1)))) (some true))
    (he : ∀ x ∈ a, ∀ y ∈ b, e x y = some (p x y)) (hs : a.length ≤ 9223372036854775807) : cond (!((a.length : Int) == (b.length : Int))) (some false) (F 0) = some (all2 p a b) := by
  by_cases h : a.length = b.length
  · simp only [h, beq_self_eq_true, Bool.not_true, cond_false]
    exact allLoop hF he h hs
  · have h2 : ((a.length : Int) == (b.length : Int)) = false := by simp; omega
    simp [h2, all2_len h]
theorem selfList [Dat α] {F : List α → List α → Int → Option Bool} {e : α → α → Option Bool}
    (hF : ∀ a b i, F a b i = cond (decide (i < (a.length : Int))) (at_ a i fun _ x => at_ b i fun _ y => (e x y).bind fun r => cond (!r) (some false) (F a b (w64 (i + 1)))) (some true))
    (he : ∀ x, okd x → e x x = some true) {a : List α} (ha : okd a) : cond (!((a.length : Int) == (a.length : Int))) (some false) (F a a 0) = some true := by
  have := loopD a (fun k s => F a a (k : Int) = some true) (by rw [hF]; simp) (fun k x suf hd hx hk ih => by
    rw [hF, at_of hx, at_of hx, he _ (ha.2 x (List.mem_of_getElem? hx)), w64_nat (by have := ha.1; omega), ih]
    simp)
  simpa using this
theorem lawSz {k : Int} {m : Nat} {e : Option Int} {K : Int → Option Bool} (_h0 : 0 ≤ k) (_h1 : k ≤ 1048576) (he : e = some (left_ k m)) (hK : (m : Int) ≤ k → K (k - m) = some true) :
    (e.bind fun x => cond (decide (x < 0)) (some true) (K x)) = some true := by
  subst he
  rw [Option.bind_some]
  by_cases h : k < m
  · simp [left_, h]
  · have : left_ k m = k - m := by unfold left_; rw [if_neg h]
    rw [this]
    simp only [show ¬ (k - (m : Int) < 0) by omega, decide_false, cond_false]
    exact hK (by omega)
theorem le_maxLen {n : Nat} (h : n ≤ maxLen) : n ≤ 9223372036854775807 := h
end
end Go.Proofs.YtpoekafccggehacGreat.TM
namespace Go.Proofs.YtpoekafccggehacGreat.X
open Go Go.Proofs.YtpoekafccggehacGreat.TM
open Go.Proofs.YtpoekafccggehacGreat.TM.Dat (size okd inr)
theorem laws_szIntS_ok {a0 : List Int} {a1 : Int} (h : okd a0) (h0 : 0 ≤ a1) (h1 : a1 ≤ 1048576) : laws_szIntS a0 a1 = some (left_ a1 (size a0)) := by
  rw [laws_szIntS_eq]
  exact (szLen h0 h1 (okd_len h) fun _ h0 h1 => szEnd h0).trans (left_eq (by simp only [size_prod, size_str, size_ints, size_int, size_bool]; omega))
theorem laws_szValue_ok {a0 : Bool} {a1 : Int} {a2 : List Int} {a3 : Int} (h : okd (a0, a1, a2)) (h0 : 0 ≤ a3) (h1 : a3 ≤ 1048576) : laws_szValue a0 a1 a2 a3 = some (left_ a3 (size (a0, a1, a2))) := by
  rw [laws_szValue_eq]
  exact (szStep h0 h1 (laws_szIntS_ok h.2.2 h0 h1) fun _ h0 h1 => szEnd h0).trans (left_eq (by simp only [size_prod, size_str, size_ints, size_int, size_bool]; omega))
theorem laws_toIntS_ok {a0 : List Int} (h : size a0 ≤ 1048576) : laws_toIntS a0 = some a0 := by
  rw [laws_toIntS_eq]
  exact toList (F := laws_toIntS_l0) (f := fun x => some x) (fun a i o => (laws_toIntS_l0_eq a i o).trans (by simp only [at_N, atN_N, at_set, List.set_set, Option.bind_some])) (fun _ _ => rfl) h
theorem laws_toValue_ok {a0 : Bool} {a1 : Int} {a2 : List Int} (h : size (a0, a1, a2) ≤ 1048576) : laws_toValue a0 a1 a2 = some (a0, a1, a2) := by
  simp only [size_prod] at h
  rw [laws_toValue_eq, laws_toIntS_ok (by (try simp only [size_prod]); omega), Option.bind_some]
theorem laws_eqIntS_self {a0 : List Int} (h : okd a0) : laws_eqIntS a0 a0 = some true := by
  rw [laws_eqIntS_eq]
  exact selfList (F := laws_eqIntS_l0) (e := fun x y => some (x == y)) laws_eqIntS_l0_eq (fun x _ => by simp) h
theorem laws_eqValue_self {a0 : Bool} {a1 : Int} {a2 : List Int} (h : okd (a0, a1, a2)) : laws_eqValue a0 a1 a2 a0 a1 a2 = some true := by
  simp only [laws_eqValue_eq, laws_eqIntS_self h.2.2, Option.bind_some, beq_self_eq_true, Bool.not_true, cond_false]
theorem laws_szIntSS_ok {a0 : List (List Int)} {a1 : Int} (h : okd a0) (h0 : 0 ≤ a1) (h1 : a1 ≤ 1048576) : laws_szIntSS a0 a1 = some (left_ a1 (size a0)) := by
  rw [laws_szIntSS_eq]
  exact szList laws_szIntSS_l0_eq (fun x l h h0 h1 => laws_szIntS_ok h h0 h1) h h0 h1
theorem laws_szSizeGraph_ok {a0 : List UInt8} {a1 : List UInt8} {a2 : List (List Int)} {a3 : Int} (h : okd (a0, a1, a2)) (h0 : 0 ≤ a3) (h1 : a3 ≤ 1048576) : laws_szSizeGraph a0 a1 a2 a3 = some (left_ a3 (size (a0, a1, a2))) := by
  rw [laws_szSizeGraph_eq]
  exact (szLen h0 h1 (okd_len h.1) fun _ h0 h1 => szLen h0 h1 (okd_len h.2.1) fun _ h0 h1 => szStep h0 h1 (laws_szIntSS_ok h.2.2 h0 h1) fun _ h0 h1 => szEnd h0).trans (left_eq (by simp only [size_prod, size_str, size_ints, size_int, size_bool]; omega))
theorem laws_toIntSS_ok {a0 : List (List Int)} (h : size a0 ≤ 1048576) : laws_toIntSS a0 = some a0 := by
  rw [laws_toIntSS_eq]
  exact toList (F := laws_toIntSS_l0) (fun a i o => (laws_toIntSS_l0_eq a i o).trans (by simp only [at_N, atN_N, at_set, List.set_set, Option.bind_some])) (fun x h => laws_toIntS_ok h) h
theorem laws_toSizeGraph_ok {a0 : List UInt8} {a1 : List UInt8} {a2 : List (List Int)} (h : size (a0, a1, a2) ≤ 1048576) : laws_toSizeGraph a0 a1 a2 = some (a0, a1, a2) := by
  simp only [size_prod] at h
  rw [laws_toSizeGraph_eq, laws_toIntSS_ok (by (try simp only [size_prod]); omega), Option.bind_some]
theorem laws_eqIntSS_self {a0 : List (List Int)} (h : okd a0) : laws_eqIntSS a0 a0 = some true := by
  rw [laws_eqIntSS_eq]
  exact selfList (F := laws_eqIntSS_l0) laws_eqIntSS_l0_eq (fun x h => laws_eqIntS_self h) h
theorem laws_eqSizeGraph_self {a0 : List UInt8} {a1 : List UInt8} {a2 : List (List Int)} (h : okd (a0, a1, a2)) : laws_eqSizeGraph a0 a1 a2 a0 a1 a2 = some true := by
  simp only [laws_eqSizeGraph_eq, laws_eqIntSS_self h.2.2, Option.bind_some, beq_self_eq_true, Bool.not_true, cond_false]
theorem laws_eqLin_self {a0 : Int} {a1 : List Int} (h : okd (a0, a1)) : laws_eqLin a0 a1 a0 a1 = some true := by
  simp only [laws_eqLin_eq, laws_eqIntS_self h.2, Option.bind_some, beq_self_eq_true, Bool.not_true, cond_false]
theorem laws_eqLinS_self {a0 : List (Int × List Int)} (h : okd a0) : laws_eqLinS a0 a0 = some true := by
  rw [laws_eqLinS_eq]
  exact selfList (F := laws_eqLinS_l0) laws_eqLinS_l0_eq (fun x h => laws_eqLin_self h) h
theorem laws_szSizeGraphS_ok {a0 : List (List UInt8 × List UInt8 × List (List Int))} {a1 : Int} (h : okd a0) (h0 : 0 ≤ a1) (h1 : a1 ≤ 1048576) : laws_szSizeGraphS a0 a1 = some (left_ a1 (size a0)) := by
  rw [laws_szSizeGraphS_eq]
  exact szList laws_szSizeGraphS_l0_eq (fun x l h h0 h1 => laws_szSizeGraph_ok h h0 h1) h h0 h1
theorem laws_toSizeGraphS_ok {a0 : List (List UInt8 × List UInt8 × List (List Int))} (h : size a0 ≤ 1048576) : laws_toSizeGraphS a0 = some a0 := by
  rw [laws_toSizeGraphS_eq]
  exact toList (F := laws_toSizeGraphS_l0) (fun a i o => (laws_toSizeGraphS_l0_eq a i o).trans (by simp only [at_N, atN_N, at_set, List.set_set, Option.bind_some])) (fun x h => laws_toSizeGraph_ok h) h
theorem laws_eqSizeGraphS_self {a0 : List (List UInt8 × List UInt8 × List (List Int))} (h : okd a0) : laws_eqSizeGraphS a0 a0 = some true := by
  rw [laws_eqSizeGraphS_eq]
  exact selfList (F := laws_eqSizeGraphS_l0) laws_eqSizeGraphS_l0_eq (fun x h => laws_eqSizeGraph_self h) h
theorem laws_szLin_ok {a0 : Int} {a1 : List Int} {a2 : Int} (h : okd (a0, a1)) (h0 : 0 ≤ a2) (h1 : a2 ≤ 1048576) : laws_szLin a0 a1 a2 = some (left_ a2 (size (a0, a1))) := by
  rw [laws_szLin_eq]
  exact (szStep h0 h1 (laws_szIntS_ok h.2 h0 h1) fun _ h0 h1 => szEnd h0).trans (left_eq (by simp only [size_prod, size_str, size_ints, size_int, size_bool]; omega))
theorem laws_szLinS_ok {a0 : List (Int × List Int)} {a1 : Int} (h : okd a0) (h0 : 0 ≤ a1) (h1 : a1 ≤ 1048576) : laws_szLinS a0 a1 = some (left_ a1 (size a0)) := by
  rw [laws_szLinS_eq]
  exact szList laws_szLinS_l0_eq (fun x l h h0 h1 => laws_szLin_ok h h0 h1) h h0 h1
theorem laws_szBounds_ok {a0 : Int} {a1 : List (Int × List Int)} {a2 : Int} (h : okd (a0, a1)) (h0 : 0 ≤ a2) (h1 : a2 ≤ 1048576) : laws_szBounds a0 a1 a2 = some (left_ a2 (size (a0, a1))) := by
  rw [laws_szBounds_eq]
  exact (szStep h0 h1 (laws_szLinS_ok h.2 h0 h1) fun _ h0 h1 => szEnd h0).trans (left_eq (by simp only [size_prod, size_str, size_ints, size_int, size_bool]; omega))
theorem laws_szLinSS_ok {a0 : List (List (Int × List Int))} {a1 : Int} (h : okd a0) (h0 : 0 ≤ a1) (h1 : a1 ≤ 1048576) : laws_szLinSS a0 a1 = some (left_ a1 (size a0)) := by
  rw [laws_szLinSS_eq]
  exact szList laws_szLinSS_l0_eq (fun x l h h0 h1 => laws_szLinS_ok h h0 h1) h h0 h1
theorem laws_szRanking_ok {a0 : List (List (Int × List Int))} {a1 : List Int} {a2 : Int} (h : okd (a0, a1)) (h0 : 0 ≤ a2) (h1 : a2 ≤ 1048576) : laws_szRanking a0 a1 a2 = some (left_ a2 (size (a0, a1))) := by
  rw [laws_szRanking_eq]
  exact (szStep h0 h1 (laws_szLinSS_ok h.1 h0 h1) fun _ h0 h1 => szStep h0 h1 (laws_szIntS_ok h.2 h0 h1) fun _ h0 h1 => szEnd h0).trans (left_eq (by simp only [size_prod, size_str, size_ints, size_int, size_bool]; omega))
theorem laws_szFarkas_ok {a0 : Int} {a1 : List Int} {a2 : Int} (h : okd (a0, a1)) (h0 : 0 ≤ a2) (h1 : a2 ≤ 1048576) : laws_szFarkas a0 a1 a2 = some (left_ a2 (size (a0, a1))) := by
  rw [laws_szFarkas_eq]
  exact (szStep h0 h1 (laws_szIntS_ok h.2 h0 h1) fun _ h0 h1 => szEnd h0).trans (left_eq (by simp only [size_prod, size_str, size_ints, size_int, size_bool]; omega))
theorem laws_szFarkasS_ok {a0 : List (Int × List Int)} {a1 : Int} (h : okd a0) (h0 : 0 ≤ a1) (h1 : a1 ≤ 1048576) : laws_szFarkasS a0 a1 = some (left_ a1 (size a0)) := by
  rw [laws_szFarkasS_eq]
  exact szList laws_szFarkasS_l0_eq (fun x l h h0 h1 => laws_szFarkas_ok h h0 h1) h h0 h1
theorem laws_szValueS_ok {a0 : List (Bool × Int × List Int)} {a1 : Int} (h : okd a0) (h0 : 0 ≤ a1) (h1 : a1 ≤ 1048576) : laws_szValueS a0 a1 = some (left_ a1 (size a0)) := by
  rw [laws_szValueS_eq]
  exact szList laws_szValueS_l0_eq (fun x l h h0 h1 => laws_szValue_ok h h0 h1) h h0 h1
theorem laws_szCertificate_ok {a0 : Int} {a1 : Int} {a2 : List (Int × List Int)} {a3 : List (List (Int × List Int))} {a4 : List Int} {a5 : List (List UInt8 × List UInt8 × List (List Int))} {a6 : List (Int × List Int)} {a7 : List UInt8} {a8 : List (Bool × Int × List Int)} {a9 : Int} (h : okd (a0, a1, a2, a3, a4, a5, a6, a7, a8)) (h0 : 0 ≤ a9) (h1 : a9 ≤ 1048576) : laws_szCertificate a0 a1 a2 a3 a4 a5 a6 a7 a8 a9 = some (left_ a9 (size (a0, a1, a2, a3, a4, a5, a6, a7, a8))) := by
  rw [laws_szCertificate_eq]
  exact (szStep h0 h1 (laws_szBounds_ok ⟨h.2.1, h.2.2.1⟩ h0 h1) fun _ h0 h1 => szStep h0 h1 (laws_szRanking_ok ⟨h.2.2.2.1, h.2.2.2.2.1⟩ h0 h1) fun _ h0 h1 => szStep h0 h1 (laws_szSizeGraphS_ok h.2.2.2.2.2.1 h0 h1) fun _ h0 h1 => szStep h0 h1 (laws_szFarkasS_ok h.2.2.2.2.2.2.1 h0 h1) fun _ h0 h1 => szLen h0 h1 (okd_len h.2.2.2.2.2.2.2.1) fun _ h0 h1 => szStep h0 h1 (laws_szValueS_ok h.2.2.2.2.2.2.2.2 h0 h1) fun _ h0 h1 => szEnd h0).trans (left_eq (by simp only [size_prod, size_str, size_ints, size_int, size_bool]; omega))
theorem laws_toLin_ok {a0 : Int} {a1 : List Int} (h : size (a0, a1) ≤ 1048576) : laws_toLin a0 a1 = some (a0, a1) := by
  simp only [size_prod] at h
  rw [laws_toLin_eq, laws_toIntS_ok (by (try simp only [size_prod]); omega), Option.bind_some]
theorem laws_toLinS_ok {a0 : List (Int × List Int)} (h : size a0 ≤ 1048576) : laws_toLinS a0 = some a0 := by
  rw [laws_toLinS_eq]
  exact toList (F := laws_toLinS_l0) (fun a i o => (laws_toLinS_l0_eq a i o).trans (by simp only [at_N, atN_N, at_set, List.set_set, Option.bind_some])) (fun x h => laws_toLin_ok h) h
theorem laws_toBounds_ok {a0 : Int} {a1 : List (Int × List Int)} (h : size (a0, a1) ≤ 1048576) : laws_toBounds a0 a1 = some (a0, a1) := by
  simp only [size_prod] at h
  rw [laws_toBounds_eq, laws_toLinS_ok (by (try simp only [size_prod]); omega), Option.bind_some]
theorem laws_toLinSS_ok {a0 : List (List (Int × List Int))} (h : size a0 ≤ 1048576) : laws_toLinSS a0 = some a0 := by
  rw [laws_toLinSS_eq]
  exact toList (F := laws_toLinSS_l0) (fun a i o => (laws_toLinSS_l0_eq a i o).trans (by simp only [at_N, atN_N, at_set, List.set_set, Option.bind_some])) (fun x h => laws_toLinS_ok h) h
theorem laws_toRanking_ok {a0 : List (List (Int × List Int))} {a1 : List Int} (h : size (a0, a1) ≤ 1048576) : laws_toRanking a0 a1 = some (a0, a1) := by
  simp only [size_prod] at h
  rw [laws_toRanking_eq, laws_toLinSS_ok (by (try simp only [size_prod]); omega), Option.bind_some, laws_toIntS_ok (by (try simp only [size_prod]); omega), Option.bind_some]
theorem laws_toFarkas_ok {a0 : Int} {a1 : List Int} (h : size (a0, a1) ≤ 1048576) : laws_toFarkas a0 a1 = some (a0, a1) := by
  simp only [size_prod] at h
  rw [laws_toFarkas_eq, laws_toIntS_ok (by (try simp only [size_prod]); omega), Option.bind_some]
theorem laws_toFarkasS_ok {a0 : List (Int × List Int)} (h : size a0 ≤ 1048576) : laws_toFarkasS a0 = some a0 := by
  rw [laws_toFarkasS_eq]
  exact toList (F := laws_toFarkasS_l0) (fun a i o => (laws_toFarkasS_l0_eq a i o).trans (by simp only [at_N, atN_N, at_set, List.set_set, Option.bind_some])) (fun x h => laws_toFarkas_ok h) h
theorem laws_toValueS_ok {a0 : List (Bool × Int × List Int)} (h : size a0 ≤ 1048576) : laws_toValueS a0 = some a0 := by
  rw [laws_toValueS_eq]
  exact toList (F := laws_toValueS_l0) (fun a i o => (laws_toValueS_l0_eq a i o).trans (by simp only [at_N, atN_N, at_set, List.set_set, Option.bind_some])) (fun x h => laws_toValue_ok h) h
theorem laws_toCertificate_ok {a0 : Int} {a1 : Int} {a2 : List (Int × List Int)} {a3 : List (List (Int × List Int))} {a4 : List Int} {a5 : List (List UInt8 × List UInt8 × List (List Int))} {a6 : List (Int × List Int)} {a7 : List UInt8} {a8 : List (Bool × Int × List Int)} (h : size (a0, a1, a2, a3, a4, a5, a6, a7, a8) ≤ 1048576) : laws_toCertificate a0 a1 a2 a3 a4 a5 a6 a7 a8 = some (a0, a1, a2, a3, a4, a5, a6, a7, a8) := by
  simp only [size_prod] at h
  rw [laws_toCertificate_eq, laws_toBounds_ok (by (try simp only [size_prod]); omega), Option.bind_some, laws_toRanking_ok (by (try simp only [size_prod]); omega), Option.bind_some, laws_toSizeGraphS_ok (by (try simp only [size_prod]); omega), Option.bind_some, laws_toFarkasS_ok (by (try simp only [size_prod]); omega), Option.bind_some, laws_toValueS_ok (by (try simp only [size_prod]); omega), Option.bind_some]
theorem laws_eqBounds_self {a0 : Int} {a1 : List (Int × List Int)} (h : okd (a0, a1)) : laws_eqBounds a0 a1 a0 a1 = some true := by
  simp only [laws_eqBounds_eq, laws_eqLinS_self h.2, Option.bind_some, beq_self_eq_true, Bool.not_true, cond_false]
theorem laws_eqLinSS_self {a0 : List (List (Int × List Int))} (h : okd a0) : laws_eqLinSS a0 a0 = some true := by
  rw [laws_eqLinSS_eq]
  exact selfList (F := laws_eqLinSS_l0) laws_eqLinSS_l0_eq (fun x h => laws_eqLinS_self h) h
theorem laws_eqRanking_self {a0 : List (List (Int × List Int))} {a1 : List Int} (h : okd (a0, a1)) : laws_eqRanking a0 a1 a0 a1 = some true := by
  simp only [laws_eqRanking_eq, laws_eqLinSS_self h.1, laws_eqIntS_self h.2, Option.bind_some, beq_self_eq_true, Bool.not_true, cond_false]
theorem laws_eqFarkas_self {a0 : Int} {a1 : List Int} (h : okd (a0, a1)) : laws_eqFarkas a0 a1 a0 a1 = some true := by
  simp only [laws_eqFarkas_eq, laws_eqIntS_self h.2, Option.bind_some, beq_self_eq_true, Bool.not_true, cond_false]
theorem laws_eqFarkasS_self {a0 : List (Int × List Int)} (h : okd a0) : laws_eqFarkasS a0 a0 = some true := by
  rw [laws_eqFarkasS_eq]
  exact selfList (F := laws_eqFarkasS_l0) laws_eqFarkasS_l0_eq (fun x h => laws_eqFarkas_self h) h
theorem laws_eqValueS_self {a0 : List (Bool × Int × List Int)} (h : okd a0) : laws_eqValueS a0 a0 = some true := by
  rw [laws_eqValueS_eq]
  exact selfList (F := laws_eqValueS_l0) laws_eqValueS_l0_eq (fun x h => laws_eqValue_self h) h
theorem laws_eqCertificate_self {a0 : Int} {a1 : Int} {a2 : List (Int × List Int)} {a3 : List (List (Int × List Int))} {a4 : List Int} {a5 : List (List UInt8 × List UInt8 × List (List Int))} {a6 : List (Int × List Int)} {a7 : List UInt8} {a8 : List (Bool × Int × List Int)} (h : okd (a0, a1, a2, a3, a4, a5, a6, a7, a8)) : laws_eqCertificate a0 a1 a2 a3 a4 a5 a6 a7 a8 a0 a1 a2 a3 a4 a5 a6 a7 a8 = some true := by
  simp only [laws_eqCertificate_eq, laws_eqBounds_self ⟨h.2.1, h.2.2.1⟩, laws_eqRanking_self ⟨h.2.2.2.1, h.2.2.2.2.1⟩, laws_eqSizeGraphS_self h.2.2.2.2.2.1, laws_eqFarkasS_self h.2.2.2.2.2.2.1, laws_eqValueS_self h.2.2.2.2.2.2.2.2, Option.bind_some, beq_self_eq_true, Bool.not_true, cond_false]
theorem laws_szStringS_ok {a0 : List (List UInt8)} {a1 : Int} (h : okd a0) (h0 : 0 ≤ a1) (h1 : a1 ≤ 1048576) : laws_szStringS a0 a1 = some (left_ a1 (size a0)) := by
  rw [laws_szStringS_eq]
  exact szList (F := fun a l i => laws_szStringS_l0 a l i) (fun a l i => by
    refine (laws_szStringS_l0_eq a l i).trans ?_
    congr 2
    funext x y
    cases h : decide (w64 (l - (y.length : Int)) < 0) <;> simp [h]) (f := fun x l => cond (decide (w64 (l - (x.length : Int)) < 0)) (some (-1)) (some (w64 (l - (x.length : Int))))) (fun (x : List UInt8) l h h0 h1 => (szLen h0 h1 (okd_len h) fun _ h0 _ => szEnd h0).trans (left_eq (by simp only [size_str]; omega))) h h0 h1
theorem laws_szFunction_ok {a0 : List UInt8} {a1 : List (List UInt8)} {a2 : Bool} {a3 : List (Int × List Int)} {a4 : Int} (h : okd (a0, a1, a2, a3)) (h0 : 0 ≤ a4) (h1 : a4 ≤ 1048576) : laws_szFunction a0 a1 a2 a3 a4 = some (left_ a4 (size (a0, a1, a2, a3))) := by
  rw [laws_szFunction_eq]
  exact (szLen h0 h1 (okd_len h.1) fun _ h0 h1 => szStep h0 h1 (laws_szStringS_ok h.2.1 h0 h1) fun _ h0 h1 => szStep h0 h1 (laws_szLinS_ok h.2.2.2 h0 h1) fun _ h0 h1 => szEnd h0).trans (left_eq (by simp only [size_prod, size_str, size_ints, size_int, size_bool]; omega))
theorem laws_szFunctionS_ok {a0 : List (List UInt8 × List (List UInt8) × Bool × List (Int × List Int))} {a1 : Int} (h : okd a0) (h0 : 0 ≤ a1) (h1 : a1 ≤ 1048576) : laws_szFunctionS a0 a1 = some (left_ a1 (size a0)) := by
  rw [laws_szFunctionS_eq]
  exact szList laws_szFunctionS_l0_eq (fun x l h h0 h1 => laws_szFunction_ok h h0 h1) h h0 h1
theorem laws_szPattern_ok {a0 : List UInt8} {a1 : Bool} {a2 : List UInt8} {a3 : List UInt8} {a4 : Int} (h : okd (a0, a1, a2, a3)) (h0 : 0 ≤ a4) (h1 : a4 ≤ 1048576) : laws_szPattern a0 a1 a2 a3 a4 = some (left_ a4 (size (a0, a1, a2, a3))) := by
  rw [laws_szPattern_eq]
  exact (szLen h0 h1 (okd_len h.1) fun _ h0 h1 => szLen h0 h1 (okd_len h.2.2.1) fun _ h0 h1 => szLen h0 h1 (okd_len h.2.2.2) fun _ h0 h1 => szEnd h0).trans (left_eq (by simp only [size_prod, size_str, size_ints, size_int, size_bool]; omega))
theorem laws_szPatternS_ok {a0 : List (List UInt8 × Bool × List UInt8 × List UInt8)} {a1 : Int} (h : okd a0) (h0 : 0 ≤ a1) (h1 : a1 ≤ 1048576) : laws_szPatternS a0 a1 = some (left_ a1 (size a0)) := by
  rw [laws_szPatternS_eq]
  exact szList laws_szPatternS_l0_eq (fun x l h h0 h1 => laws_szPattern_ok h h0 h1) h h0 h1
theorem laws_szTerm_ok {a0 : Int} {a1 : List UInt8} {a2 : Int} (h : okd (a0, a1)) (h0 : 0 ≤ a2) (h1 : a2 ≤ 1048576) : laws_szTerm a0 a1 a2 = some (left_ a2 (size (a0, a1))) := by
  rw [laws_szTerm_eq]
  exact (szLen h0 h1 (okd_len h.2) fun _ h0 h1 => szEnd h0).trans (left_eq (by simp only [size_prod, size_str, size_ints, size_int, size_bool]; omega))
theorem laws_szTermS_ok {a0 : List (Int × List UInt8)} {a1 : Int} (h : okd a0) (h0 : 0 ≤ a1) (h1 : a1 ≤ 1048576) : laws_szTermS a0 a1 = some (left_ a1 (size a0)) := by
  rw [laws_szTermS_eq]
  exact szList laws_szTermS_l0_eq (fun x l h h0 h1 => laws_szTerm_ok h h0 h1) h h0 h1
theorem laws_szSum_ok {a0 : Int} {a1 : List (Int × List UInt8)} {a2 : Int} (h : okd (a0, a1)) (h0 : 0 ≤ a2) (h1 : a2 ≤ 1048576) : laws_szSum a0 a1 a2 = some (left_ a2 (size (a0, a1))) := by
  rw [laws_szSum_eq]
  exact (szStep h0 h1 (laws_szTermS_ok h.2 h0 h1) fun _ h0 h1 => szEnd h0).trans (left_eq (by simp only [size_prod, size_str, size_ints, size_int, size_bool]; omega))
theorem laws_szSumS_ok {a0 : List (Int × List (Int × List UInt8))} {a1 : Int} (h : okd a0) (h0 : 0 ≤ a1) (h1 : a1 ≤ 1048576) : laws_szSumS a0 a1 = some (left_ a1 (size a0)) := by
  rw [laws_szSumS_eq]
  exact szList laws_szSumS_l0_eq (fun x l h h0 h1 => laws_szSum_ok h h0 h1) h h0 h1
theorem laws_szArg_ok {a0 : Bool} {a1 : List (Int × List (Int × List UInt8))} {a2 : List UInt8} {a3 : Int} (h : okd (a0, a1, a2)) (h0 : 0 ≤ a3) (h1 : a3 ≤ 1048576) : laws_szArg a0 a1 a2 a3 = some (left_ a3 (size (a0, a1, a2))) := by
  rw [laws_szArg_eq]
  exact (szStep h0 h1 (laws_szSumS_ok h.2.1 h0 h1) fun _ h0 h1 => szLen h0 h1 (okd_len h.2.2) fun _ h0 h1 => szEnd h0).trans (left_eq (by simp only [size_prod, size_str, size_ints, size_int, size_bool]; omega))
theorem laws_szArgS_ok {a0 : List (Bool × List (Int × List (Int × List UInt8)) × List UInt8)} {a1 : Int} (h : okd a0) (h0 : 0 ≤ a1) (h1 : a1 ≤ 1048576) : laws_szArgS a0 a1 = some (left_ a1 (size a0)) := by
  rw [laws_szArgS_eq]
  exact szList laws_szArgS_l0_eq (fun x l h h0 h1 => laws_szArg_ok h h0 h1) h h0 h1
theorem laws_szCall_ok {a0 : List UInt8} {a1 : List UInt8} {a2 : List (Bool × List (Int × List (Int × List UInt8)) × List UInt8)} {a3 : Int} (h : okd (a0, a1, a2)) (h0 : 0 ≤ a3) (h1 : a3 ≤ 1048576) : laws_szCall a0 a1 a2 a3 = some (left_ a3 (size (a0, a1, a2))) := by
  rw [laws_szCall_eq]
  exact (szLen h0 h1 (okd_len h.1) fun _ h0 h1 => szLen h0 h1 (okd_len h.2.1) fun _ h0 h1 => szStep h0 h1 (laws_szArgS_ok h.2.2 h0 h1) fun _ h0 h1 => szEnd h0).trans (left_eq (by simp only [size_prod, size_str, size_ints, size_int, size_bool]; omega))
theorem laws_szCallS_ok {a0 : List (List UInt8 × List UInt8 × List (Bool × List (Int × List (Int × List UInt8)) × List UInt8))} {a1 : Int} (h : okd a0) (h0 : 0 ≤ a1) (h1 : a1 ≤ 1048576) : laws_szCallS a0 a1 = some (left_ a1 (size a0)) := by
  rw [laws_szCallS_eq]
  exact szList laws_szCallS_l0_eq (fun x l h h0 h1 => laws_szCall_ok h h0 h1) h h0 h1
theorem laws_szRule_ok {a0 : List UInt8} {a1 : List (List UInt8 × Bool × List UInt8 × List UInt8)} {a2 : List (Int × List (Int × List UInt8))} {a3 : List (List UInt8 × List UInt8 × List (Bool × List (Int × List (Int × List UInt8)) × List UInt8))} {a4 : Bool} {a5 : List (Int × List (Int × List UInt8))} {a6 : List UInt8} {a7 : Int} (h : okd (a0, a1, a2, a3, a4, a5, a6)) (h0 : 0 ≤ a7) (h1 : a7 ≤ 1048576) : laws_szRule a0 a1 a2 a3 a4 a5 a6 a7 = some (left_ a7 (size (a0, a1, a2, a3, a4, a5, a6))) := by
  rw [laws_szRule_eq]
  exact (szLen h0 h1 (okd_len h.1) fun _ h0 h1 => szStep h0 h1 (laws_szPatternS_ok h.2.1 h0 h1) fun _ h0 h1 => szStep h0 h1 (laws_szSumS_ok h.2.2.1 h0 h1) fun _ h0 h1 => szStep h0 h1 (laws_szCallS_ok h.2.2.2.1 h0 h1) fun _ h0 h1 => szStep h0 h1 (laws_szArg_ok ⟨h.2.2.2.2.1, h.2.2.2.2.2.1, h.2.2.2.2.2.2⟩ h0 h1) fun _ h0 h1 => szEnd h0).trans (left_eq (by simp only [size_prod, size_str, size_ints, size_int, size_bool]; omega))
theorem laws_szRuleS_ok {a0 : List (List UInt8 × List (List UInt8 × Bool × List UInt8 × List UInt8) × List (Int × List (Int × List UInt8)) × List (List UInt8 × List UInt8 × List (Bool × List (Int × List (Int × List UInt8)) × List UInt8)) × Bool × List (Int × List (Int × List UInt8)) × List UInt8)} {a1 : Int} (h : okd a0) (h0 : 0 ≤ a1) (h1 : a1 ≤ 1048576) : laws_szRuleS a0 a1 = some (left_ a1 (size a0)) := by
  rw [laws_szRuleS_eq]
  exact szList laws_szRuleS_l0_eq (fun x l h h0 h1 => laws_szRule_ok h h0 h1) h h0 h1
theorem laws_szProgram_ok {a0 : List (List UInt8 × List (List UInt8) × Bool × List (Int × List Int))} {a1 : List (List UInt8 × List (List UInt8 × Bool × List UInt8 × List UInt8) × List (Int × List (Int × List UInt8)) × List (List UInt8 × List UInt8 × List (Bool × List (Int × List (Int × List UInt8)) × List UInt8)) × Bool × List (Int × List (Int × List UInt8)) × List UInt8)} {a2 : Int} (h : okd (a0, a1)) (h0 : 0 ≤ a2) (h1 : a2 ≤ 1048576) : laws_szProgram a0 a1 a2 = some (left_ a2 (size (a0, a1))) := by
  rw [laws_szProgram_eq]
  exact (szStep h0 h1 (laws_szFunctionS_ok h.1 h0 h1) fun _ h0 h1 => szStep h0 h1 (laws_szRuleS_ok h.2 h0 h1) fun _ h0 h1 => szEnd h0).trans (left_eq (by simp only [size_prod, size_str, size_ints, size_int, size_bool]; omega))
theorem laws_szSession_ok {a0 : List UInt8} {a1 : List (List UInt8 × List (List UInt8) × Bool × List (Int × List Int))} {a2 : List (List UInt8 × List (List UInt8 × Bool × List UInt8 × List UInt8) × List (Int × List (Int × List UInt8)) × List (List UInt8 × List UInt8 × List (Bool × List (Int × List (Int × List UInt8)) × List UInt8)) × Bool × List (Int × List (Int × List UInt8)) × List UInt8)} {a3 : Int} {a4 : Int} {a5 : List (Int × List Int)} {a6 : List (List (Int × List Int))} {a7 : List Int} {a8 : List (List UInt8 × List UInt8 × List (List Int))} {a9 : List (Int × List Int)} {a10 : List UInt8} {a11 : List (Bool × Int × List Int)} {a12 : Int} (h : okd (a0, a1, a2, a3, a4, a5, a6, a7, a8, a9, a10, a11)) (h0 : 0 ≤ a12) (h1 : a12 ≤ 1048576) : laws_szSession a0 a1 a2 a3 a4 a5 a6 a7 a8 a9 a10 a11 a12 = some (left_ a12 (size (a0, a1, a2, a3, a4, a5, a6, a7, a8, a9, a10, a11))) := by
  rw [laws_szSession_eq]
  exact (szLen h0 h1 (okd_len h.1) fun _ h0 h1 => szStep h0 h1 (laws_szProgram_ok ⟨h.2.1, h.2.2.1⟩ h0 h1) fun _ h0 h1 => szStep h0 h1 (laws_szCertificate_ok ⟨h.2.2.2.1, h.2.2.2.2.1, h.2.2.2.2.2.1, h.2.2.2.2.2.2.1, h.2.2.2.2.2.2.2.1, h.2.2.2.2.2.2.2.2.1, h.2.2.2.2.2.2.2.2.2.1, h.2.2.2.2.2.2.2.2.2.2.1, h.2.2.2.2.2.2.2.2.2.2.2⟩ h0 h1) fun _ h0 h1 => szEnd h0).trans (left_eq (by simp only [size_prod, size_str, size_ints, size_int, size_bool]; omega))
theorem laws_toStringS_ok {a0 : List (List UInt8)} (h : size a0 ≤ 1048576) : laws_toStringS a0 = some a0 := by
  rw [laws_toStringS_eq]
  exact toList (F := laws_toStringS_l0) (f := fun x => some x) (fun a i o => (laws_toStringS_l0_eq a i o).trans (by simp only [at_N, atN_N, at_set, List.set_set, Option.bind_some])) (fun _ _ => rfl) h
theorem laws_toFunction_ok {a0 : List UInt8} {a1 : List (List UInt8)} {a2 : Bool} {a3 : List (Int × List Int)} (h : size (a0, a1, a2, a3) ≤ 1048576) : laws_toFunction a0 a1 a2 a3 = some (a0, a1, a2, a3) := by
  simp only [size_prod] at h
  rw [laws_toFunction_eq, laws_toStringS_ok (by (try simp only [size_prod]); omega), Option.bind_some, laws_toLinS_ok (by (try simp only [size_prod]); omega), Option.bind_some]
theorem laws_toFunctionS_ok {a0 : List (List UInt8 × List (List UInt8) × Bool × List (Int × List Int))} (h : size a0 ≤ 1048576) : laws_toFunctionS a0 = some a0 := by
  rw [laws_toFunctionS_eq]
  exact toList (F := laws_toFunctionS_l0) (fun a i o => (laws_toFunctionS_l0_eq a i o).trans (by simp only [at_N, atN_N, at_set, List.set_set, Option.bind_some])) (fun x h => laws_toFunction_ok h) h
theorem laws_toPattern_ok {a0 : List UInt8} {a1 : Bool} {a2 : List UInt8} {a3 : List UInt8} (h : size (a0, a1, a2, a3) ≤ 1048576) : laws_toPattern a0 a1 a2 a3 = some (a0, a1, a2, a3) := by
  simp only [size_prod] at h
  rw [laws_toPattern_eq]
theorem laws_toPatternS_ok {a0 : List (List UInt8 × Bool × List UInt8 × List UInt8)} (h : size a0 ≤ 1048576) : laws_toPatternS a0 = some a0 := by
  rw [laws_toPatternS_eq]
  exact toList (F := laws_toPatternS_l0) (fun a i o => (laws_toPatternS_l0_eq a i o).trans (by simp only [at_N, atN_N, at_set, List.set_set, Option.bind_some])) (fun x h => laws_toPattern_ok h) h
theorem laws_toTerm_ok {a0 : Int} {a1 : List UInt8} (h : size (a0, a1) ≤ 1048576) : laws_toTerm a0 a1 = some (a0, a1) := by
  simp only [size_prod] at h
  rw [laws_toTerm_eq]
theorem laws_toTermS_ok {a0 : List (Int × List UInt8)} (h : size a0 ≤ 1048576) : laws_toTermS a0 = some a0 := by
  rw [laws_toTermS_eq]
  exact toList (F := laws_toTermS_l0) (fun a i o => (laws_toTermS_l0_eq a i o).trans (by simp only [at_N, atN_N, at_set, List.set_set, Option.bind_some])) (fun x h => laws_toTerm_ok h) h
theorem laws_toSum_ok {a0 : Int} {a1 : List (Int × List UInt8)} (h : size (a0, a1) ≤ 1048576) : laws_toSum a0 a1 = some (a0, a1) := by
  simp only [size_prod] at h
  rw [laws_toSum_eq, laws_toTermS_ok (by (try simp only [size_prod]); omega), Option.bind_some]
theorem laws_toSumS_ok {a0 : List (Int × List (Int × List UInt8))} (h : size a0 ≤ 1048576) : laws_toSumS a0 = some a0 := by
  rw [laws_toSumS_eq]
  exact toList (F := laws_toSumS_l0) (fun a i o => (laws_toSumS_l0_eq a i o).trans (by simp only [at_N, atN_N, at_set, List.set_set, Option.bind_some])) (fun x h => laws_toSum_ok h) h
theorem laws_toArg_ok {a0 : Bool} {a1 : List (Int × List (Int × List UInt8))} {a2 : List UInt8} (h : size (a0, a1, a2) ≤ 1048576) : laws_toArg a0 a1 a2 = some (a0, a1, a2) := by
  simp only [size_prod] at h
  rw [laws_toArg_eq, laws_toSumS_ok (by (try simp only [size_prod]); omega), Option.bind_some]
theorem laws_toArgS_ok {a0 : List (Bool × List (Int × List (Int × List UInt8)) × List UInt8)} (h : size a0 ≤ 1048576) : laws_toArgS a0 = some a0 := by
  rw [laws_toArgS_eq]
  exact toList (F := laws_toArgS_l0) (fun a i o => (laws_toArgS_l0_eq a i o).trans (by simp only [at_N, atN_N, at_set, List.set_set, Option.bind_some])) (fun x h => laws_toArg_ok h) h
theorem laws_toCall_ok {a0 : List UInt8} {a1 : List UInt8} {a2 : List (Bool × List (Int × List (Int × List UInt8)) × List UInt8)} (h : size (a0, a1, a2) ≤ 1048576) : laws_toCall a0 a1 a2 = some (a0, a1, a2) := by
  simp only [size_prod] at h
  rw [laws_toCall_eq, laws_toArgS_ok (by (try simp only [size_prod]); omega), Option.bind_some]
theorem laws_toCallS_ok {a0 : List (List UInt8 × List UInt8 × List (Bool × List (Int × List (Int × List UInt8)) × List UInt8))} (h : size a0 ≤ 1048576) : laws_toCallS a0 = some a0 := by
  rw [laws_toCallS_eq]
  exact toList (F := laws_toCallS_l0) (fun a i o => (laws_toCallS_l0_eq a i o).trans (by simp only [at_N, atN_N, at_set, List.set_set, Option.bind_some])) (fun x h => laws_toCall_ok h) h
theorem laws_toRule_ok {a0 : List UInt8} {a1 : List (List UInt8 × Bool × List UInt8 × List UInt8)} {a2 : List (Int × List (Int × List UInt8))} {a3 : List (List UInt8 × List UInt8 × List (Bool × List (Int × List (Int × List UInt8)) × List UInt8))} {a4 : Bool} {a5 : List (Int × List (Int × List UInt8))} {a6 : List UInt8} (h : size (a0, a1, a2, a3, a4, a5, a6) ≤ 1048576) : laws_toRule a0 a1 a2 a3 a4 a5 a6 = some (a0, a1, a2, a3, a4, a5, a6) := by
  simp only [size_prod] at h
  rw [laws_toRule_eq, laws_toPatternS_ok (by (try simp only [size_prod]); omega), Option.bind_some, laws_toSumS_ok (by (try simp only [size_prod]); omega), Option.bind_some, laws_toCallS_ok (by (try simp only [size_prod]); omega), Option.bind_some, laws_toArg_ok (by (try simp only [size_prod]); omega), Option.bind_some]
theorem laws_toRuleS_ok {a0 : List (List UInt8 × List (List UInt8 × Bool × List UInt8 × List UInt8) × List (Int × List (Int × List UInt8)) × List (List UInt8 × List UInt8 × List (Bool × List (Int × List (Int × List UInt8)) × List UInt8)) × Bool × List (Int × List (Int × List UInt8)) × List UInt8)} (h : size a0 ≤ 1048576) : laws_toRuleS a0 = some a0 := by
  rw [laws_toRuleS_eq]
  exact toList (F := laws_toRuleS_l0) (fun a i o => (laws_toRuleS_l0_eq a i o).trans (by simp only [at_N, atN_N, at_set, List.set_set, Option.bind_some])) (fun x h => laws_toRule_ok h) h
theorem laws_toProgram_ok {a0 : List (List UInt8 × List (List UInt8) × Bool × List (Int × List Int))} {a1 : List (List UInt8 × List (List UInt8 × Bool × List UInt8 × List UInt8) × List (Int × List (Int × List UInt8)) × List (List UInt8 × List UInt8 × List (Bool × List (Int × List (Int × List UInt8)) × List UInt8)) × Bool × List (Int × List (Int × List UInt8)) × List UInt8)} (h : size (a0, a1) ≤ 1048576) : laws_toProgram a0 a1 = some (a0, a1) := by
  simp only [size_prod] at h
  rw [laws_toProgram_eq, laws_toFunctionS_ok (by (try simp only [size_prod]); omega), Option.bind_some, laws_toRuleS_ok (by (try simp only [size_prod]); omega), Option.bind_some]
theorem laws_toSession_ok {a0 : List UInt8} {a1 : List (List UInt8 × List (List UInt8) × Bool × List (Int × List Int))} {a2 : List (List UInt8 × List (List UInt8 × Bool × List UInt8 × List UInt8) × List (Int × List (Int × List UInt8)) × List (List UInt8 × List UInt8 × List (Bool × List (Int × List (Int × List UInt8)) × List UInt8)) × Bool × List (Int × List (Int × List UInt8)) × List UInt8)} {a3 : Int} {a4 : Int} {a5 : List (Int × List Int)} {a6 : List (List (Int × List Int))} {a7 : List Int} {a8 : List (List UInt8 × List UInt8 × List (List Int))} {a9 : List (Int × List Int)} {a10 : List UInt8} {a11 : List (Bool × Int × List Int)} (h : size (a0, a1, a2, a3, a4, a5, a6, a7, a8, a9, a10, a11) ≤ 1048576) : laws_toSession a0 a1 a2 a3 a4 a5 a6 a7 a8 a9 a10 a11 = some (a0, a1, a2, a3, a4, a5, a6, a7, a8, a9, a10, a11) := by
  simp only [size_prod] at h
  rw [laws_toSession_eq, laws_toProgram_ok (by (try simp only [size_prod]); omega), Option.bind_some, laws_toCertificate_ok (by (try simp only [size_prod]); omega), Option.bind_some]
theorem laws_eqStringS_self {a0 : List (List UInt8)} (h : okd a0) : laws_eqStringS a0 a0 = some true := by
  rw [laws_eqStringS_eq]
  exact selfList (F := laws_eqStringS_l0) (e := fun x y => some (x == y)) laws_eqStringS_l0_eq (fun x _ => by simp) h
theorem laws_eqFunction_self {a0 : List UInt8} {a1 : List (List UInt8)} {a2 : Bool} {a3 : List (Int × List Int)} (h : okd (a0, a1, a2, a3)) : laws_eqFunction a0 a1 a2 a3 a0 a1 a2 a3 = some true := by
  simp only [laws_eqFunction_eq, laws_eqStringS_self h.2.1, laws_eqLinS_self h.2.2.2, Option.bind_some, beq_self_eq_true, Bool.not_true, cond_false]
theorem laws_eqFunctionS_self {a0 : List (List UInt8 × List (List UInt8) × Bool × List (Int × List Int))} (h : okd a0) : laws_eqFunctionS a0 a0 = some true := by
  rw [laws_eqFunctionS_eq]
  exact selfList (F := laws_eqFunctionS_l0) laws_eqFunctionS_l0_eq (fun x h => laws_eqFunction_self h) h
theorem laws_eqPattern_self {a0 : List UInt8} {a1 : Bool} {a2 : List UInt8} {a3 : List UInt8} (h : okd (a0, a1, a2, a3)) : laws_eqPattern a0 a1 a2 a3 a0 a1 a2 a3 = some true := by
  simp only [laws_eqPattern_eq, Option.bind_some, beq_self_eq_true, Bool.not_true, cond_false]
theorem laws_eqPatternS_self {a0 : List (List UInt8 × Bool × List UInt8 × List UInt8)} (h : okd a0) : laws_eqPatternS a0 a0 = some true := by
  rw [laws_eqPatternS_eq]
  exact selfList (F := laws_eqPatternS_l0) laws_eqPatternS_l0_eq (fun x h => laws_eqPattern_self h) h
theorem laws_eqTerm_self {a0 : Int} {a1 : List UInt8} (h : okd (a0, a1)) : laws_eqTerm a0 a1 a0 a1 = some true := by
  simp only [laws_eqTerm_eq, Option.bind_some, beq_self_eq_true, Bool.not_true, cond_false]
theorem laws_eqTermS_self {a0 : List (Int × List UInt8)} (h : okd a0) : laws_eqTermS a0 a0 = some true := by
  rw [laws_eqTermS_eq]
  exact selfList (F := laws_eqTermS_l0) laws_eqTermS_l0_eq (fun x h => laws_eqTerm_self h) h
theorem laws_eqSum_self {a0 : Int} {a1 : List (Int × List UInt8)} (h : okd (a0, a1)) : laws_eqSum a0 a1 a0 a1 = some true := by
  simp only [laws_eqSum_eq, laws_eqTermS_self h.2, Option.bind_some, beq_self_eq_true, Bool.not_true, cond_false]
theorem laws_eqSumS_self {a0 : List (Int × List (Int × List UInt8))} (h : okd a0) : laws_eqSumS a0 a0 = some true := by
  rw [laws_eqSumS_eq]
  exact selfList (F := laws_eqSumS_l0) laws_eqSumS_l0_eq (fun x h => laws_eqSum_self h) h
theorem laws_eqArg_self {a0 : Bool} {a1 : List (Int × List (Int × List UInt8))} {a2 : List UInt8} (h : okd (a0, a1, a2)) : laws_eqArg a0 a1 a2 a0 a1 a2 = some true := by
  simp only [laws_eqArg_eq, laws_eqSumS_self h.2.1, Option.bind_some, beq_self_eq_true, Bool.not_true, cond_false]
theorem laws_eqArgS_self {a0 : List (Bool × List (Int × List (Int × List UInt8)) × List UInt8)} (h : okd a0) : laws_eqArgS a0 a0 = some true := by
  rw [laws_eqArgS_eq]
  exact selfList (F := laws_eqArgS_l0) laws_eqArgS_l0_eq (fun x h => laws_eqArg_self h) h
theorem laws_eqCall_self {a0 : List UInt8} {a1 : List UInt8} {a2 : List (Bool × List (Int × List (Int × List UInt8)) × List UInt8)} (h : okd (a0, a1, a2)) : laws_eqCall a0 a1 a2 a0 a1 a2 = some true := by
  simp only [laws_eqCall_eq, laws_eqArgS_self h.2.2, Option.bind_some, beq_self_eq_true, Bool.not_true, cond_false]
theorem laws_eqCallS_self {a0 : List (List UInt8 × List UInt8 × List (Bool × List (Int × List (Int × List UInt8)) × List UInt8))} (h : okd a0) : laws_eqCallS a0 a0 = some true := by
  rw [laws_eqCallS_eq]
  exact selfList (F := laws_eqCallS_l0) laws_eqCallS_l0_eq (fun x h => laws_eqCall_self h) h
theorem laws_eqRule_self {a0 : List UInt8} {a1 : List (List UInt8 × Bool × List UInt8 × List UInt8)} {a2 : List (Int × List (Int × List UInt8))} {a3 : List (List UInt8 × List UInt8 × List (Bool × List (Int × List (Int × List UInt8)) × List UInt8))} {a4 : Bool} {a5 : List (Int × List (Int × List UInt8))} {a6 : List UInt8} (h : okd (a0, a1, a2, a3, a4, a5, a6)) : laws_eqRule a0 a1 a2 a3 a4 a5 a6 a0 a1 a2 a3 a4 a5 a6 = some true := by
  simp only [laws_eqRule_eq, laws_eqPatternS_self h.2.1, laws_eqSumS_self h.2.2.1, laws_eqCallS_self h.2.2.2.1, laws_eqArg_self ⟨h.2.2.2.2.1, h.2.2.2.2.2.1, h.2.2.2.2.2.2⟩, Option.bind_some, beq_self_eq_true, Bool.not_true, cond_false]
theorem laws_eqRuleS_self {a0 : List (List UInt8 × List (List UInt8 × Bool × List UInt8 × List UInt8) × List (Int × List (Int × List UInt8)) × List (List UInt8 × List UInt8 × List (Bool × List (Int × List (Int × List UInt8)) × List UInt8)) × Bool × List (Int × List (Int × List UInt8)) × List UInt8)} (h : okd a0) : laws_eqRuleS a0 a0 = some true := by
  rw [laws_eqRuleS_eq]
  exact selfList (F := laws_eqRuleS_l0) laws_eqRuleS_l0_eq (fun x h => laws_eqRule_self h) h
theorem laws_eqProgram_self {a0 : List (List UInt8 × List (List UInt8) × Bool × List (Int × List Int))} {a1 : List (List UInt8 × List (List UInt8 × Bool × List UInt8 × List UInt8) × List (Int × List (Int × List UInt8)) × List (List UInt8 × List UInt8 × List (Bool × List (Int × List (Int × List UInt8)) × List UInt8)) × Bool × List (Int × List (Int × List UInt8)) × List UInt8)} (h : okd (a0, a1)) : laws_eqProgram a0 a1 a0 a1 = some true := by
  simp only [laws_eqProgram_eq, laws_eqFunctionS_self h.1, laws_eqRuleS_self h.2, Option.bind_some, beq_self_eq_true, Bool.not_true, cond_false]
theorem laws_eqSession_self {a0 : List UInt8} {a1 : List (List UInt8 × List (List UInt8) × Bool × List (Int × List Int))} {a2 : List (List UInt8 × List (List UInt8 × Bool × List UInt8 × List UInt8) × List (Int × List (Int × List UInt8)) × List (List UInt8 × List UInt8 × List (Bool × List (Int × List (Int × List UInt8)) × List UInt8)) × Bool × List (Int × List (Int × List UInt8)) × List UInt8)} {a3 : Int} {a4 : Int} {a5 : List (Int × List Int)} {a6 : List (List (Int × List Int))} {a7 : List Int} {a8 : List (List UInt8 × List UInt8 × List (List Int))} {a9 : List (Int × List Int)} {a10 : List UInt8} {a11 : List (Bool × Int × List Int)} (h : okd (a0, a1, a2, a3, a4, a5, a6, a7, a8, a9, a10, a11)) : laws_eqSession a0 a1 a2 a3 a4 a5 a6 a7 a8 a9 a10 a11 a0 a1 a2 a3 a4 a5 a6 a7 a8 a9 a10 a11 = some true := by
  simp only [laws_eqSession_eq, laws_eqProgram_self ⟨h.2.1, h.2.2.1⟩, laws_eqCertificate_self ⟨h.2.2.2.1, h.2.2.2.2.1, h.2.2.2.2.2.1, h.2.2.2.2.2.2.1, h.2.2.2.2.2.2.2.1, h.2.2.2.2.2.2.2.2.1, h.2.2.2.2.2.2.2.2.2.1, h.2.2.2.2.2.2.2.2.2.2.1, h.2.2.2.2.2.2.2.2.2.2.2⟩, Option.bind_some, beq_self_eq_true, Bool.not_true, cond_false]
end Go.Proofs.YtpoekafccggehacGreat.X
namespace Go.Proofs.YtpoekafccggehacGreat.X
open Go Go.Proofs.YtpoekafccggehacGreat.TM
open Go.Proofs.YtpoekafccggehacGreat.TM.Dat (size okd inr)
theorem beqD {α : Type} [BEq α] [LawfulBEq α] [DecidableEq α] (x y : α) : (x == y) = decide (x = y) := by by_cases h : x = y <;> simp [h]
theorem and_cond (b c : Bool) : cond b (some c) (some false) = some (b && c) := by cases b <;> rfl
theorem and_cond' (b c : Bool) : cond (!b) (some false) (some c) = some (b && c) := by cases b <;> rfl
theorem not_cond {α : Type} (b : Bool) (x y : α) : cond (!b) x y = cond b y x := by cases b <;> rfl
theorem spec_l1Ints_ok {a b : List Int} (h : a.length ≤ 9223372036854775807) : spec_l1Ints a b = some (decide (a = b)) := by
  rw [spec_l1Ints_eq, ← all2_eq]
  exact allChk (F := fun i => spec_l1Ints_l0 a b i) (e := fun x y => some (x == y)) (spec_l1Ints_l0_eq a b) (fun x _ y _ => by rw [beqD]) h
theorem slices_Equal_ok {a b : List Int} (h : a.length ≤ 9223372036854775807) : slices_Equal a b = some (decide (a = b)) := by
  rw [slices_Equal_eq, ← all2_eq]
  exact allChk (F := fun i => slices_Equal_l0 a b a.length i) (e := fun x y => some (x == y)) (slices_Equal_l0_eq a b _) (fun x _ y _ => by rw [beqD]) h
def graphEq (a0 a1 : List UInt8) (a2 : List (List Int)) (a3 a4 : List UInt8) (a5 : List (List Int)) : Bool := (a0 == a3) && ((a1 == a4) && decide (a2 = a5))
theorem spec_EqualGraph_ok {a0 a1 : List UInt8} {a2 : List (List Int)} {a3 a4 : List UInt8} {a5 : List (List Int)} (h : okd a2) : spec_EqualGraph a0 a1 a2 a3 a4 a5 = some (graphEq a0 a1 a2 a3 a4 a5) := by
  rw [spec_EqualGraph_eq, allChk (F := fun i => spec_EqualGraph_l0 i a0 a1 a2 a3 a4 a5) (fun i => spec_EqualGraph_l0_eq i a0 a1 a2 a3 a4 a5) (fun x hx y _ => spec_l1Ints_ok (h.2 x hx).1) h.1, all2_eq]
  unfold graphEq
  simp only [Bool.not_not, and_cond]
theorem impl_EqualGraph_ok {a0 a1 : List UInt8} {a2 : List (List Int)} {a3 a4 : List UInt8} {a5 : List (List Int)} (h : okd a2) : impl_EqualGraph a0 a1 a2 a3 a4 a5 = some (graphEq a0 a1 a2 a3 a4 a5) := by
  rw [impl_EqualGraph_eq, slices_EqualFunc_2_eq, allChk (F := fun i => slices_EqualFunc_2_l0 a5 a2 a2.length i) (fun i => slices_EqualFunc_2_l0_eq a5 a2 _ i) (fun x hx y _ => by rw [impl_EqualGraph_1_eq, slices_Equal_ok (h.2 x hx).1, Option.bind_some]) h.1, all2_eq]
  unfold graphEq
  simp only [Option.bind_some, and_cond]
end Go.Proofs.YtpoekafccggehacGreat.X
namespace Go.Proofs.YtpoekafccggehacGreat.X
open Go Go.Proofs.YtpoekafccggehacGreat.TM
open Go.Proofs.YtpoekafccggehacGreat.TM.Dat (size okd inr)
theorem spec_EqualLin_ok {a0 : Int} {a1 : List Int} {a2 : Int} {a3 : List Int} (h : a1.length ≤ 9223372036854775807) : spec_EqualLin a0 a1 a2 a3 = some (decide ((a0, a1) = (a2, a3))) := by
  rw [spec_EqualLin_eq, spec_l1Ints_ok h, Option.bind_some, and_cond, beqD, ← Bool.decide_and]
  simp only [Prod.mk.injEq]
theorem impl_EqualLin_ok {a0 : Int} {a1 : List Int} {a2 : Int} {a3 : List Int} (h : a1.length ≤ 9223372036854775807) : impl_EqualLin a0 a1 a2 a3 = some (decide ((a0, a1) = (a2, a3))) := by
  rw [impl_EqualLin_eq, slices_Equal_ok h, Option.bind_some, and_cond, beqD, ← Bool.decide_and]
  simp only [Prod.mk.injEq]
theorem spec_EqualFarkas_ok {a0 : Int} {a1 : List Int} {a2 : Int} {a3 : List Int} (h : a1.length ≤ 9223372036854775807) : spec_EqualFarkas a0 a1 a2 a3 = some (decide ((a0, a1) = (a2, a3))) := by
  rw [spec_EqualFarkas_eq, spec_l1Ints_ok h, Option.bind_some, and_cond, beqD, ← Bool.decide_and]
  simp only [Prod.mk.injEq]
theorem impl_EqualFarkas_ok {a0 : Int} {a1 : List Int} {a2 : Int} {a3 : List Int} (h : a1.length ≤ 9223372036854775807) : impl_EqualFarkas a0 a1 a2 a3 = some (decide ((a0, a1) = (a2, a3))) := by
  rw [impl_EqualFarkas_eq, slices_Equal_ok h, Option.bind_some, and_cond, beqD, ← Bool.decide_and]
  simp only [Prod.mk.injEq]
theorem impl_equalLins_ok {a b : List (Int × List Int)} (h : okd a) : impl_equalLins a b = some (decide (a = b)) := by
  rw [impl_equalLins_eq, slices_EqualFunc_3_eq, allChk (F := fun i => slices_EqualFunc_3_l0 b a a.length i) (slices_EqualFunc_3_l0_eq b a _) (fun x hx y _ => impl_EqualLin_ok (h.2 x hx).2.1) h.1, Option.bind_some, all2_eq]
theorem spec_l11Lins_ok {a b : List (Int × List Int)} (h : okd a) : spec_l11Lins a b = some (decide (a = b)) := by
  rw [spec_l11Lins_eq, spec_EqualSystem_eq, allChk (F := fun i => spec_EqualSystem_l0 i 0 a 0 b) (fun i => spec_EqualSystem_l0_eq i 0 a 0 b) (fun x hx y _ => spec_EqualLin_ok (h.2 x hx).2.1) h.1]
  simp only [beq_self_eq_true, Bool.not_true, Bool.not_false, cond_true, Option.bind_some, all2_eq]
theorem spec_l14Lists_ok {a b : List (List (Int × List Int))} (h : okd a) : spec_l14Lists a b = some (decide (a = b)) := by
  rw [spec_l14Lists_eq, allChk (F := spec_l14Lists_l0 a b) (spec_l14Lists_l0_eq a b) (fun x hx y _ => spec_l11Lins_ok (h.2 x hx)) h.1, all2_eq]
theorem lists_ok {a b : List (List (Int × List Int))} (h : okd a) : slices_EqualFunc_4 a b () = some (decide (a = b)) := by
  rw [slices_EqualFunc_4_eq, allChk (F := slices_EqualFunc_4_l0 b a a.length) (slices_EqualFunc_4_l0_eq b a _) (fun x hx y _ => impl_equalLins_ok (h.2 x hx)) h.1, all2_eq]
theorem spec_l24Graphs_ok {a b : List (List UInt8 × List UInt8 × List (List Int))} (h : okd a) : spec_l24Graphs a b = some (all2 (fun x y => graphEq x.1 x.2.1 x.2.2 y.1 y.2.1 y.2.2) a b) := by
  rw [spec_l24Graphs_eq, allChk (F := spec_l24Graphs_l0 a b) (spec_l24Graphs_l0_eq a b) (fun x hx y _ => spec_EqualGraph_ok (h.2 x hx).2.2) h.1]
theorem graphs_ok {a b : List (List UInt8 × List UInt8 × List (List Int))} (h : okd a) : slices_EqualFunc_5 a b () = some (all2 (fun x y => graphEq x.1 x.2.1 x.2.2 y.1 y.2.1 y.2.2) a b) := by
  rw [slices_EqualFunc_5_eq, allChk (F := slices_EqualFunc_5_l0 b a a.length) (slices_EqualFunc_5_l0_eq b a _) (fun x hx y _ => impl_EqualGraph_ok (h.2 x hx).2.2) h.1]
theorem spec_l24Farkas_ok {a b : List (Int × List Int)} (h : okd a) : spec_l24Farkas a b = some (decide (a = b)) := by
  rw [spec_l24Farkas_eq, allChk (F := spec_l24Farkas_l0 a b) (spec_l24Farkas_l0_eq a b) (fun x hx y _ => spec_EqualFarkas_ok (h.2 x hx).2.1) h.1, all2_eq]
theorem farkas_ok {a b : List (Int × List Int)} (h : okd a) : slices_EqualFunc_6 a b () = some (decide (a = b)) := by
  rw [slices_EqualFunc_6_eq, allChk (F := slices_EqualFunc_6_l0 b a a.length) (slices_EqualFunc_6_l0_eq b a _) (fun x hx y _ => impl_EqualFarkas_ok (h.2 x hx).2.1) h.1, all2_eq]
theorem spec_l12Same_ok {a b : List (Bool × Int × List Int)} (h : okd a) : spec_l12Same a b = some (decide (a = b)) := by
  rw [spec_l12Same_eq, ← all2_eq]
  have := loopD a (fun k s => a.length = b.length → spec_l12Same_l0 a b (k : Int) = some (all2 (fun x y => decide (x = y)) s (b.drop k)))
    (fun hl => by rw [spec_l12Same_l0_eq]; simp [hl, all2]) (fun k e suf hd he hk ih hl => by
      have hb : k < b.length := by omega
      have hm : e ∈ a := List.mem_of_getElem? he
      have h1 := h.1
      rw [spec_l12Same_l0_eq, at_of he, at_of (List.getElem?_eq_getElem hb), at_of he, at_of (List.getElem?_eq_getElem hb), at_of he, at_of (List.getElem?_eq_getElem hb), List.drop_eq_getElem_cons hb, spec_l1Ints_ok (h.2 e hm).2.2.1, w64_nat (by omega), ih hl]
      simp only [Option.bind_some, Bool.not_not, Int.ofNat_lt, hk, decide_true, cond_true, not_cond, and_cond, all2, beqD]
      congr 1
      simp only [← Bool.and_assoc, ← Bool.decide_and, and_assoc]
      congr 1
      exact decide_eq_decide.2 (by rw [Prod.ext_iff, Prod.ext_iff]))
  by_cases hl : a.length = b.length
  · have h2 : ((a.length : Int) == (b.length : Int)) = true := by simp; omega
    simpa [h2] using this hl
  · have h2 : ((a.length : Int) == (b.length : Int)) = false := by simp; omega
    simp [h2, all2_len hl]
theorem values_ok {a b : List (Bool × Int × List Int)} (h : okd a) : slices_EqualFunc_7 a b () = some (decide (a = b)) := by
  rw [slices_EqualFunc_7_eq, allChk (F := slices_EqualFunc_7_l0 b a a.length) (p := fun x y => decide (x = y)) (slices_EqualFunc_7_l0_eq b a _) (fun x hx y _ => by
    rw [impl_equalValue_eq, slices_Equal_ok (h.2 x hx).2.2.1, Option.bind_some, and_cond, and_cond, beqD, beqD, ← Bool.decide_and, ← Bool.decide_and]
    exact congrArg some (decide_eq_decide.2 (by rw [Prod.ext_iff, Prod.ext_iff]))) h.1, all2_eq]
theorem EqualCertificate_core {a0 a1 : Int} {a2 : List (Int × List Int)} {a3 : List (List (Int × List Int))} {a4 : List Int} {a5 : List (List UInt8 × List UInt8 × List (List Int))} {a6 : List (Int × List Int)} {a7 : List UInt8} {a8 : List (Bool × Int × List Int)} {a9 a10 : Int} {a11 : List (Int × List Int)} {a12 : List (List (Int × List Int))} {a13 : List Int} {a14 : List (List UInt8 × List UInt8 × List (List Int))} {a15 : List (Int × List Int)} {a16 : List UInt8} {a17 : List (Bool × Int × List Int)}
    (h : okd (a0, a1, a2, a3, a4, a5, a6, a7, a8, a9, a10, a11, a12, a13, a14, a15, a16, a17)) (_ : inr (a0, a1, a2, a3, a4, a5, a6, a7, a8, a9, a10, a11, a12, a13, a14, a15, a16, a17)) (_ : size (a0, a1, a2, a3, a4, a5, a6, a7, a8) ≤ 1048576) (_ : size (a9, a10, a11, a12, a13, a14, a15, a16, a17) ≤ 1048576) :
    ∃ r, spec_EqualCertificate a0 a1 a2 a3 a4 a5 a6 a7 a8 a9 a10 a11 a12 a13 a14 a15 a16 a17 = some r ∧ impl_EqualCertificate a0 a1 a2 a3 a4 a5 a6 a7 a8 a9 a10 a11 a12 a13 a14 a15 a16 a17 = some r := by
  obtain ⟨_, _, h2, h3, h4, h5, h6, h7, h8, _⟩ := h
  rw [spec_EqualCertificate_eq, impl_EqualCertificate_eq, spec_l12Same_ok h8, spec_l11Lins_ok h2, spec_l14Lists_ok h3, spec_l1Ints_ok h4.1, spec_l24Graphs_ok h5, spec_l24Farkas_ok h6,
    impl_equalLins_ok h2, lists_ok h3, slices_Equal_ok h4.1, graphs_ok h5, farkas_ok h6, values_ok h8]
  simp only [Option.bind_some, Bool.not_not, and_cond, and_cond', not_cond]
  refine ⟨_, rfl, congrArg some ?_⟩
  generalize (a0 == a9) = p0, (a1 == a10) = p1, decide (a2 = a11) = p2, decide (a3 = a12) = p3, decide (a4 = a13) = p4, all2 _ a5 a14 = p5, decide (a6 = a15) = p6, (a7 == a16) = p7, decide (a8 = a17) = p8
  cases p0 <;> cases p1 <;> cases p2 <;> cases p3 <;> cases p4 <;> cases p5 <;> cases p6 <;> cases p7 <;> cases p8 <;> rfl
end Go.Proofs.YtpoekafccggehacGreat.X
namespace Go.Proofs.YtpoekafccggehacGreat.X
open Go Go.Proofs.YtpoekafccggehacGreat.TM
open Go.Proofs.YtpoekafccggehacGreat.TM.Dat (size okd inr)
abbrev STerm := Int × List UInt8
abbrev SSum := Int × List STerm
abbrev SArg := Bool × List SSum × List UInt8
abbrev SPat := List UInt8 × Bool × List UInt8 × List UInt8
abbrev SCall := List UInt8 × List UInt8 × List SArg
abbrev SRule := List UInt8 × List SPat × List SSum × List SCall × Bool × List SSum × List UInt8
abbrev SFun := List UInt8 × List (List UInt8) × Bool × List (Int × List Int)
instance iTerm : DecidableEq STerm := inferInstance
instance iSum : DecidableEq SSum := inferInstance
instance iSums : DecidableEq (List SSum) := inferInstance
instance iArgT : DecidableEq (List SSum × List UInt8) := inferInstance
instance iArg : DecidableEq SArg := inferInstance
instance iArgs : DecidableEq (List SArg) := inferInstance
instance iCallT : DecidableEq (List UInt8 × List SArg) := inferInstance
instance iCall : DecidableEq SCall := inferInstance
instance iCalls : DecidableEq (List SCall) := inferInstance
instance iPat : DecidableEq SPat := inferInstance
instance iPats : DecidableEq (List SPat) := inferInstance
instance iRule3 : DecidableEq (List SCall × Bool × List SSum × List UInt8) := inferInstance
instance iRule2 : DecidableEq (List SSum × List SCall × Bool × List SSum × List UInt8) := inferInstance
instance iRule1 : DecidableEq (List SPat × List SSum × List SCall × Bool × List SSum × List UInt8) := inferInstance
instance iRule : DecidableEq SRule := inferInstance
instance iRules : DecidableEq (List SRule) := inferInstance
instance iFun1 : DecidableEq (Bool × List (Int × List Int)) := inferInstance
instance iFun2 : DecidableEq (List (List UInt8) × Bool × List (Int × List Int)) := inferInstance
instance iFun : DecidableEq SFun := inferInstance
instance iFuns : DecidableEq (List SFun) := inferInstance
instance dTerm : Dat STerm := inferInstance
instance dSum : Dat SSum := inferInstance
instance dArg : Dat SArg := inferInstance
instance dPat : Dat SPat := inferInstance
instance dCall : Dat SCall := inferInstance
instance dRule : Dat SRule := inferInstance
instance dFun : Dat SFun := inferInstance
theorem eqPair {α β : Type} [DecidableEq α] [DecidableEq β] (a c : α) (b d : β) : (decide (a = c) && decide (b = d)) = decide ((a, b) = (c, d)) := by
  rw [← Bool.decide_and]
  exact decide_eq_decide.2 (by rw [Prod.mk.injEq])
theorem eqPair' {α β : Type} [DecidableEq α] [DecidableEq β] (x y : α × β) : (decide (x.1 = y.1) && decide (x.2 = y.2)) = decide (x = y) := eqPair x.1 y.1 x.2 y.2
theorem allLoopK {α β : Type} {F : Int → Option Bool} {e : α → β → Option Bool} {p : α → β → Bool} {a : List α} {b : List β} {K : Option Bool}
    (hF : ∀ i, F i = cond (decide (i < (a.length : Int))) (at_ a i fun _ x => at_ b i fun _ y => (e x y).bind fun r => cond (!r) (some false) (F (w64 (i + 1)))) K)
    (he : ∀ x ∈ a, ∀ y ∈ b, e x y = some (p x y)) (hl : a.length = b.length) (hs : a.length ≤ 9223372036854775807) : F 0 = cond (all2 p a b) K (some false) := by
  have := loopD a (fun k s => F (k : Int) = cond (all2 p s (b.drop k)) K (some false)) (by rw [hF]; simp [hl, all2]) (fun k x suf hd hx hk ih => by
    have hb : k < b.length := by omega
    rw [hF, at_of hx, at_of (List.getElem?_eq_getElem hb), he _ (List.mem_of_getElem? hx) _ (List.getElem_mem hb), w64_nat (by omega), ih, List.drop_eq_getElem_cons hb]
    cases h1 : p x b[k] <;> simp [hk, h1, all2])
  simpa using this
theorem chkK {α β : Type} {a : List α} {b : List β} {p : α → β → Bool} {X K : Option Bool} (hl : a.length = b.length → X = cond (all2 p a b) K (some false)) : cond (!((a.length : Int) == (b.length : Int))) (some false) X = cond (all2 p a b) K (some false) := by
  by_cases h : a.length = b.length
  · simp only [h, beq_self_eq_true, Bool.not_true, cond_false]
    exact hl h
  · have h2 : ((a.length : Int) == (b.length : Int)) = false := by simp; omega
    simp [h2, all2_len h]
theorem chkK' {α β : Type} {a : List α} {b : List β} {p : α → β → Bool} {X K : Option Bool} (hl : a.length = b.length → X = cond (all2 p a b) K (some false)) : cond (!(!((a.length : Int) == (b.length : Int)))) X (some false) = cond (all2 p a b) K (some false) := by
  rw [not_cond]
  exact chkK hl
theorem cond_tf (b : Bool) : cond b (some true) (some false) = some b := by cases b <;> rfl
theorem slices_Equal_1_ok {a b : List (List UInt8)} (h : a.length ≤ 9223372036854775807) : slices_Equal_1 a b = some (decide (a = b)) := by
  rw [slices_Equal_1_eq, ← all2_eq]
  exact allChk (F := fun i => slices_Equal_1_l0 a b a.length i) (e := fun x y => some (x == y)) (slices_Equal_1_l0_eq a b _) (fun x _ y _ => by rw [beqD]) h
theorem slices_Equal_2_ok {a b : List SPat} (h : a.length ≤ 9223372036854775807) : slices_Equal_2 a b = some (decide (a = b)) := by
  rw [slices_Equal_2_eq, ← all2_eq]
  exact allChk (F := fun i => slices_Equal_2_l0 a b a.length i) (e := fun x y => some ((x.1 == y.1) && ((x.2.1 == y.2.1) && ((x.2.2.1 == y.2.2.1) && (x.2.2.2 == y.2.2.2))))) (slices_Equal_2_l0_eq a b _) (fun x _ y _ => by simp only [beqD, eqPair']) h
theorem slices_Equal_3_ok {a b : List STerm} (h : a.length ≤ 9223372036854775807) : slices_Equal_3 a b = some (decide (a = b)) := by
  rw [slices_Equal_3_eq, ← all2_eq]
  exact allChk (F := fun i => slices_Equal_3_l0 a b a.length i) (e := fun x y => some ((x.1 == y.1) && (x.2 == y.2))) (slices_Equal_3_l0_eq a b _) (fun x _ y _ => by simp only [beqD, eqPair']) h
theorem impl_equalSum_ok {a b : SSum} (h : okd a) : impl_equalSum a.1 a.2 b.1 b.2 = some (decide (a = b)) := by
  rw [impl_equalSum_eq, slices_Equal_3_ok h.2.1, Option.bind_some, and_cond, beqD, eqPair']
theorem sums_ok {a b : List SSum} (h : okd a) : slices_EqualFunc_10 a b () = some (decide (a = b)) := by
  rw [slices_EqualFunc_10_eq, allChk (F := slices_EqualFunc_10_l0 b a a.length) (slices_EqualFunc_10_l0_eq b a _) (fun x hx y _ => impl_equalSum_ok (h.2 x hx)) h.1, all2_eq]
theorem impl_EqualArg_ok {a b : SArg} (h : okd a) : impl_EqualArg a.1 a.2.1 a.2.2 b.1 b.2.1 b.2.2 = some (decide (a = b)) := by
  rw [impl_EqualArg_eq, sums_ok h.2.1, Option.bind_some, and_cond, and_cond, beqD, beqD, Bool.and_comm (decide (a.2.2 = b.2.2)), eqPair', eqPair']
theorem args_ok {a b : List SArg} (h : okd a) : slices_EqualFunc_12 a b () = some (decide (a = b)) := by
  rw [slices_EqualFunc_12_eq, allChk (F := slices_EqualFunc_12_l0 b a a.length) (slices_EqualFunc_12_l0_eq b a _) (fun x hx y _ => impl_EqualArg_ok (h.2 x hx)) h.1, all2_eq]
theorem impl_equalCall_ok {a b : SCall} (h : okd a) : impl_equalCall a.1 a.2.1 a.2.2 b.1 b.2.1 b.2.2 = some (decide (a = b)) := by
  rw [impl_equalCall_eq, args_ok h.2.2, Option.bind_some, and_cond, and_cond, beqD, beqD, eqPair', eqPair']
theorem calls_ok {a b : List SCall} (h : okd a) : slices_EqualFunc_11 a b () = some (decide (a = b)) := by
  rw [slices_EqualFunc_11_eq, allChk (F := slices_EqualFunc_11_l0 b a a.length) (slices_EqualFunc_11_l0_eq b a _) (fun x hx y _ => impl_equalCall_ok (h.2 x hx)) h.1, all2_eq]
theorem impl_equalRule_ok {a b : SRule} (h : okd a) : impl_equalRule a.1 a.2.1 a.2.2.1 a.2.2.2.1 a.2.2.2.2.1 a.2.2.2.2.2.1 a.2.2.2.2.2.2 b.1 b.2.1 b.2.2.1 b.2.2.2.1 b.2.2.2.2.1 b.2.2.2.2.2.1 b.2.2.2.2.2.2 = some (decide (a = b)) := by
  have h1 := impl_EqualArg_ok (a := a.2.2.2.2) (b := b.2.2.2.2) h.2.2.2.2
  rw [impl_equalRule_eq, slices_Equal_2_ok h.2.1.1, Option.bind_some, sums_ok h.2.2.1, Option.bind_some, calls_ok h.2.2.2.1, Option.bind_some, h1, Option.bind_some, and_cond, and_cond, and_cond, and_cond, beqD]
  simp only [eqPair']
theorem rules_ok {a b : List SRule} (h : okd a) : slices_EqualFunc_9 a b () = some (decide (a = b)) := by
  rw [slices_EqualFunc_9_eq, allChk (F := slices_EqualFunc_9_l0 b a a.length) (slices_EqualFunc_9_l0_eq b a _) (fun x hx y _ => impl_equalRule_ok (h.2 x hx)) h.1, all2_eq]
theorem impl_equalFunction_ok {a b : SFun} (h : okd a) : impl_equalFunction a.1 a.2.1 a.2.2.1 a.2.2.2 b.1 b.2.1 b.2.2.1 b.2.2.2 = some (decide (a = b)) := by
  rw [impl_equalFunction_eq, slices_Equal_1_ok h.2.1.1, Option.bind_some, impl_equalLins_ok h.2.2.2, Option.bind_some, and_cond, and_cond, and_cond, beqD, beqD]
  simp only [eqPair']
theorem functions_ok {a b : List SFun} (h : okd a) : slices_EqualFunc_8 a b () = some (decide (a = b)) := by
  rw [slices_EqualFunc_8_eq, allChk (F := slices_EqualFunc_8_l0 b a a.length) (slices_EqualFunc_8_l0_eq b a _) (fun x hx y _ => impl_equalFunction_ok (h.2 x hx)) h.1, all2_eq]
theorem impl_EqualProgram_ok {a0 : List SFun} {a1 : List SRule} {a2 : List SFun} {a3 : List SRule} (h : okd (a0, a1)) : impl_EqualProgram a0 a1 a2 a3 = some (decide ((a0, a1) = (a2, a3))) := by
  rw [impl_EqualProgram_eq, functions_ok h.1, Option.bind_some, rules_ok h.2, Option.bind_some, and_cond, eqPair]
theorem spec_l9Same_ok {a b : SSum} (h : okd a) : spec_l9Same a.1 a.2 b.1 b.2 = some (decide (a = b)) := by
  rw [spec_l9Same_eq, allChk (F := fun i => spec_l9Same_l0 i a.1 a.2 b.1 b.2) (e := fun x y => some ((x.1 == y.1) && (x.2 == y.2))) (p := fun x y => decide (x = y)) (fun i => spec_l9Same_l0_eq i _ _ _ _) (fun x _ y _ => by simp only [beqD, eqPair']) h.2.1, all2_eq, not_cond, not_cond, and_cond, beqD, eqPair']
theorem spec_EqualArg_ok {a b : SArg} (h : okd a) : spec_EqualArg a.1 a.2.1 a.2.2 b.1 b.2.1 b.2.2 = some (decide (a = b)) := by
  rw [spec_EqualArg_eq, allChk (F := fun i => spec_EqualArg_l0 i a.1 a.2.1 a.2.2 b.1 b.2.1 b.2.2) (fun i => spec_EqualArg_l0_eq i _ _ _ _ _ _) (fun x hx y _ => spec_l9Same_ok (h.2.1.2 x hx)) h.2.1.1, all2_eq, not_cond, not_cond, not_cond, not_cond, and_cond, and_cond, beqD, beqD, Bool.and_comm (decide (a.2.2 = b.2.2)), eqPair', eqPair']
theorem spec_l11Texts_ok {a b : List (List UInt8)} (h : a.length ≤ 9223372036854775807) : spec_l11Texts a b = some (decide (a = b)) := by
  rw [spec_l11Texts_eq, ← all2_eq]
  exact allChk (F := fun i => spec_l11Texts_l0 a b i) (e := fun x y => some (x == y)) (spec_l11Texts_l0_eq a b) (fun x _ y _ => by rw [beqD]) h
theorem rule_l3 {c : Nat} {b2 b3 : List UInt8} {b4 : Bool} {b5 : List SArg} {b6 : Int} {b7 : List SArg} {b8 : Int} {b9 : Bool} {a1 : List UInt8} {a2 : List SPat} {a3 : List SSum} {a4 : List SCall} {a5 : Bool} {a6 : List SSum} {a7 a8 : List UInt8} {a9 : List SPat} {a10 : List SSum} {a11 : List SCall} {a12 : Bool} {a13 : List SSum} {a14 : List UInt8} {d0 d1 d2 d3 : List UInt8} {x y : List SArg} (h : okd x) (hc : c < 9223372036854775807) :
    cond (!((x.length : Int) == (y.length : Int))) (some false) (spec_l11SameRule_l3 c 0 b2 b3 b4 b5 b6 b7 b8 b9 a1 a2 a3 a4 a5 a6 a7 a8 a9 a10 a11 a12 a13 a14 d0 d1 x d2 d3 y) =
      cond (decide (x = y)) (spec_l11SameRule_l2 ((c + 1 : Nat) : Int) a1 a2 a3 a4 a5 a6 a7 a8 a9 a10 a11 a12 a13 a14) (some false) := by
  rw [← all2_eq]
  refine chkK fun hl => ?_
  rw [← w64_nat hc]
  exact allLoopK (F := fun i => spec_l11SameRule_l3 c i b2 b3 b4 b5 b6 b7 b8 b9 a1 a2 a3 a4 a5 a6 a7 a8 a9 a10 a11 a12 a13 a14 d0 d1 x d2 d3 y) (fun i => spec_l11SameRule_l3_eq c i _ _ _ _ _ _ _ _ _ _ _ _ _ _ _ _ _ _ _ _ _ _ _ _ _ _ _ _) (fun u hu v _ => spec_EqualArg_ok (h.2 u hu)) hl h.1
theorem rule_l2 {a1 : List UInt8} {a2 : List SPat} {a3 : List SSum} {a4 : List SCall} {a5 : Bool} {a6 : List SSum} {a7 a8 : List UInt8} {a9 : List SPat} {a10 : List SSum} {a11 : List SCall} {a12 : Bool} {a13 : List SSum} {a14 : List UInt8} (h : okd a4) (hl : a4.length = a11.length) :
    spec_l11SameRule_l2 0 a1 a2 a3 a4 a5 a6 a7 a8 a9 a10 a11 a12 a13 a14 = some (decide (a4 = a11)) := by
  rw [← all2_eq]
  have h1 := h.1
  have := loopD a4 (fun k s => spec_l11SameRule_l2 (k : Int) a1 a2 a3 a4 a5 a6 a7 a8 a9 a10 a11 a12 a13 a14 = some (all2 (fun x y => decide (x = y)) s (a11.drop k))) (by rw [spec_l11SameRule_l2_eq]; simp [hl, all2]) (fun k x suf hd hx hk ih => by
    have hb : k < a11.length := by omega
    rw [spec_l11SameRule_l2_eq, at_of hx, at_of (List.getElem?_eq_getElem hb), rule_l3 (h.2 x (List.mem_of_getElem? hx)).2.2 (by omega), ih, List.drop_eq_getElem_cons hb]
    simp only [Int.ofNat_lt, hk, decide_true, cond_true, not_cond, and_cond, all2, beqD, ← Bool.and_assoc]
    congr 2
    rw [Bool.and_assoc, eqPair', eqPair'])
  simpa using this
theorem spec_l11SameRule_ok {a b : SRule} (h : okd a) : spec_l11SameRule a.1 a.2.1 a.2.2.1 a.2.2.2.1 a.2.2.2.2.1 a.2.2.2.2.2.1 a.2.2.2.2.2.2 b.1 b.2.1 b.2.2.1 b.2.2.2.1 b.2.2.2.2.1 b.2.2.2.2.2.1 b.2.2.2.2.2.2 = some (decide (a = b)) := by
  obtain ⟨a0, a1, a2, a3, a4⟩ := a
  obtain ⟨b0, b1, b2, b3, b4⟩ := b
  have h1 := spec_EqualArg_ok (a := a4) (b := b4) h.2.2.2.2
  rw [spec_l11SameRule_eq]
  simp only at h1 ⊢
  rw [h1, Option.bind_some]
  simp only [not_cond]
  by_cases l1 : a1.length = b1.length
  · by_cases l2 : a2.length = b2.length
    · by_cases l3 : a3.length = b3.length
      · have e1 : ((a1.length : Int) == (b1.length : Int)) = true := by simp; omega
        have e2 : ((a2.length : Int) == (b2.length : Int)) = true := by simp; omega
        have e3 : ((a3.length : Int) == (b3.length : Int)) = true := by simp; omega
        rw [e1, e2, e3]
        simp only [cond_true]
        rw [allLoopK (F := fun i => spec_l11SameRule_l0 i a0 a1 a2 a3 a4.1 a4.2.1 a4.2.2 b0 b1 b2 b3 b4.1 b4.2.1 b4.2.2) (e := fun x y => some ((x.1 == y.1) && ((x.2.1 == y.2.1) && ((x.2.2.1 == y.2.2.1) && (x.2.2.2 == y.2.2.2))))) (p := fun x y => decide (x = y)) (fun i => spec_l11SameRule_l0_eq i _ _ _ _ _ _ _ _ _ _ _ _ _ _) (fun x _ y _ => by simp only [beqD, eqPair']) l1 h.2.1.1,
          allLoopK (F := fun i => spec_l11SameRule_l1 i a0 a1 a2 a3 a4.1 a4.2.1 a4.2.2 b0 b1 b2 b3 b4.1 b4.2.1 b4.2.2) (p := fun x y => decide (x = y)) (fun i => spec_l11SameRule_l1_eq i _ _ _ _ _ _ _ _ _ _ _ _ _ _) (fun x hx y _ => spec_l9Same_ok (h.2.2.1.2 x hx)) l2 h.2.2.1.1, rule_l2 h.2.2.2.1 l3, all2_eq, all2_eq]
        simp only [and_cond, beqD]
        congr 1
        have e : decide ((a0, a1, a2, a3, a4) = (b0, b1, b2, b3, b4)) = (decide (a0 = b0) && (decide (a1 = b1) && (decide (a2 = b2) && (decide (a3 = b3) && decide (a4 = b4))))) := by simp only [eqPair]
        rw [e]
        cases decide (a0 = b0) <;> cases decide (a1 = b1) <;> cases decide (a2 = b2) <;> cases decide (a3 = b3) <;> cases decide (a4 = b4) <;> rfl
      · have e3 : ((a3.length : Int) == (b3.length : Int)) = false := by simp; omega
        have e : decide ((a0, a1, a2, a3, a4) = (b0, b1, b2, b3, b4)) = false := by
          simp only [decide_eq_false_iff_not, Prod.mk.injEq]
          rintro ⟨_, _, _, h, _⟩
          exact l3 (by rw [h])
        rw [e3, e]
        cases (a0 == b0) <;> cases ((a1.length : Int) == (b1.length : Int)) <;> cases ((a2.length : Int) == (b2.length : Int)) <;> rfl
    · have e3 : ((a2.length : Int) == (b2.length : Int)) = false := by simp; omega
      have e : decide ((a0, a1, a2, a3, a4) = (b0, b1, b2, b3, b4)) = false := by
        simp only [decide_eq_false_iff_not, Prod.mk.injEq]
        rintro ⟨_, _, h, _, _⟩
        exact l2 (by rw [h])
      rw [e3, e]
      cases (a0 == b0) <;> cases ((a1.length : Int) == (b1.length : Int)) <;> rfl
  · have e3 : ((a1.length : Int) == (b1.length : Int)) = false := by simp; omega
    have e : decide ((a0, a1, a2, a3, a4) = (b0, b1, b2, b3, b4)) = false := by
      simp only [decide_eq_false_iff_not, Prod.mk.injEq]
      rintro ⟨_, h, _, _, _⟩
      exact l1 (by rw [h])
    rw [e3, e]
    cases (a0 == b0) <;> rfl
theorem spec_EqualProgram_ok {a0 : List SFun} {a1 : List SRule} {a2 : List SFun} {a3 : List SRule} (h : okd (a0, a1)) : spec_EqualProgram a0 a1 a2 a3 = some (decide ((a0, a1) = (a2, a3))) := by
  rw [spec_EqualProgram_eq]
  by_cases l1 : a1.length = a3.length
  · have e1 : ((a1.length : Int) == (a3.length : Int)) = true := by simp; omega
    rw [e1]
    simp only [Bool.not_true, cond_false]
    have h1 : a0.length ≤ 9223372036854775807 := h.1.1
    rw [chkK' (p := fun x y => decide (x = y)) (K := some (decide (a1 = a3))) fun hl => ?_, all2_eq, and_cond, eqPair]
    have := loopD a0 (fun k s => spec_EqualProgram_l0 (k : Int) a0 a1 a2 a3 = cond (all2 (fun x y => decide (x = y)) s (a2.drop k)) (some (decide (a1 = a3))) (some false)) (by
      rw [spec_EqualProgram_l0_eq, allLoopK (F := fun i => spec_EqualProgram_l1 i a0 a1 a2 a3) (p := fun x y => decide (x = y)) (fun i => spec_EqualProgram_l1_eq i _ _ _ _) (fun x hx y _ => spec_l11SameRule_ok (h.2.2 x hx)) l1 h.2.1, all2_eq, cond_tf]
      simp [hl, all2]) (fun k x suf hd hx hk ih => by
      have hb : k < a2.length := by omega
      have ox := h.1.2 x (List.mem_of_getElem? hx)
      rw [spec_EqualProgram_l0_eq, at_of hx, at_of (List.getElem?_eq_getElem hb), spec_l11Texts_ok ox.2.1.1, spec_l11Lins_ok ox.2.2.2, w64_nat (by omega), ih, List.drop_eq_getElem_cons hb]
      simp only [Int.ofNat_lt, hk, decide_true, cond_true, not_cond, Option.bind_some, and_cond, all2, beqD]
      rw [← eqPair', ← eqPair', ← eqPair']
      cases decide (x.1 = a2[k].1) <;> cases decide (x.2.2.1 = a2[k].2.2.1) <;> cases decide (x.2.1 = a2[k].2.1) <;> cases decide (x.2.2.2 = a2[k].2.2.2) <;> simp [and_cond])
    simpa using this
  · have e1 : ((a1.length : Int) == (a3.length : Int)) = false := by simp; omega
    have e : decide ((a0, a1) = (a2, a3)) = false := by
      simp only [decide_eq_false_iff_not, Prod.mk.injEq]
      rintro ⟨_, h⟩
      exact l1 (by rw [h])
    rw [e1, e]
    cases ((a0.length : Int) == (a2.length : Int)) <;> rfl
theorem EqualSession_core {a0 : List UInt8} {a1 : List SFun} {a2 : List SRule} {a3 a4 : Int} {a5 : List (Int × List Int)} {a6 : List (List (Int × List Int))} {a7 : List Int} {a8 : List (List UInt8 × List UInt8 × List (List Int))} {a9 : List (Int × List Int)} {a10 : List UInt8} {a11 : List (Bool × Int × List Int)} {a12 : List UInt8} {a13 : List SFun} {a14 : List SRule} {a15 a16 : Int} {a17 : List (Int × List Int)} {a18 : List (List (Int × List Int))} {a19 : List Int} {a20 : List (List UInt8 × List UInt8 × List (List Int))} {a21 : List (Int × List Int)} {a22 : List UInt8} {a23 : List (Bool × Int × List Int)}
    (h : okd (a0, a1, a2, a3, a4, a5, a6, a7, a8, a9, a10, a11, a12, a13, a14, a15, a16, a17, a18, a19, a20, a21, a22, a23)) (hr : inr (a0, a1, a2, a3, a4, a5, a6, a7, a8, a9, a10, a11, a12, a13, a14, a15, a16, a17, a18, a19, a20, a21, a22, a23))
    (s1 : size (a0, a1, a2, a3, a4, a5, a6, a7, a8, a9, a10, a11) ≤ 1048576) (s2 : size (a12, a13, a14, a15, a16, a17, a18, a19, a20, a21, a22, a23) ≤ 1048576) :
    ∃ r, spec_EqualSession a0 a1 a2 a3 a4 a5 a6 a7 a8 a9 a10 a11 a12 a13 a14 a15 a16 a17 a18 a19 a20 a21 a22 a23 = some r ∧ impl_EqualSession a0 a1 a2 a3 a4 a5 a6 a7 a8 a9 a10 a11 a12 a13 a14 a15 a16 a17 a18 a19 a20 a21 a22 a23 = some r := by
  obtain ⟨_, h1, h2, h3, h4, h5, h6, h7, h8, h9, h10, h11, h12, h13, h14, h15, h16, h17, h18, h19, h20, h21, h22, h23⟩ := h
  obtain ⟨_, r1, r2, r3, r4, r5, r6, r7, r8, r9, r10, r11, r12, r13, r14, r15, r16, r17, r18, r19, r20, r21, r22, r23⟩ := hr
  simp only [size_prod] at s1 s2
  obtain ⟨r, e1, e2⟩ := EqualCertificate_core ⟨h3, h4, h5, h6, h7, h8, h9, h10, h11, h15, h16, h17, h18, h19, h20, h21, h22, h23⟩ ⟨r3, r4, r5, r6, r7, r8, r9, r10, r11, r15, r16, r17, r18, r19, r20, r21, r22, r23⟩ (by simp only [size_prod]; omega) (by simp only [size_prod]; omega)
  rw [spec_EqualSession_eq, impl_EqualSession_eq, spec_EqualProgram_ok ⟨h1, h2⟩, impl_EqualProgram_ok ⟨h1, h2⟩, e1, e2]
  simp only [Option.bind_some, and_cond]
  exact ⟨_, rfl, rfl⟩
end Go.Proofs.YtpoekafccggehacGreat.X
namespace Go.Proofs.YtpoekafccggehacGreat.X
open Go Go.Proofs.YtpoekafccggehacGreat.TM
open Go.Proofs.YtpoekafccggehacGreat.TM.Dat (size okd inr)
theorem FnExactEqualSession_ok {a0 : List UInt8} {a1 : List (List UInt8 × List (List UInt8) × Bool × List (Int × List Int))} {a2 : List (List UInt8 × List (List UInt8 × Bool × List UInt8 × List UInt8) × List (Int × List (Int × List UInt8)) × List (List UInt8 × List UInt8 × List (Bool × List (Int × List (Int × List UInt8)) × List UInt8)) × Bool × List (Int × List (Int × List UInt8)) × List UInt8)} {a3 : Int} {a4 : Int} {a5 : List (Int × List Int)} {a6 : List (List (Int × List Int))} {a7 : List Int} {a8 : List (List UInt8 × List UInt8 × List (List Int))} {a9 : List (Int × List Int)} {a10 : List UInt8} {a11 : List (Bool × Int × List Int)} {a12 : List UInt8} {a13 : List (List UInt8 × List (List UInt8) × Bool × List (Int × List Int))} {a14 : List (List UInt8 × List (List UInt8 × Bool × List UInt8 × List UInt8) × List (Int × List (Int × List UInt8)) × List (List UInt8 × List UInt8 × List (Bool × List (Int × List (Int × List UInt8)) × List UInt8)) × Bool × List (Int × List (Int × List UInt8)) × List UInt8)} {a15 : Int} {a16 : Int} {a17 : List (Int × List Int)} {a18 : List (List (Int × List Int))} {a19 : List Int} {a20 : List (List UInt8 × List UInt8 × List (List Int))} {a21 : List (Int × List Int)} {a22 : List UInt8} {a23 : List (Bool × Int × List Int)} (h : okd (a0, a1, a2, a3, a4, a5, a6, a7, a8, a9, a10, a11, a12, a13, a14, a15, a16, a17, a18, a19, a20, a21, a22, a23)) (hr : inr (a0, a1, a2, a3, a4, a5, a6, a7, a8, a9, a10, a11, a12, a13, a14, a15, a16, a17, a18, a19, a20, a21, a22, a23)) : laws_FnExactEqualSession a0 a1 a2 a3 a4 a5 a6 a7 a8 a9 a10 a11 a12 a13 a14 a15 a16 a17 a18 a19 a20 a21 a22 a23 = some true := by
  rw [laws_FnExactEqualSession_eq]
  refine lawSz (by omega) (by omega) (laws_szSession_ok ⟨h.1, h.2.1, h.2.2.1, h.2.2.2.1, h.2.2.2.2.1, h.2.2.2.2.2.1, h.2.2.2.2.2.2.1, h.2.2.2.2.2.2.2.1, h.2.2.2.2.2.2.2.2.1, h.2.2.2.2.2.2.2.2.2.1, h.2.2.2.2.2.2.2.2.2.2.1, h.2.2.2.2.2.2.2.2.2.2.2.1⟩ (by omega) (by omega)) fun s1 => ?_
  refine lawSz (by omega) (by omega) (laws_szSession_ok ⟨h.2.2.2.2.2.2.2.2.2.2.2.2.1, h.2.2.2.2.2.2.2.2.2.2.2.2.2.1, h.2.2.2.2.2.2.2.2.2.2.2.2.2.2.1, h.2.2.2.2.2.2.2.2.2.2.2.2.2.2.2.1, h.2.2.2.2.2.2.2.2.2.2.2.2.2.2.2.2.1, h.2.2.2.2.2.2.2.2.2.2.2.2.2.2.2.2.2.1, h.2.2.2.2.2.2.2.2.2.2.2.2.2.2.2.2.2.2.1, h.2.2.2.2.2.2.2.2.2.2.2.2.2.2.2.2.2.2.2.1, h.2.2.2.2.2.2.2.2.2.2.2.2.2.2.2.2.2.2.2.2.1, h.2.2.2.2.2.2.2.2.2.2.2.2.2.2.2.2.2.2.2.2.2.1, h.2.2.2.2.2.2.2.2.2.2.2.2.2.2.2.2.2.2.2.2.2.2.1, h.2.2.2.2.2.2.2.2.2.2.2.2.2.2.2.2.2.2.2.2.2.2.2⟩ (by omega) (by omega)) fun s2 => ?_
  obtain ⟨r, e1, e2⟩ := EqualSession_core h hr (by omega) (by omega)
  simp only [laws_toSession_ok (show size (a0, a1, a2, a3, a4, a5, a6, a7, a8, a9, a10, a11) ≤ 1048576 by omega), laws_toSession_ok (show size (a12, a13, a14, a15, a16, a17, a18, a19, a20, a21, a22, a23) ≤ 1048576 by omega), Option.bind_some, e1, e2, laws_eqSession_self (show okd (a0, a1, a2, a3, a4, a5, a6, a7, a8, a9, a10, a11) from ⟨h.1, h.2.1, h.2.2.1, h.2.2.2.1, h.2.2.2.2.1, h.2.2.2.2.2.1, h.2.2.2.2.2.2.1, h.2.2.2.2.2.2.2.1, h.2.2.2.2.2.2.2.2.1, h.2.2.2.2.2.2.2.2.2.1, h.2.2.2.2.2.2.2.2.2.2.1, h.2.2.2.2.2.2.2.2.2.2.2.1⟩), laws_eqSession_self (show okd (a12, a13, a14, a15, a16, a17, a18, a19, a20, a21, a22, a23) from ⟨h.2.2.2.2.2.2.2.2.2.2.2.2.1, h.2.2.2.2.2.2.2.2.2.2.2.2.2.1, h.2.2.2.2.2.2.2.2.2.2.2.2.2.2.1, h.2.2.2.2.2.2.2.2.2.2.2.2.2.2.2.1, h.2.2.2.2.2.2.2.2.2.2.2.2.2.2.2.2.1, h.2.2.2.2.2.2.2.2.2.2.2.2.2.2.2.2.2.1, h.2.2.2.2.2.2.2.2.2.2.2.2.2.2.2.2.2.2.1, h.2.2.2.2.2.2.2.2.2.2.2.2.2.2.2.2.2.2.2.1, h.2.2.2.2.2.2.2.2.2.2.2.2.2.2.2.2.2.2.2.2.1, h.2.2.2.2.2.2.2.2.2.2.2.2.2.2.2.2.2.2.2.2.2.1, h.2.2.2.2.2.2.2.2.2.2.2.2.2.2.2.2.2.2.2.2.2.2.1, h.2.2.2.2.2.2.2.2.2.2.2.2.2.2.2.2.2.2.2.2.2.2.2⟩), beq_self_eq_true, Bool.not_true, cond_false, decide_false]
end Go.Proofs.YtpoekafccggehacGreat.X
