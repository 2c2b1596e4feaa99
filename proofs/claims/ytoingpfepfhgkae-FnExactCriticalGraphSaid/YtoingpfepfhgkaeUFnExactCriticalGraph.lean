/- Plain lemmas on these equations. No condition. -/
import Derived.Test.YtoingpfepfhgkaeEFnExactCriticalGraph
import Derived.IntWalk
namespace Go.Proofs.Ytoingpfepfhgkae.TM
open Go
section
variable {ρ α β : Type}
theorem w64_id {n : Int} (h : -9223372036854775808 ≤ n) (h' : n ≤ 9223372036854775807) : w64 n = n := IntWalk.i64_in n ⟨h, h'⟩
theorem w64_nat {n : Nat} (h : n < 9223372036854775807) : w64 ((n : Int) + 1) = ((n + 1 : Nat) : Int) := by rw [w64_id (by omega) (by omega)]; rfl
theorem at_of {l : List α} {n : Nat} {x : α} (h : l[n]? = some x) (k : Nat → α → Option ρ) : at_ l (n : Int) k = k n x := by unfold at_; simp [h]
theorem atN_of {l : List α} {n : Nat} {x : α} (h : l[n]? = some x) (k : α → Option ρ) : atN l n k = k x := by unfold atN; simp [h]
theorem app_of {l m : List α} (h : l.length + m.length ≤ 1073741824) (k : List α → Option ρ) : app_ l m k = k (l ++ m) := if_pos h
theorem rep_of {n : Nat} {e : α} (h : n ≤ 1073741824) (k : List α → Option ρ) : rep_ (n : Int) e k = k (List.replicate n e) := by unfold rep_; rw [if_pos (by omega)]; rfl
theorem loopD (l : List α) (M : Nat → List α → Prop) (h0 : M l.length []) (h1 : ∀ k x suf, l.drop k = x :: suf → l[k]? = some x → k < l.length → M (k + 1) suf → M k (x :: suf)) : M 0 l := by
  have key : ∀ n k, k + n = l.length → M k (l.drop k) := by
    intro n
    induction n with
    | zero =>
      intro k hk
      have : k = l.length := by omega
      subst this
      rw [List.drop_length]
      exact h0
    | succ n ih =>
      intro k hk
      have hlt : k < l.length := by omega
      rw [List.drop_eq_getElem_cons hlt]
      exact h1 k _ _ (List.drop_eq_getElem_cons hlt) (List.getElem?_eq_getElem hlt) hlt (ih (k + 1) (by omega))
  simpa using key l.length 0 (by omega)
theorem toLoop {F : List α → Int → List β → Option (List β)} {f : α → Option β} {g : α → β} (ok : α → Prop)
    (hF : ∀ a i o, F a i o = cond (decide (i < (a.length : Int))) (at_ a i fun _ x => (f x).bind fun y => at_ o i fun j _ => atN o j fun _ => atN o j fun _ => F a (w64 (i + 1)) (o.set j y)) (some o))
    (hf : ∀ x, ok x → f x = some (g x)) {a : List α} (ha : ∀ x ∈ a, ok x) {e : β} (hs : a.length ≤ 1073741824) : (rep_ (a.length : Int) e fun o => F a 0 o) = some (a.map g) := by
  rw [rep_of hs]
  have := loopD a (fun k s => ∀ o : List β, o.length = a.length → F a (k : Int) o = some (o.take k ++ s.map g)) (fun o ho => by rw [hF]; simp [← ho]) (fun k x suf hd hx hk ih o ho => by
    have hb : k < o.length := by omega
    rw [hF, at_of hx, hf _ (ha x (List.mem_of_getElem? hx))]
    simp only [Option.bind_some]
    rw [at_of (List.getElem?_eq_getElem hb), atN_of (List.getElem?_eq_getElem hb), atN_of (List.getElem?_eq_getElem hb), w64_nat (by omega), ih _ (by simp [ho])]
    have e1 : (o.set k (g x)).take (k + 1) = o.take k ++ [g x] := by
      rw [List.take_add_one, List.take_set, List.set_eq_of_length_le (by simp; omega)]
      simp [hb]
    simp [hk, e1])
  simpa using this _ (by simp)
def left_ (l : Int) (n : Nat) : Int := if l < n then -1 else l - n
theorem left_neg {l : Int} {n : Nat} (_hl : 0 ≤ l) : left_ l n < 0 ↔ l < n := by unfold left_; split <;> omega
theorem left_add (l : Int) (m n : Nat) (_hl : 0 ≤ l) : (if left_ l m < 0 then -1 else left_ (left_ l m) n) = left_ l (m + n) := by
  unfold left_
  repeat' split
  all_goals omega
theorem left_le {l : Int} {n : Nat} : left_ l n ≤ max l (-1) := by unfold left_; split <;> omega
def sums : List Nat → Nat
  | [] => 0
  | x :: l => x + sums l
theorem szLoop {F : List α → Int → Int → Option Int} {f : α → Int → Option Int} {sz : α → Nat} (ok : α → Prop)
    (hF : ∀ a l i, F a l i = cond (decide (i < (a.length : Int))) (at_ a i fun _ x => (f x l).bind fun r => cond (decide (r < 0)) (some (-1)) (F a r (w64 (i + 1)))) (some l))
    (hf : ∀ x l, ok x → 0 ≤ l → l ≤ 1048576 → f x l = some (left_ l (sz x))) {a : List α} (ha : ∀ x ∈ a, ok x) (hs : a.length < 9223372036854775808) {l : Int} (h0 : 0 ≤ l) (h1 : l ≤ 1048576) : F a l 0 = some (left_ l (sums (a.map sz))) := by
  have := loopD a (fun k s => ∀ l : Int, 0 ≤ l → l ≤ 1048576 → F a l (k : Int) = some (left_ l (sums (s.map sz)))) (fun l h0 h1 => by rw [hF]; simp [sums, left_]; omega) (fun k x suf hd hx hk ih l h0 h1 => by
    rw [hF, at_of hx, hf _ _ (ha x (List.mem_of_getElem? hx)) h0 h1]
    simp only [Option.bind_some, Int.ofNat_lt, hk, decide_true, cond_true, w64_nat (show k < 9223372036854775807 by omega)]
    by_cases h : left_ l (sz x) < 0
    · have h2 := (left_neg h0).1 h
      simp only [h, decide_true, cond_true, List.map_cons, sums]
      unfold left_
      rw [if_pos (by omega)]
    · have h2 : ¬ l < sz x := fun h3 => h ((left_neg h0).2 h3)
      simp only [h, decide_false, cond_false, List.map_cons, sums]
      rw [ih _ (by omega) (by have := @left_le l (sz x); omega), ← left_add l _ _ h0, if_neg h])
  simpa using this l h0 h1
end
end Go.Proofs.Ytoingpfepfhgkae.TM
namespace Go.Proofs.Ytoingpfepfhgkae.TM
open Go
class Dat (α : Type) where
  size : α → Nat
  okd : α → Prop
  inr : α → Prop
  ok_of : ∀ x, size x ≤ 9223372036854775807 → okd x
open Dat (size okd inr)
instance : Dat Int := ⟨fun _ => 0, fun _ => True, fun n => -9223372036854775808 ≤ n ∧ n ≤ 9223372036854775807, fun _ _ => trivial⟩
instance : Dat Bool := ⟨fun _ => 0, fun _ => True, fun _ => True, fun _ _ => trivial⟩
instance : Dat UInt8 := ⟨fun _ => 0, fun _ => True, fun _ => True, fun _ _ => trivial⟩
theorem sums_mem {l : List Nat} {x : Nat} (h : x ∈ l) : x ≤ sums l := by
  induction l with
  | nil => simp at h
  | cons y l ih =>
    simp only [sums]
    rcases List.mem_cons.1 h with rfl | h
    · omega
    · have := ih h; omega
instance {α : Type} [Dat α] : Dat (List α) := ⟨fun l => l.length + sums (l.map size), fun l => l.length ≤ 9223372036854775807 ∧ ∀ x ∈ l, okd x, fun l => ∀ x ∈ l, inr x,
  fun l h => ⟨by omega, fun x hx => Dat.ok_of x (by have := sums_mem (List.mem_map_of_mem (f := size) hx); omega)⟩⟩
instance {α β : Type} [Dat α] [Dat β] : Dat (α × β) := ⟨fun x => size x.1 + size x.2, fun x => okd x.1 ∧ okd x.2, fun x => inr x.1 ∧ inr x.2, fun x h => ⟨Dat.ok_of _ (by omega), Dat.ok_of _ (by omega)⟩⟩
section
variable {α β γ ρ : Type}
theorem size_int (n : Int) : size n = 0 := rfl
theorem size_bool (n : Bool) : size n = 0 := rfl
theorem size_list [Dat α] (l : List α) : size l = l.length + sums (l.map size) := rfl
theorem size_prod [Dat α] [Dat β] (a : α) (b : β) : size (a, b) = size a + size b := rfl
theorem sums_zero {l : List α} {f : α → Nat} (h : ∀ x ∈ l, f x = 0) : sums (l.map f) = 0 := by
  induction l with
  | nil => rfl
  | cons x l ih => simp only [List.map_cons, sums, h x (by simp), ih fun y hy => h y (by simp [hy])]
theorem size_str (l : List UInt8) : size l = l.length := by rw [size_list, sums_zero (f := size) fun _ _ => rfl]; omega
theorem size_ints (l : List Int) : size l = l.length := by rw [size_list, sums_zero (f := size) fun _ _ => rfl]; omega
theorem size_mem [Dat α] {l : List α} {x : α} (h : x ∈ l) : size x + l.length ≤ size l := by have := sums_mem (List.mem_map_of_mem (f := size) h); rw [size_list]; omega
theorem len_size [Dat α] (l : List α) : l.length ≤ size l := by rw [size_list]; omega
theorem okd_len [Dat α] {l : List α} (h : okd l) : l.length ≤ 9223372036854775807 := h.1
theorem szEnd {k : Int} (h : 0 ≤ k) : some k = some (left_ k 0) := by unfold left_; rw [if_neg (by omega)]; simp
theorem szStep {k : Int} {m n : Nat} {e : Option Int} {K : Int → Option Int} (h0 : 0 ≤ k) (h1 : k ≤ 1048576) (he : e = some (left_ k m)) (hK : ∀ j, 0 ≤ j → j ≤ 1048576 → K j = some (left_ j n)) :
    (e.bind fun x => cond (decide (x < 0)) (some (-1)) (K x)) = some (left_ k (m + n)) := by
  subst he
  rw [Option.bind_some, ← left_add k m n h0]
  by_cases h : left_ k m < 0
  · simp [h]
  · simp only [h, decide_false, cond_false, if_false]
    exact hK _ (by omega) (by have := @left_le k m; omega)
theorem szLen {k : Int} {m n : Nat} {K : Int → Option Int} (h0 : 0 ≤ k) (h1 : k ≤ 1048576) (hm : m ≤ 9223372036854775807) (hK : ∀ j, 0 ≤ j → j ≤ 1048576 → K j = some (left_ j n)) :
    cond (decide (w64 (k - (m : Int)) < 0)) (some (-1)) (K (w64 (k - (m : Int)))) = some (left_ k (m + n)) := by
  have hw : w64 (k - (m : Int)) = k - m := w64_id (by omega) (by omega)
  rw [hw]
  by_cases h : k - (m : Int) < 0
  · have : left_ k (m + n) = -1 := by unfold left_; rw [if_pos (by omega)]
    simp [h, this]
  · simp only [h, decide_false, cond_false]
    rw [hK _ (by omega) (by omega)]
    unfold left_
    congr 1
    split <;> split <;> omega
theorem left_eq {k : Int} {m n : Nat} (h : m = n) : some (left_ k m) = some (left_ k n) := by rw [h]
theorem szList [Dat α] {F : List α → Int → Int → Option Int} {f : α → Int → Option Int}
    (hF : ∀ a l i, F a l i = cond (decide (i < (a.length : Int))) (at_ a i fun _ x => (f x l).bind fun r => cond (decide (r < 0)) (some (-1)) (F a r (w64 (i + 1)))) (some l))
    (hf : ∀ x l, okd x → 0 ≤ l → l ≤ 1048576 → f x l = some (left_ l (size x))) {a : List α} (ha : okd a) {k : Int} (h0 : 0 ≤ k) (h1 : k ≤ 1048576) :
    cond (decide (w64 (k - (a.length : Int)) < 0)) (some (-1)) (F a (w64 (k - (a.length : Int))) 0) = some (left_ k (size a)) :=
  szLen (K := fun j => F a j 0) h0 h1 ha.1 fun j h0 h1 => szLoop okd hF hf ha.2 (by have := ha.1; omega) h0 h1
theorem at_N {l : List α} {i : Int} (k : Nat → α → α → Option ρ) : (at_ l i fun j x => atN l j (k j x)) = at_ l i fun j x => k j x x := by
  unfold at_
  split
  · next e h =>
    have : l[i.toNat]? = some e := by split at h <;> simp_all
    exact atN_of this _
  · rfl
theorem atN_N {l : List α} {i : Nat} (k : α → α → Option ρ) : (atN l i fun x => atN l i (k x)) = atN l i fun x => k x x := by
  unfold atN
  cases l[i]? <;> rfl
theorem at_set {l : List α} {i : Int} {f : Nat → α → α} (k : Nat → α → α → Option ρ) : (at_ l i fun j x => atN (l.set j (f j x)) j (k j x)) = at_ l i fun j x => k j x (f j x) := by
  unfold at_
  split
  · next e h =>
    have h2 : l[i.toNat]? = some e := by split at h <;> simp_all
    have h3 : i.toNat < l.length := by rcases Nat.lt_or_ge i.toNat l.length with h4 | h4; exact h4; simp [List.getElem?_eq_none h4] at h2
    exact atN_of (List.getElem?_set_self h3) _
  · rfl
theorem toList [Dat α] {F : List α → Int → List α → Option (List α)} {f : α → Option α}
    (hF : ∀ a i o, F a i o = cond (decide (i < (a.length : Int))) (at_ a i fun _ x => (f x).bind fun y => at_ o i fun j _ => F a (w64 (i + 1)) (o.set j y)) (some o))
    (hf : ∀ x, size x ≤ 1048576 → f x = some x) {a : List α} (ha : size a ≤ 1048576) {e : α} : (rep_ (a.length : Int) e fun o => F a 0 o) = some a := by
  refine (toLoop (F := F) (f := f) (g := id) (fun x => size x ≤ 1048576) (fun a i o => ?_) hf (fun x hx => by have := size_mem hx; omega) (by have := len_size a; omega)).trans (by simp)
  rw [hF]
  congr 2
  funext _ x
  congr 1
  funext y
  unfold at_ atN
  cases h : (if 0 ≤ i then o[i.toNat]? else none) with
  | none => rfl
  | some e =>
    have : o[i.toNat]? = some e := by split at h <;> simp_all
    simp [this]
def all2 (p : α → β → Bool) : List α → List β → Bool
  | [], [] => true
  | x :: a, y :: b => p x y && all2 p a b
  | _, _ => false
theorem all2_len {p : α → β → Bool} : ∀ {a : List α} {b : List β}, a.length ≠ b.length → all2 p a b = false
  | [], [], h => absurd rfl h
  | [], _ :: _, _ => rfl
  | _ :: _, [], _ => rfl
  | x :: a, y :: b, h => by simp only [all2, all2_len (p := p) (a := a) (b := b) (fun e => h (by simp [e])), Bool.and_false]
theorem all2_eq [DecidableEq α] : ∀ (a b : List α), all2 (fun x y => decide (x = y)) a b = decide (a = b)
  | [], [] => by simp [all2]
  | [], _ :: _ => by simp [all2]
  | _ :: _, [] => by simp [all2]
  | x :: a, y :: b => by simp [all2, all2_eq a b]
theorem allLoop {F : Int → Option Bool} {e : α → β → Option Bool} {p : α → β → Bool} {a : List α} {b : List β}
    (hF : ∀ i, F i = cond (decide (i < (a.length : Int))) (at_ a i fun _ x => at_ b i fun _ y => (e x y).bind fun r => cond (!r) (some false) (F (w64 (i + 1)))) (some true))
    (he : ∀ x ∈ a, ∀ y ∈ b, e x y = some (p x y)) (hl : a.length = b.length) (hs : a.length ≤ 9223372036854775807) : F 0 = some (all2 p a b) := by
  have := loopD a (fun k s => F (k : Int) = some (all2 p s (b.drop k))) (by rw [hF]; simp [hl, all2]) (fun k x suf hd hx hk ih => by
    have hb : k < b.length := by omega
    rw [hF, at_of hx, at_of (List.getElem?_eq_getElem hb), he _ (List.mem_of_getElem? hx) _ (List.getElem_mem hb), w64_nat (by omega), ih, List.drop_eq_getElem_cons hb]
    cases h1 : p x b[k] <;> simp [hk, h1, all2])
  simpa using this
theorem allChk {F : Int → Option Bool} {e : α → β → Option Bool} {p : α → β → Bool} {a : List α} {b : List β}
    (hF : ∀ i, F i = cond (decide (i < (a.length : Int))) (at_ a i fun _ x => at_ b i fun _ y => (e x y).bind fun r => cond (!r) (some false) (F (w64 (i + 1)))) (some true))
    (he : ∀ x ∈ a, ∀ y ∈ b, e x y = some (p x y)) (hs : a.length ≤ 9223372036854775807) : cond (!((a.length : Int) == (b.length : Int))) (some false) (F 0) = some (all2 p a b) := by
  by_cases h : a.length = b.length
  · simp only [h, beq_self_eq_true, Bool.not_true, cond_false]
    exact allLoop hF he h hs
  · have h2 : ((a.length : Int) == (b.length : Int)) = false := by simp; omega
    simp [h2, all2_len h]
theorem selfList [Dat α] {F : List α → List α → Int → Option Bool} {e : α → α → Option Bool}
    (hF : ∀ a b i, F a b i = cond (decide (i < (a.length : Int))) (at_ a i fun _ x => at_ b i fun _ y => (e x y).bind fun r => cond (!r) (some false) (F a b (w64 (i + 1)))) (some true))
    (he : ∀ x, okd x → e x x = some true) {a : List α} (ha : okd a) : cond (!((a.length : Int) == (a.length : Int))) (some false) (F a a 0) = some true := by
  have := loopD a (fun k s => F a a (k : Int) = some true) (by rw [hF]; simp) (fun k x suf hd hx hk ih => by
    rw [hF, at_of hx, at_of hx, he _ (ha.2 x (List.mem_of_getElem? hx)), w64_nat (by have := ha.1; omega), ih]
    simp)
  simpa using this
theorem anyLoop {F : Int → Option Bool} {e : α → Option Bool} {p : α → Bool} {a : List α}
    (hF : ∀ i, F i = cond (decide (i < (a.length : Int))) (at_ a i fun _ x => (e x).bind fun r => cond r (some true) (F (w64 (i + 1)))) (some false))
    (he : ∀ x ∈ a, e x = some (p x)) (hs : a.length ≤ 9223372036854775807) : F 0 = some (a.any p) := by
  have := loopD a (fun k s => F (k : Int) = some (s.any p)) (by rw [hF]; simp) (fun k x suf hd hx hk ih => by
    rw [hF, at_of hx, he _ (List.mem_of_getElem? hx), w64_nat (by omega), ih]
    cases h1 : p x <;> simp [hk, h1])
  simpa using this
theorem idxLoop {F : Int → Option Int} {e : α → Option Bool} {p : α → Bool} {a : List α}
    (hF : ∀ i, F i = cond (decide (i < (a.length : Int))) (at_ a i fun _ x => (e x).bind fun r => cond r (some i) (F (w64 (i + 1)))) (some (-1)))
    (he : ∀ x ∈ a, e x = some (p x)) (hs : a.length ≤ 9223372036854775807) : ((F 0).bind fun r => some (decide (0 ≤ r))) = some (a.any p) := by
  have := loopD a (fun k s => ((F (k : Int)).bind fun r => some (decide (0 ≤ r))) = some (s.any p)) (by rw [hF]; simp) (fun k x suf hd hx hk ih => by
    rw [hF, at_of hx, he _ (List.mem_of_getElem? hx), w64_nat (by omega)]
    cases h1 : p x
    · simp only [hk, Int.ofNat_lt, decide_true, cond_true, Option.bind_some, cond_false, List.any_cons, h1, Bool.false_or]
      exact ih
    · simp [hk, h1])
  simpa using this
theorem lawSz {k : Int} {m : Nat} {e : Option Int} {K : Int → Option Bool} (_h0 : 0 ≤ k) (_h1 : k ≤ 1048576) (he : e = some (left_ k m)) (hK : (m : Int) ≤ k → K (k - m) = some true) :
    (e.bind fun x => cond (decide (x < 0)) (some true) (K x)) = some true := by
  subst he
  rw [Option.bind_some]
  by_cases h : k < m
  · simp [left_, h]
  · have : left_ k m = k - m := by unfold left_; rw [if_neg h]
    rw [this]
    simp only [show ¬ (k - (m : Int) < 0) by omega, decide_false, cond_false]
    exact hK (by omega)
theorem le_maxLen {n : Nat} (h : n ≤ maxLen) : n ≤ 9223372036854775807 := h
end
end Go.Proofs.Ytoingpfepfhgkae.TM
namespace Go.Proofs.Ytoingpfepfhgkae.X
open Go Go.Proofs.Ytoingpfepfhgkae.TM
open Go.Proofs.Ytoingpfepfhgkae.TM.Dat (size okd inr)
theorem laws_szIntS_ok {a0 : List Int} {a1 : Int} (h : okd a0) (h0 : 0 ≤ a1) (h1 : a1 ≤ 1048576) : laws_szIntS a0 a1 = some (left_ a1 (size a0)) := by
  rw [laws_szIntS_eq]
  exact (szLen h0 h1 (okd_len h) fun _ h0 h1 => szEnd h0).trans (left_eq (by simp only [size_prod, size_str, size_ints, size_int, size_bool]; omega))
theorem laws_toIntS_ok {a0 : List Int} (h : size a0 ≤ 1048576) : laws_toIntS a0 = some a0 := by
  rw [laws_toIntS_eq]
  exact toList (F := laws_toIntS_l0) (f := fun x => some x) (fun a i o => (laws_toIntS_l0_eq a i o).trans (by simp only [at_N, atN_N, at_set, List.set_set, Option.bind_some])) (fun _ _ => rfl) h
theorem laws_eqIntS_self {a0 : List Int} (h : okd a0) : laws_eqIntS a0 a0 = some true := by
  rw [laws_eqIntS_eq]
  exact selfList (F := laws_eqIntS_l0) (e := fun x y => some (x == y)) laws_eqIntS_l0_eq (fun x _ => by simp) h
theorem laws_szIntSS_ok {a0 : List (List Int)} {a1 : Int} (h : okd a0) (h0 : 0 ≤ a1) (h1 : a1 ≤ 1048576) : laws_szIntSS a0 a1 = some (left_ a1 (size a0)) := by
  rw [laws_szIntSS_eq]
  exact szList laws_szIntSS_l0_eq (fun x l h h0 h1 => laws_szIntS_ok h h0 h1) h h0 h1
theorem laws_szSizeGraph_ok {a0 : List UInt8} {a1 : List UInt8} {a2 : List (List Int)} {a3 : Int} (h : okd (a0, a1, a2)) (h0 : 0 ≤ a3) (h1 : a3 ≤ 1048576) : laws_szSizeGraph a0 a1 a2 a3 = some (left_ a3 (size (a0, a1, a2))) := by
  rw [laws_szSizeGraph_eq]
  exact (szLen h0 h1 (okd_len h.1) fun _ h0 h1 => szLen h0 h1 (okd_len h.2.1) fun _ h0 h1 => szStep h0 h1 (laws_szIntSS_ok h.2.2 h0 h1) fun _ h0 h1 => szEnd h0).trans (left_eq (by simp only [size_prod, size_str, size_ints, size_int, size_bool]; omega))
theorem laws_toIntSS_ok {a0 : List (List Int)} (h : size a0 ≤ 1048576) : laws_toIntSS a0 = some a0 := by
  rw [laws_toIntSS_eq]
  exact toList (F := laws_toIntSS_l0) (fun a i o => (laws_toIntSS_l0_eq a i o).trans (by simp only [at_N, atN_N, at_set, List.set_set, Option.bind_some])) (fun x h => laws_toIntS_ok h) h
theorem laws_toSizeGraph_ok {a0 : List UInt8} {a1 : List UInt8} {a2 : List (List Int)} (h : size (a0, a1, a2) ≤ 1048576) : laws_toSizeGraph a0 a1 a2 = some (a0, a1, a2) := by
  simp only [size_prod] at h
  rw [laws_toSizeGraph_eq, laws_toIntSS_ok (by (try simp only [size_prod]); omega), Option.bind_some]
theorem laws_eqIntSS_self {a0 : List (List Int)} (h : okd a0) : laws_eqIntSS a0 a0 = some true := by
  rw [laws_eqIntSS_eq]
  exact selfList (F := laws_eqIntSS_l0) laws_eqIntSS_l0_eq (fun x h => laws_eqIntS_self h) h
theorem laws_eqSizeGraph_self {a0 : List UInt8} {a1 : List UInt8} {a2 : List (List Int)} (h : okd (a0, a1, a2)) : laws_eqSizeGraph a0 a1 a2 a0 a1 a2 = some true := by
  simp only [laws_eqSizeGraph_eq, laws_eqIntSS_self h.2.2, Option.bind_some, beq_self_eq_true, Bool.not_true, cond_false]
theorem laws_szSizeGraphS_ok {a0 : List (List UInt8 × List UInt8 × List (List Int))} {a1 : Int} (h : okd a0) (h0 : 0 ≤ a1) (h1 : a1 ≤ 1048576) : laws_szSizeGraphS a0 a1 = some (left_ a1 (size a0)) := by
  rw [laws_szSizeGraphS_eq]
  exact szList laws_szSizeGraphS_l0_eq (fun x l h h0 h1 => laws_szSizeGraph_ok h h0 h1) h h0 h1
theorem laws_toSizeGraphS_ok {a0 : List (List UInt8 × List UInt8 × List (List Int))} (h : size a0 ≤ 1048576) : laws_toSizeGraphS a0 = some a0 := by
  rw [laws_toSizeGraphS_eq]
  exact toList (F := laws_toSizeGraphS_l0) (fun a i o => (laws_toSizeGraphS_l0_eq a i o).trans (by simp only [at_N, atN_N, at_set, List.set_set, Option.bind_some])) (fun x h => laws_toSizeGraph_ok h) h
theorem laws_eqSizeGraphS_self {a0 : List (List UInt8 × List UInt8 × List (List Int))} (h : okd a0) : laws_eqSizeGraphS a0 a0 = some true := by
  rw [laws_eqSizeGraphS_eq]
  exact selfList (F := laws_eqSizeGraphS_l0) laws_eqSizeGraphS_l0_eq (fun x h => laws_eqSizeGraph_self h) h
end Go.Proofs.Ytoingpfepfhgkae.X
namespace Go.Proofs.Ytoingpfepfhgkae.X
open Go Go.Proofs.Ytoingpfepfhgkae.TM
open Go.Proofs.Ytoingpfepfhgkae.TM.Dat (size okd inr)
theorem beqD {α : Type} [BEq α] [LawfulBEq α] [DecidableEq α] (x y : α) : (x == y) = decide (x = y) := by by_cases h : x = y <;> simp [h]
theorem and_cond (b c : Bool) : cond b (some c) (some false) = some (b && c) := by cases b <;> rfl
theorem spec_l1Ints_ok {a b : List Int} (h : a.length ≤ 9223372036854775807) : spec_l1Ints a b = some (decide (a = b)) := by
  rw [spec_l1Ints_eq, ← all2_eq]
  exact allChk (F := fun i => spec_l1Ints_l0 a b i) (e := fun x y => some (x == y)) (spec_l1Ints_l0_eq a b) (fun x _ y _ => by rw [beqD]) h
theorem slices_Equal_ok {a b : List Int} (h : a.length ≤ 9223372036854775807) : slices_Equal a b = some (decide (a = b)) := by
  rw [slices_Equal_eq, ← all2_eq]
  exact allChk (F := fun i => slices_Equal_l0 a b a.length i) (e := fun x y => some (x == y)) (slices_Equal_l0_eq a b _) (fun x _ y _ => by rw [beqD]) h
def graphEq (a0 a1 : List UInt8) (a2 : List (List Int)) (a3 a4 : List UInt8) (a5 : List (List Int)) : Bool := (a0 == a3) && ((a1 == a4) && decide (a2 = a5))
theorem spec_EqualGraph_ok {a0 a1 : List UInt8} {a2 : List (List Int)} {a3 a4 : List UInt8} {a5 : List (List Int)} (h : okd a2) : spec_EqualGraph a0 a1 a2 a3 a4 a5 = some (graphEq a0 a1 a2 a3 a4 a5) := by
  rw [spec_EqualGraph_eq, allChk (F := fun i => spec_EqualGraph_l0 i a0 a1 a2 a3 a4 a5) (fun i => spec_EqualGraph_l0_eq i a0 a1 a2 a3 a4 a5) (fun x hx y _ => spec_l1Ints_ok (h.2 x hx).1) h.1, all2_eq]
  unfold graphEq
  simp only [Bool.not_not, and_cond]
theorem impl_EqualGraph_ok {a0 a1 : List UInt8} {a2 : List (List Int)} {a3 a4 : List UInt8} {a5 : List (List Int)} (h : okd a2) : impl_EqualGraph a0 a1 a2 a3 a4 a5 = some (graphEq a0 a1 a2 a3 a4 a5) := by
  rw [impl_EqualGraph_eq, slices_EqualFunc_2_eq, allChk (F := fun i => slices_EqualFunc_2_l0 a5 a2 a2.length i) (fun i => slices_EqualFunc_2_l0_eq a5 a2 _ i) (fun x hx y _ => by rw [impl_EqualGraph_1_eq, slices_Equal_ok (h.2 x hx).1, Option.bind_some]) h.1, all2_eq]
  unfold graphEq
  simp only [Option.bind_some, and_cond]
end Go.Proofs.Ytoingpfepfhgkae.X
namespace Go.Proofs.Ytoingpfepfhgkae.X
open Go Go.Proofs.Ytoingpfepfhgkae.TM
open Go.Proofs.Ytoingpfepfhgkae.TM.Dat (size okd inr)
end Go.Proofs.Ytoingpfepfhgkae.X
namespace Go.Proofs.Ytoingpfepfhgkae.X
open Go Go.Proofs.Ytoingpfepfhgkae.TM
open Go.Proofs.Ytoingpfepfhgkae.TM.Dat (size okd inr)
def stepC (a x r : Int) : Int := if a = 0 ∨ x = 0 then r else if a = 2 ∨ x = 2 then 2 else max_ r 1
def cellC : List Int → List (List Int) → Nat → Int → Int
  | a :: row, x :: h, j, r => cellC row h j (stepC a (x.getD j 0) r)
  | _, _, _, r => r
def rowC : List Int → List (List Int) → List Int → List Int
  | a :: row, x :: h, r => rowC row h (List.zipWith (stepC a) x r)
  | _, _, r => r
theorem rowC_len : ∀ (row : List Int) (h : List (List Int)) (r : List Int) (c : Nat), (∀ x ∈ h, x.length = c) → r.length = c → (rowC row h r).length = c
  | [], _, _, _, _, e => e
  | _ :: _, [], _, _, _, e => e
  | a :: row, x :: h, r, c, hc, e => rowC_len row h _ c (fun y hy => hc y (by simp [hy])) (by rw [List.length_zipWith, hc x (by simp), e, Nat.min_self])
theorem rowC_get : ∀ (row : List Int) (h : List (List Int)) (r : List Int) (c j : Nat), (∀ x ∈ h, x.length = c) → r.length = c → j < c → (rowC row h r)[j]? = some (cellC row h j (r.getD j 0))
  | [], _, r, c, j, _, e, hj => by simp [rowC, cellC, List.getD, List.getElem?_eq_getElem (show j < r.length by omega)]
  | _ :: _, [], r, c, j, _, e, hj => by simp [rowC, cellC, List.getD, List.getElem?_eq_getElem (show j < r.length by omega)]
  | a :: row, x :: h, r, c, j, hc, e, hj => by
    have hx := hc x (by simp)
    rw [rowC, rowC_get row h _ c j (fun y hy => hc y (by simp [hy])) (by rw [List.length_zipWith, hx, e, Nat.min_self]) hj, cellC]
    simp [List.getD, List.getElem?_zipWith, List.getElem?_eq_getElem (show j < r.length by omega), List.getElem?_eq_getElem (show j < x.length by omega)]
theorem at_zero {α ρ : Type} (x : α) (l : List α) (k : Nat → α → Option ρ) : at_ (x :: l) 0 k = k 0 x := rfl
theorem set_self {r : List Int} {k : Nat} (hb : k < r.length) : r.set k r[k] = r := List.set_getElem_self hb
theorem l3_step {ρ : Type} {r : List Int} {k : Nat} {a e : Int} (hb : k < r.length) (F : List Int → Option ρ) : (cond (!(a == 0)) (cond (e == 0) (F r) (cond (!(a == 2)) (cond (e == 2) (at_ r (k : Int) fun x2 _ => atN r x2 fun _ => atN r x2 fun _ => F (r.set x2 2))
      (at_ r (k : Int) fun x2 _ => atN r x2 fun x4 => at_ r (k : Int) fun x5 _ => atN r x5 fun _ => atN r x5 fun _ => F (r.set x5 (max_ x4 1)))) (at_ r (k : Int) fun x2 _ => atN r x2 fun _ => atN r x2 fun _ => F (r.set x2 2)))) (F r)) = F (r.set k (stepC a e r[k])) := by
  have hg : r[k]? = some r[k] := List.getElem?_eq_getElem hb
  simp only [at_of hg, atN_of hg]
  by_cases h0 : a = 0
  · have : (a == 0) = true := by simp [h0]
    simp only [this, Bool.not_true, cond_false]
    rw [show stepC a e r[k] = r[k] by simp [stepC, h0], set_self]
  · have h0' : (a == 0) = false := by simp [h0]
    simp only [h0', Bool.not_false, cond_true]
    by_cases h1 : e = 0
    · have : (e == 0) = true := by simp [h1]
      simp only [this, cond_true]
      rw [show stepC a e r[k] = r[k] by simp [stepC, h1], set_self]
    · have h1' : (e == 0) = false := by simp [h1]
      simp only [h1', cond_false]
      by_cases h2 : a = 2
      · have : (a == 2) = true := by simp [h2]
        simp only [this, Bool.not_true, cond_false]
        rw [show stepC a e r[k] = 2 by simp [stepC, h1, h2]]
      · have h2' : (a == 2) = false := by simp [h2]
        simp only [h2', Bool.not_false, cond_true]
        by_cases h3 : e = 2
        · have : (e == 2) = true := by simp [h3]
          simp only [this, cond_true]
          rw [show stepC a e r[k] = 2 by simp [stepC, h0, h3]]
        · have h3' : (e == 2) = false := by simp [h3]
          simp only [h3', cond_false]
          rw [show stepC a e r[k] = max_ r[k] 1 by simp [stepC, h0, h1, h2, h3]]
theorem l3_ok (c a1 : Int) (g : List (List Int)) (a3 a4 : Int) (a5 : List Int) (a6 a7 : Int) (x : List Int) (a11 a12 : List UInt8) (a13 : List (List Int)) (a14 a15 : List UInt8) (a16 : List (List Int)) (a17 a18 : List UInt8) (a19 : List (List Int)) (r : List Int) (hl : x.length = r.length) (hs : x.length ≤ 1048576) :
    impl_ComposeGraphs_l3 c a1 g a3 a4 a5 a6 a7 x x.length 0 a11 a12 a13 a14 a15 a16 a17 a18 a19 r = impl_ComposeGraphs_l2 c g a3 a4 a5 a6 (w64 (a7 + 1)) a11 a12 a13 a14 a15 a16 a17 a18 a19 (List.zipWith (stepC a1) x r) := by
  generalize hF : (fun (k : Int) (r : List Int) => impl_ComposeGraphs_l3 c a1 g a3 a4 a5 a6 a7 x x.length k a11 a12 a13 a14 a15 a16 a17 a18 a19 r) = F
  generalize hG : (fun (r : List Int) => impl_ComposeGraphs_l2 c g a3 a4 a5 a6 (w64 (a7 + 1)) a11 a12 a13 a14 a15 a16 a17 a18 a19 r) = G
  have hend : ∀ r, F x.length r = G r := fun r => by rw [← hF, ← hG]; simp only []; rw [impl_ComposeGraphs_l3_eq]; simp
  have hstep : ∀ (k : Nat) (e : Int) (r : List Int) (hb : k < r.length), x[k]? = some e → k < x.length → F k r = F ((k + 1 : Nat) : Int) (r.set k (stepC a1 e r[k])) := fun k e r hb he hk => by
    rw [← l3_step hb (F ((k + 1 : Nat) : Int)), ← hF]
    simp only []
    rw [impl_ComposeGraphs_l3_eq, at_of he, w64_nat (by omega)]
    simp only [Int.ofNat_lt, hk, decide_true, cond_true]
  have key := loopD x (fun k s => ∀ r : List Int, r.length = x.length → F k r = G (r.take k ++ List.zipWith (stepC a1) s (r.drop k)))
    (fun r hr => by rw [hend]; simp [← hr]) (fun k e suf hd he hk ih r hr => by
      have hb : k < r.length := by omega
      rw [hstep k e r hb he hk, ih _ (by simp [hr]), List.drop_eq_getElem_cons hb, List.zipWith_cons_cons, List.drop_set_of_lt (by omega), List.take_add_one, List.take_set, List.set_eq_of_length_le (by simp; omega)]
      simp [hb])
  have := key r hl.symm
  rw [← hF, ← hG] at this
  simpa using this
theorem l2_ok (c : Nat) (g : List (List Int)) (a3 a4 : Int) (row : List Int) (a11 a12 : List UInt8) (a13 : List (List Int)) (a14 a15 : List UInt8) (h : List (List Int)) (a17 a18 : List UInt8) (acc : List (List Int)) (r : List Int)
    (hl : row.length = h.length) (hs : row.length ≤ 1048576) (hc : ∀ x ∈ h, x.length = c) (hcs : c ≤ 1048576) (hr : r.length = c) (ha : acc.length + 1 ≤ 1073741824) :
    impl_ComposeGraphs_l2 c g a3 a4 row row.length 0 a11 a12 h a14 a15 a13 a17 a18 acc r = impl_ComposeGraphs_l1 c g a3 (w64 (a4 + 1)) a11 a12 h a14 a15 a13 a17 a18 (acc ++ [rowC row h r]) := by
  have := loopD row (fun k s => ∀ r : List Int, r.length = c → impl_ComposeGraphs_l2 c g a3 a4 row row.length k a11 a12 h a14 a15 a13 a17 a18 acc r = impl_ComposeGraphs_l1 c g a3 (w64 (a4 + 1)) a11 a12 h a14 a15 a13 a17 a18 (acc ++ [rowC s (h.drop k) r]))
    (fun r hr => by rw [impl_ComposeGraphs_l2_eq, app_of (by simpa using ha)]; simp [rowC]) (fun k e suf hd he hk ih r hr => by
      have hb : k < h.length := by omega
      have hx := hc _ (List.getElem_mem hb)
      rw [impl_ComposeGraphs_l2_eq, at_of he, at_of (List.getElem?_eq_getElem hb), l3_ok _ _ _ _ _ _ _ _ _ _ _ _ _ _ _ _ _ _ _ (by omega) (by omega), w64_nat (by omega), ih _ (by rw [List.length_zipWith, hx, hr, Nat.min_self]), List.drop_eq_getElem_cons hb, rowC]
      simp only [Int.ofNat_lt, hk, decide_true, cond_true])
  simpa using this r hr
theorem l1_ok (c : Nat) (g : List (List Int)) (a11 a12 : List UInt8) (h : List (List Int)) (a13 : List (List Int)) (a14 a15 : List UInt8) (a17 a18 : List UInt8)
    (hg : g.length ≤ 1048576) (hh : h.length ≤ 1048576) (hc : ∀ x ∈ h, x.length = c) (hcs : c ≤ 1048576) :
    impl_ComposeGraphs_l1 c g g.length 0 a11 a12 h a14 a15 a13 a17 a18 [] = some (if ∀ x ∈ g, x.length = h.length then (a17, a18, g.map fun row => rowC row h (List.replicate c 0), true) else ([], [], [], false)) := by
  have := loopD g (fun k s => ∀ acc : List (List Int), acc.length = k → impl_ComposeGraphs_l1 c g g.length k a11 a12 h a14 a15 a13 a17 a18 acc = some (if ∀ x ∈ s, x.length = h.length then (a17, a18, acc ++ s.map fun row => rowC row h (List.replicate c 0), true) else ([], [], [], false)))
    (fun acc hk => by rw [impl_ComposeGraphs_l1_eq]; simp) (fun k e suf hd he hk ih acc ha => by
      rw [impl_ComposeGraphs_l1_eq, at_of he]
      by_cases h1 : e.length = h.length
      · have h2 : ((e.length : Int) == (h.length : Int)) = true := by simp; omega
        rw [rep_of (by omega), l2_ok c g _ _ e a11 a12 a13 a14 a15 h a17 a18 acc _ h1 (by omega) hc hcs (by simp) (by omega), w64_nat (by omega), ih _ (by simp [ha])]
        simp [h2, hk, h1]
      · have h2 : ((e.length : Int) == (h.length : Int)) = false := by simp; omega
        simp [h2, hk, h1])
  simpa using this [] rfl
def colsOf (h : List (List Int)) : Nat := match h with | [] => 0 | x :: _ => x.length
def compG (a0 a1 : List UInt8) (a2 : List (List Int)) (a3 a4 : List UInt8) (a5 : List (List Int)) : List UInt8 × List UInt8 × List (List Int) × Bool :=
  if a1 = a3 ∧ (∀ x ∈ a5, x.length = colsOf a5) ∧ ∀ x ∈ a2, x.length = a5.length then (a0, a4, a2.map fun row => rowC row a5 (List.replicate (colsOf a5) 0), true) else ([], [], [], false)
theorem size_elem {l : List (List Int)} {x : List Int} (h : x ∈ l) : x.length + l.length ≤ size l := by have := size_mem h; rw [size_ints] at this; exact this
theorem impl_ComposeGraphs_of {a0 a1 : List UInt8} {a2 : List (List Int)} {a3 a4 : List UInt8} {a5 : List (List Int)} (l2 : a2.length ≤ 1048576) (l5 : a5.length ≤ 1048576) (m5 : ∀ x ∈ a5, x.length ≤ 1048576) :
    impl_ComposeGraphs a0 a1 a2 a3 a4 a5 = some (compG a0 a1 a2 a3 a4 a5) := by
  have hcs : colsOf a5 ≤ 1048576 := by
    cases a5 with
    | nil => simp [colsOf]
    | cons x l => exact m5 x (by simp)
  rw [impl_ComposeGraphs_eq]
  by_cases hn : a1 = a3
  · have hn' : (a1 == a3) = true := by simp [hn]
    simp only [hn', Bool.not_true, cond_false]
    have key : ∀ (pre suf : List (List Int)) (c : Int), a5 = pre ++ suf → (pre = [] → c = 0) → (pre ≠ [] → c = colsOf a5) → impl_ComposeGraphs_l0 c a5 a5.length pre.length a0 a1 a2 a3 a4 a5 [] [] [] =
        some (if (∀ x ∈ suf, x.length = colsOf a5) ∧ ∀ x ∈ a2, x.length = a5.length then (a0, a4, a2.map fun row => rowC row a5 (List.replicate (colsOf a5) 0), true) else ([], [], [], false)) ∨ ¬ (∀ x ∈ pre, x.length = colsOf a5) := by
      intro pre suf
      induction suf generalizing pre with
      | nil =>
        intro c he h0 h1
        by_cases hp : ∀ x ∈ pre, x.length = colsOf a5
        · refine .inl ?_
          have hpre : pre = a5 := by simpa using he.symm
          subst hpre
          have hc : c = (colsOf pre : Int) := by
            cases pre with
            | nil => simpa [colsOf] using h0 rfl
            | cons x l => exact h1 (by simp)
          rw [impl_ComposeGraphs_l0_eq, hc, l1_ok _ a2 _ _ pre _ _ _ _ _ (by omega) (by omega) hp hcs]
          simp
        · exact .inr hp
      | cons x suf ih =>
        intro c he h0 h1
        by_cases hp : ∀ x ∈ pre, x.length = colsOf a5
        · refine .inl ?_
          have hk : pre.length < a5.length := by rw [he]; simp
          have hx : a5[pre.length]? = some x := by rw [he]; simp
          rw [impl_ComposeGraphs_l0_eq, at_of hx, w64_nat (by omega)]
          cases hpre : pre with
          | nil =>
            have hcol : x.length = colsOf a5 := by rw [he, hpre]; rfl
            have := ih (pre ++ [x]) x.length (by simp [he]) (by simp) (by simp [hcol])
            rcases this with this | this
            · rw [List.length_append, List.length_singleton] at this
              subst hpre
              have h00 : ((([] : List (List Int)).length : Int) == 0) = true := rfl
              simp only [h00, beq_self_eq_true, Bool.not_true, cond_false, cond_true, Int.ofNat_lt, hk, decide_true]
              rw [this]
              simp [hcol]
            · exact absurd (fun y hy => by rcases List.mem_append.1 hy with hy | hy; exact hp y hy; simp at hy; rw [hy]; exact hcol) this
          | cons p ps =>
            have hc : c = (colsOf a5 : Int) := h1 (by simp [hpre])
            have hne : (((p :: ps).length : Int) == 0) = false := by simp; omega
            rw [← hpre] at hne ⊢
            simp only [hne, cond_false, Int.ofNat_lt, hk, decide_true, cond_true]
            by_cases hcol : x.length = colsOf a5
            · have h3 : ((x.length : Int) == c) = true := by simp [hc, hcol]
              have := ih (pre ++ [x]) c (by simp [he]) (by simp) (fun _ => hc)
              rcases this with this | this
              · rw [List.length_append, List.length_singleton] at this
                simp only [h3, Bool.not_true, cond_false]
                rw [this]
                simp [hcol]
              · exact absurd (fun y hy => by rcases List.mem_append.1 hy with hy | hy; exact hp y hy; simp at hy; rw [hy]; exact hcol) this
            · have h3 : ((x.length : Int) == c) = false := by simp [hc]; omega
              simp [h3, hcol]
        · exact .inr hp
    rcases key [] a5 0 rfl (fun _ => rfl) (fun h => absurd rfl h) with k | k
    · have k' : impl_ComposeGraphs_l0 0 a5 (a5.length : Int) 0 a0 a1 a2 a3 a4 a5 [] [] [] = _ := k
      rw [k', compG]
      simp [hn]
    · exact absurd (fun x hx => by simp at hx) k
  · have hn' : (a1 == a3) = false := by simp [hn]
    simp [hn', compG, hn]
theorem spec_l21Step_ok (row : List Int) (j : Nat) (a1 a2 : List UInt8) (h : List (List Int)) (hl : row.length = h.length) (hs : row.length ≤ 1048576) {c : Nat} (hc : ∀ x ∈ h, x.length = c) (hj : j < c) : spec_l21Step row a1 a2 h j = some (cellC row h j 0) := by
  rw [spec_l21Step_eq]
  have := loopD row (fun k s => ∀ r : Int, spec_l21Step_l0 row j r k a1 a2 h = some (cellC s (h.drop k) j r))
    (fun r => by rw [spec_l21Step_l0_eq]; simp [cellC]) (fun k e suf hd he hk ih r => by
      have hb : k < h.length := by omega
      have hx := hc _ (List.getElem_mem hb)
      have hg : h[k][j]? = some (h[k][j]'(by omega)) := List.getElem?_eq_getElem (by omega)
      have hd2 : h[k].getD j 0 = h[k][j]'(by omega) := by simp [List.getD, hg]
      rw [spec_l21Step_l0_eq, at_of he, at_of (List.getElem?_eq_getElem hb), at_of hg, w64_nat (by omega), List.drop_eq_getElem_cons hb, cellC, hd2]
      generalize hy : (h[k][j]'(by omega) : Int) = y
      simp only [ih, spec_l1Max_eq, Int.ofNat_lt, hk, decide_true, cond_true]
      by_cases h0 : e = 0
      · have : (e == 0) = true := by simp [h0]
        simp [this, stepC, h0]
      · have h0' : (e == 0) = false := by simp [h0]
        by_cases h1 : y = 0
        · have : (y == 0) = true := by simp [h1]
          simp [this, stepC, h1]
        · have h1' : (y == 0) = false := by simp [h1]
          simp only [h0', h1', Bool.not_false, cond_true]
          have hm : (cond (decide ((1 : Int) < r)) (some r) (some 1)) = some (max_ r 1) := by
            unfold max_
            by_cases h4 : 1 < r
            · rw [if_neg (by omega)]; simp [h4]
            · by_cases h5 : 1 > r
              · rw [if_pos h5]; simp [h4]
              · rw [if_neg h5]; simp [h4]; omega
          rw [hm, Option.bind_some]
          by_cases h2 : e = 2
          · have : (e == 2) = true := by simp [h2]
            simp [this, stepC, h1, h2]
          · have h2' : (e == 2) = false := by simp [h2]
            by_cases h3 : y = 2
            · have : (y == 2) = true := by simp [h3]
              simp [this, h2', stepC, h0, h3]
            · have h3' : (y == 2) = false := by simp [h3]
              simp [h2', h3', stepC, h0, h1, h2, h3])
  simpa using this 0
theorem spec_l1_ok (k : Nat) (a2 a3 : List UInt8) (g : List (List Int)) (a5 a6 : List UInt8) (h : List (List Int)) (a8 a9 : List UInt8) (a10 : List (List Int)) (a11 a12 : List UInt8) (acc : List (List Int)) {row : List Int} (hk : g[k]? = some row)
    (hl : row.length = h.length) (hs : row.length ≤ 1048576) (hc : ∀ x ∈ h, x.length = colsOf h) (hcs : colsOf h ≤ 1048576) (ha : acc.length + 1 ≤ 1073741824) :
    spec_ComposeGraphs_l1 k 0 a2 a3 g a5 a6 h a8 a9 a10 a11 a12 acc [] = spec_ComposeGraphs_l0 (w64 ((k : Int) + 1)) a2 a3 g a5 a6 h a8 a9 a10 a11 a12 (acc ++ [rowC row h (List.replicate (colsOf h) 0)]) := by
  have hrow : rowC row h (List.replicate (colsOf h) 0) = (List.range (colsOf h)).map fun j => cellC row h j 0 := by
    apply List.ext_getElem?
    intro j
    have hlen := rowC_len row h (List.replicate (colsOf h) 0) (colsOf h) hc (by simp)
    by_cases hj : j < colsOf h
    · rw [rowC_get row h _ (colsOf h) j hc (by simp) hj]
      simp [hj, List.getD]
    · rw [List.getElem?_eq_none (by omega), List.getElem?_eq_none (by simp; omega)]
  have key : ∀ n j, j + n = colsOf h → spec_ComposeGraphs_l1 k (j : Int) a2 a3 g a5 a6 h a8 a9 a10 a11 a12 acc ((List.range j).map fun j => cellC row h j 0) = spec_ComposeGraphs_l0 (w64 ((k : Int) + 1)) a2 a3 g a5 a6 h a8 a9 a10 a11 a12 (acc ++ [rowC row h (List.replicate (colsOf h) 0)]) := by
    intro n
    induction n with
    | zero =>
      intro j hj
      have hj : j = colsOf h := by omega
      subst hj
      rw [spec_ComposeGraphs_l1_eq, hrow]
      cases h with
      | nil => rw [app_of (by simpa using ha)]; simp [colsOf]
      | cons x l =>
        rw [at_zero]
        rw [app_of (by simpa using ha)]
        simp [colsOf]
    | succ n ih =>
      intro j hj
      have hjc : j < colsOf h := by omega
      cases h with
      | nil => simp [colsOf] at hjc
      | cons x l =>
        have hx : x.length = colsOf (x :: l) := rfl
        rw [spec_ComposeGraphs_l1_eq, at_zero, at_of hk, spec_l21Step_ok row j _ _ _ hl hs hc hjc, Option.bind_some, app_of (by simp; omega), w64_nat (by omega)]
        have := ih (j + 1) (by omega)
        rw [List.range_succ, List.map_append] at this
        simp only [List.map_cons, List.map_nil] at this
        rw [this]
        simp only [hx, Int.ofNat_lt, hjc, decide_true, cond_true, List.length_cons, Int.natCast_add, Int.natCast_one]
        have : (0 : Int) < (l.length : Int) + 1 := by omega
        simp [this]
  simpa using key (colsOf h) 0 (by omega)
theorem spec_ComposeGraphs_of {a0 a1 : List UInt8} {a2 : List (List Int)} {a3 a4 : List UInt8} {a5 : List (List Int)} (l2 : a2.length ≤ 1048576) (l5 : a5.length ≤ 1048576) (m5 : ∀ x ∈ a5, x.length ≤ 1048576) :
    spec_ComposeGraphs a0 a1 a2 a3 a4 a5 = some (compG a0 a1 a2 a3 a4 a5) := by
  have hcs : colsOf a5 ≤ 1048576 := by
    cases a5 with
    | nil => simp [colsOf]
    | cons x l => exact m5 x (by simp)
  have fit1 : spec_l21Fit_l1 0 a0 a1 a2 a3 a4 a5 = some (decide (∀ x ∈ a5, x.length = colsOf a5) && (a1 == a3)) := by
    have := loopD a5 (fun k s => spec_l21Fit_l1 (k : Int) a0 a1 a2 a3 a4 a5 = some (decide (∀ x ∈ s, x.length = colsOf a5) && (a1 == a3))) (by rw [spec_l21Fit_l1_eq]; simp) (fun k e suf hd he hk ih => by
      have h0 : a5[0]? = some (a5[0]'(by omega)) := List.getElem?_eq_getElem (by omega)
      have hcol : (a5[0]'(by omega)).length = colsOf a5 := by
        cases a5 with
        | nil => simp at hk
        | cons x l => rfl
      rw [spec_l21Fit_l1_eq, at_of he, show (0 : Int) = ((0 : Nat) : Int) from rfl, at_of h0, w64_nat (by omega), ih, hcol]
      by_cases h1 : e.length = colsOf a5
      · have h3 : ((e.length : Int) == (colsOf a5 : Int)) = true := by simp; omega
        simp [hk, h3, h1]
      · have h3 : ((e.length : Int) == (colsOf a5 : Int)) = false := by simp; omega
        simp [hk, h3, h1])
    simpa using this
  have fit : spec_l21Fit a0 a1 a2 a3 a4 a5 = some (decide (∀ x ∈ a2, x.length = a5.length) && (decide (∀ x ∈ a5, x.length = colsOf a5) && (a1 == a3))) := by
    rw [spec_l21Fit_eq]
    have := loopD a2 (fun k s => spec_l21Fit_l0 (k : Int) a0 a1 a2 a3 a4 a5 = some (decide (∀ x ∈ s, x.length = a5.length) && (decide (∀ x ∈ a5, x.length = colsOf a5) && (a1 == a3)))) (by rw [spec_l21Fit_l0_eq, fit1]; simp) (fun k e suf hd he hk ih => by
      rw [spec_l21Fit_l0_eq, at_of he, w64_nat (by omega), ih]
      by_cases h1 : e.length = a5.length
      · have h3 : ((e.length : Int) == (a5.length : Int)) = true := by simp; omega
        simp [hk, h3, h1]
      · have h3 : ((e.length : Int) == (a5.length : Int)) = false := by simp; omega
        simp [hk, h3, h1])
    simpa using this
  rw [spec_ComposeGraphs_eq, fit, Option.bind_some, compG]
  by_cases hn : a1 = a3 ∧ (∀ x ∈ a5, x.length = colsOf a5) ∧ ∀ x ∈ a2, x.length = a5.length
  · obtain ⟨hn1, hc, hg⟩ := hn
    have := loopD a2 (fun k s => ∀ acc : List (List Int), acc.length = k → spec_ComposeGraphs_l0 (k : Int) a0 a1 a2 a3 a4 a5 [] [] [] a0 a4 acc = some (a0, a4, acc ++ s.map fun row => rowC row a5 (List.replicate (colsOf a5) 0), true))
      (fun acc _ => by rw [spec_ComposeGraphs_l0_eq]; simp) (fun k e suf hd he hk ih acc ha => by
        have hrl := hg e (List.mem_of_getElem? he)
        rw [spec_ComposeGraphs_l0_eq, spec_l1_ok k _ _ _ _ _ a5 _ _ _ _ _ acc he hrl (by omega) hc hcs (by omega), w64_nat (by omega), ih _ (by simp [ha])]
        simp [hk])
    have := this [] rfl
    rw [if_pos ⟨hn1, hc, hg⟩]
    have e1 : (decide (∀ x ∈ a2, x.length = a5.length) && (decide (∀ x ∈ a5, x.length = colsOf a5) && (a1 == a3))) = true := by
      rw [decide_eq_true hg, decide_eq_true hc]; simp [hn1]
    rw [e1]
    simpa using this
  · rw [if_neg hn]
    have e1 : (decide (∀ x ∈ a2, x.length = a5.length) && (decide (∀ x ∈ a5, x.length = colsOf a5) && (a1 == a3))) = false := by
      rw [Bool.eq_false_iff]
      intro h
      simp only [Bool.and_eq_true, decide_eq_true_eq, beq_iff_eq] at h
      exact hn ⟨h.2.2, h.2.1, h.1⟩
    rw [e1]
    rfl
theorem lens_of {l : List (List Int)} (h : size l ≤ 1048576) : l.length ≤ 1048576 ∧ ∀ x ∈ l, x.length ≤ 1048576 := ⟨by have := len_size l; omega, fun x hx => by have := size_elem hx; omega⟩
end Go.Proofs.Ytoingpfepfhgkae.X
namespace Go.Proofs.Ytoingpfepfhgkae.X
open Go Go.Proofs.Ytoingpfepfhgkae.TM
open Go.Proofs.Ytoingpfepfhgkae.TM.Dat (size okd inr)
abbrev G3 := List UInt8 × List UInt8 × List (List Int)
def hasG (l : List G3) (a1 a2 : List UInt8) (a3 : List (List Int)) : Bool := l.any fun x => graphEq x.1 x.2.1 x.2.2 a1 a2 a3
def okG (g : G3) : Prop := g.2.2.length ≤ 1048576 ∧ ∀ x ∈ g.2.2, x.length ≤ 1048576
theorem okG.okd {g : G3} (h : okG g) : okd g.2.2 := ⟨by have := h.1; omega, fun x hx => ⟨by have := h.2 x hx; omega, fun _ _ => trivial⟩⟩
theorem spec_l22Has_ok {l : List G3} {a1 a2 : List UInt8} {a3 : List (List Int)} (h : ∀ x ∈ l, okG x) (hl : l.length ≤ 1073741824) : spec_l22Has l a1 a2 a3 = some (hasG l a1 a2 a3) := by
  rw [spec_l22Has_eq]
  exact anyLoop (F := fun i => spec_l22Has_l0 l i a1 a2 a3) (fun i => spec_l22Has_l0_eq l i a1 a2 a3) (fun x hx => spec_EqualGraph_ok (h x hx).okd) (by omega)
theorem graphEq_comm (a0 a1 : List UInt8) (a2 : List (List Int)) (a3 a4 : List UInt8) (a5 : List (List Int)) : graphEq a0 a1 a2 a3 a4 a5 = graphEq a3 a4 a5 a0 a1 a2 := by
  unfold graphEq
  simp only [beqD, eq_comm]
theorem impl_hasGraph_ok {l : List G3} {a1 a2 : List UInt8} {a3 : List (List Int)} (h : okG (a1, a2, a3)) (hl : l.length ≤ 1073741824) : impl_hasGraph l a1 a2 a3 = some (hasG l a1 a2 a3) := by
  rw [impl_hasGraph_eq, slices_ContainsFunc_eq, slices_IndexFunc_eq]
  have := idxLoop (F := fun i => slices_IndexFunc_l0 l a1 a2 a3 l.length i) (p := fun x => graphEq x.1 x.2.1 x.2.2 a1 a2 a3) (fun i => slices_IndexFunc_l0_eq l a1 a2 a3 _ i) (fun x hx => by rw [impl_hasGraph_1_eq, impl_EqualGraph_ok h.okd, Option.bind_some, graphEq_comm]) (by omega)
  exact (congrArg (fun r => Option.bind r fun x0 => some x0) this).trans rfl
def seed : List G3 → List G3 → List G3
  | [], l => l
  | y :: ys, l => if hasG l y.1 y.2.1 y.2.2 then seed ys l else seed ys (l ++ [y])
def pass (x : G3) : List G3 → List G3 → List G3
  | [], l => l
  | y :: ys, l => match compG x.1 x.2.1 x.2.2 y.1 y.2.1 y.2.2 with
    | (a, b, c, true) => if hasG l a b c then pass x ys l else pass x ys (l ++ [(a, b, c)])
    | (_, _, _, false) => pass x ys l
def clos (data : List G3) : Nat → Nat → List G3 → List G3 × Bool
  | 0, _, l => if l.length ≤ 60 then (l, true) else ([], false)
  | n + 1, k, l => match l[k]? with
    | some x => if l.length ≤ 60 then clos data n (k + 1) (pass x data l) else ([], false)
    | none => if l.length ≤ 60 then (l, true) else ([], false)
theorem compG_ok {a0 a1 : List UInt8} {a2 : List (List Int)} {a3 a4 : List UInt8} {a5 : List (List Int)} (h2 : a2.length ≤ 1048576) (h5 : ∀ x ∈ a5, x.length ≤ 1048576) :
    okG ((compG a0 a1 a2 a3 a4 a5).1, (compG a0 a1 a2 a3 a4 a5).2.1, (compG a0 a1 a2 a3 a4 a5).2.2.1) := by
  unfold compG
  split
  · rename_i h
    refine ⟨by simpa using h2, fun x hx => ?_⟩
    simp only [List.mem_map] at hx
    obtain ⟨row, _, rfl⟩ := hx
    rw [rowC_len row a5 _ (colsOf a5) h.2.1 (by simp)]
    cases a5 with
    | nil => simp [colsOf]
    | cons x l => exact h5 x (by simp)
  · exact ⟨by simp, by simp⟩
theorem pass_ok {x : G3} (hx : okG x) : ∀ {ys : List G3} {l : List G3}, (∀ y ∈ ys, okG y) → (∀ g ∈ l, okG g) → (∀ g ∈ pass x ys l, okG g) ∧ (pass x ys l).length ≤ l.length + ys.length ∧ ∃ m, pass x ys l = l ++ m
  | [], l, _, hl => ⟨hl, by simp [pass], [], by simp [pass]⟩
  | y :: ys, l, hy, hl => by
    have hc := compG_ok (a0 := x.1) (a1 := x.2.1) (a2 := x.2.2) (a3 := y.1) (a4 := y.2.1) (a5 := y.2.2) hx.1 (hy y (by simp)).2
    rw [pass]
    split
    · rename_i a b c he
      rw [he] at hc
      split
      · obtain ⟨h1, h2, h3⟩ := pass_ok hx (ys := ys) (l := l) (fun z hz => hy z (by simp [hz])) hl
        exact ⟨h1, by simp only [List.length_cons]; omega, h3⟩
      · obtain ⟨h1, h2, m, h3⟩ := pass_ok hx (ys := ys) (l := l ++ [(a, b, c)]) (fun z hz => hy z (by simp [hz])) (fun g hg => by
          rcases List.mem_append.1 hg with hg | hg
          · exact hl g hg
          · simp at hg; rw [hg]; exact hc)
        exact ⟨h1, by simp only [List.length_cons, List.length_append, List.length_nil] at *; omega, [(a, b, c)] ++ m, by rw [h3, List.append_assoc]⟩
    · obtain ⟨h1, h2, h3⟩ := pass_ok hx (ys := ys) (l := l) (fun z hz => hy z (by simp [hz])) hl
      exact ⟨h1, by simp only [List.length_cons]; omega, h3⟩
theorem impl_l2_ok {data : List G3} (hd : ∀ y ∈ data, okG y) (hn : data.length ≤ 1048576) (k : Nat) (n : Int) (b : Bool) {x : G3} (hx : okG x) {l : List G3} (hk : l[k]? = some x) (hl : ∀ g ∈ l, okG g) (hs : l.length ≤ 1048576) :
    impl_CloseGraphs_l2 data k n b data data.length 0 l = impl_CloseGraphs_l1 data (w64 ((k : Int) + 1)) (pass x data l) := by
  have := loopD data (fun j s => ∀ l : List G3, l[k]? = some x → (∀ g ∈ l, okG g) → l.length ≤ 1048576 + j → impl_CloseGraphs_l2 data k n b data data.length (j : Int) l = impl_CloseGraphs_l1 data (w64 ((k : Int) + 1)) (pass x s l))
    (fun l hk hl hs => by rw [impl_CloseGraphs_l2_eq]; simp [pass]) (fun j y suf hdr hy hj ih l hk hl hs => by
      have oy := hd y (List.mem_of_getElem? hy)
      have hc := compG_ok (a0 := x.1) (a1 := x.2.1) (a2 := x.2.2) (a3 := y.1) (a4 := y.2.1) (a5 := y.2.2) hx.1 oy.2
      rw [impl_CloseGraphs_l2_eq, at_of hy, at_of hk, atN_of hk, atN_of hk, impl_ComposeGraphs_of hx.1 oy.1 oy.2, Option.bind_some, w64_nat (by omega), pass]
      simp only [Int.ofNat_lt, hj, decide_true, cond_true]
      rcases hcg : compG x.1 x.2.1 x.2.2 y.1 y.2.1 y.2.2 with ⟨a, b', c, d⟩
      rw [hcg] at hc
      cases d with
      | false => simp only [cond_false]; exact ih l hk hl (by omega)
      | true =>
        simp only [cond_true]
        rw [impl_hasGraph_ok hc (by omega), Option.bind_some]
        cases hh : hasG l a b' c with
        | true => simp only [Bool.not_true, cond_false, if_true]; exact ih l hk hl (by omega)
        | false =>
          simp only [Bool.not_false, cond_true, Bool.false_eq_true, if_false]
          rw [app_of (by simp; omega)]
          have hkl : k < l.length := by
            rcases Nat.lt_or_ge k l.length with h | h
            · exact h
            · simp [List.getElem?_eq_none h] at hk
          exact ih _ (by rw [List.getElem?_append_left hkl]; exact hk) (fun g hg => by
            rcases List.mem_append.1 hg with hg | hg
            · exact hl g hg
            · simp at hg; rw [hg]; exact hc) (by simp; omega))
  simpa using this l hk hl (by omega)
theorem spec_l2_ok {data : List G3} (hd : ∀ y ∈ data, okG y) (hn : data.length ≤ 1048576) (k : Nat) (n : Int) (b : Bool) {x : G3} (hx : okG x) {l : List G3} (hk : l[k]? = some x) (hl : ∀ g ∈ l, okG g) (hs : l.length ≤ 1048576) :
    spec_CloseGraphs_l2 data k 0 n b l = spec_CloseGraphs_l1 data (w64 ((k : Int) + 1)) (pass x data l) := by
  have := loopD data (fun j s => ∀ l : List G3, l[k]? = some x → (∀ g ∈ l, okG g) → l.length ≤ 1048576 + j → spec_CloseGraphs_l2 data k (j : Int) n b l = spec_CloseGraphs_l1 data (w64 ((k : Int) + 1)) (pass x s l))
    (fun l hk hl hs => by rw [spec_CloseGraphs_l2_eq]; simp [pass]) (fun j y suf hdr hy hj ih l hk hl hs => by
      have oy := hd y (List.mem_of_getElem? hy)
      have hc := compG_ok (a0 := x.1) (a1 := x.2.1) (a2 := x.2.2) (a3 := y.1) (a4 := y.2.1) (a5 := y.2.2) hx.1 oy.2
      rw [spec_CloseGraphs_l2_eq, at_of hk, atN_of hk, at_of hy, atN_of hk, spec_ComposeGraphs_of hx.1 oy.1 oy.2, Option.bind_some, w64_nat (by omega), pass]
      simp only [Int.ofNat_lt, hj, decide_true, cond_true]
      rcases hcg : compG x.1 x.2.1 x.2.2 y.1 y.2.1 y.2.2 with ⟨a, b', c, d⟩
      rw [hcg] at hc
      cases d with
      | false => simp only [cond_false]; exact ih l hk hl (by omega)
      | true =>
        simp only [cond_true]
        rw [spec_l22Has_ok hl (by omega), Option.bind_some]
        cases hh : hasG l a b' c with
        | true => simp only [Bool.not_true, cond_false, if_true]; exact ih l hk hl (by omega)
        | false =>
          simp only [Bool.not_false, cond_true, Bool.false_eq_true, if_false]
          rw [app_of (by simp; omega)]
          have hkl : k < l.length := by
            rcases Nat.lt_or_ge k l.length with h | h
            · exact h
            · simp [List.getElem?_eq_none h] at hk
          exact ih _ (by rw [List.getElem?_append_left hkl]; exact hk) (fun g hg => by
            rcases List.mem_append.1 hg with hg | hg
            · exact hl g hg
            · simp at hg; rw [hg]; exact hc) (by simp; omega))
  simpa using this l hk hl (by omega)
theorem impl_c1_ok {data : List G3} (hd : ∀ y ∈ data, okG y) (hn : data.length ≤ 1048576) : ∀ (n k : Nat) (l : List G3), 61 ≤ k + n → (∀ g ∈ l, okG g) → impl_CloseGraphs_l1 data k l = some (clos data n k l)
  | 0, k, l, hk, hl => by
    rw [impl_CloseGraphs_l1_eq, clos]
    by_cases h : l.length ≤ 60
    · have h1 : ¬ k < l.length := by omega
      have h2 : ¬ 60 < l.length := by omega
      simp [h1, h, show ¬ (60 : Int) < (l.length : Int) by omega]
    · have h3 : (60 : Int) < (l.length : Int) := by omega
      have h4 : ¬ (l.length : Int) ≤ 60 := by omega
      simp [h, h3, h4]
  | n + 1, k, l, hk, hl => by
    rw [impl_CloseGraphs_l1_eq, clos]
    cases hg : l[k]? with
    | none =>
      have h1 : ¬ k < l.length := fun h => by simp [List.getElem?_eq_getElem h] at hg
      by_cases h : l.length ≤ 60
      · simp [h1, h, show ¬ (60 : Int) < (l.length : Int) by omega]
      · simp [h1, h, show (60 : Int) < (l.length : Int) by omega]
    | some x =>
      have h1 : k < l.length := by
        rcases Nat.lt_or_ge k l.length with h | h
        · exact h
        · simp [List.getElem?_eq_none h] at hg
      have hx := hl x (List.mem_of_getElem? hg)
      by_cases h : l.length ≤ 60
      · obtain ⟨p1, p2, m, p3⟩ := pass_ok hx hd hl
        simp only [Int.ofNat_lt, h1, decide_true, cond_true, show (l.length : Int) ≤ 60 by omega, h, if_true]
        rw [impl_l2_ok hd (by omega) k _ _ hx hg hl (by omega), w64_nat (by omega)]
        exact impl_c1_ok hd hn n (k + 1) _ (by omega) p1
      · simp [h1, h, show (60 : Int) < (l.length : Int) by omega, show ¬ (l.length : Int) ≤ 60 by omega]
theorem spec_c1_ok {data : List G3} (hd : ∀ y ∈ data, okG y) (hn : data.length ≤ 1048576) : ∀ (n k : Nat) (l : List G3), 61 ≤ k + n → (∀ g ∈ l, okG g) → spec_CloseGraphs_l1 data k l = some (clos data n k l)
  | 0, k, l, hk, hl => by
    rw [spec_CloseGraphs_l1_eq, clos]
    by_cases h : l.length ≤ 60
    · have h1 : ¬ k < l.length := by omega
      have h2 : ¬ 60 < l.length := by omega
      simp [h1, h, show ¬ (60 : Int) < (l.length : Int) by omega]
    · have h3 : (60 : Int) < (l.length : Int) := by omega
      have h4 : ¬ (l.length : Int) ≤ 60 := by omega
      simp [h, h3, h4]
  | n + 1, k, l, hk, hl => by
    rw [spec_CloseGraphs_l1_eq, clos]
    cases hg : l[k]? with
    | none =>
      have h1 : ¬ k < l.length := fun h => by simp [List.getElem?_eq_getElem h] at hg
      by_cases h : l.length ≤ 60
      · simp [h1, h, show ¬ (60 : Int) < (l.length : Int) by omega]
      · simp [h1, h, show (60 : Int) < (l.length : Int) by omega]
    | some x =>
      have h1 : k < l.length := by
        rcases Nat.lt_or_ge k l.length with h | h
        · exact h
        · simp [List.getElem?_eq_none h] at hg
      have hx := hl x (List.mem_of_getElem? hg)
      by_cases h : l.length ≤ 60
      · obtain ⟨p1, p2, m, p3⟩ := pass_ok hx hd hl
        simp only [Int.ofNat_lt, h1, decide_true, cond_true, show (l.length : Int) ≤ 60 by omega, h, if_true]
        rw [spec_l2_ok hd (by omega) k _ _ hx hg hl (by omega), w64_nat (by omega)]
        exact spec_c1_ok hd hn n (k + 1) _ (by omega) p1
      · simp [h1, h, show (60 : Int) < (l.length : Int) by omega, show ¬ (l.length : Int) ≤ 60 by omega]
theorem both_same {α : Type} (x : Option α) : both_ x x = x := by unfold both_; simp
theorem slices_Clone_ok {l : List Int} (h : l.length ≤ 1073741824) : slices_Clone l = some l := by
  rw [slices_Clone_eq, app_of (by simpa using h)]
  cases l with
  | nil => simp [both_same]
  | cons x l => simp
theorem impl_copyGraph_ok {a0 a1 : List UInt8} {a2 : List (List Int)} (h : okG (a0, a1, a2)) : impl_copyGraph a0 a1 a2 = some (a0, a1, a2) := by
  rw [impl_copyGraph_eq]
  have h1 : a2.length ≤ 1048576 := h.1
  have := loopD a2 (fun k s => ∀ acc : List (List Int), acc.length = k → impl_copyGraph_l0 a2 a2.length (k : Int) [] [] [] a0 a1 acc = some (a0, a1, acc ++ s)) (fun acc _ => by rw [impl_copyGraph_l0_eq]; simp) (fun k x suf hd hx hk ih acc ha => by
    have h2 : x.length ≤ 1048576 := h.2 x (List.mem_of_getElem? hx)
    rw [impl_copyGraph_l0_eq, at_of hx, slices_Clone_ok (by omega), Option.bind_some, app_of (by simp; omega), w64_nat (by omega), ih _ (by simp [ha])]
    simp [hk])
  simpa using this [] rfl
theorem spec_l21Copy_ok {a0 a1 : List UInt8} {a2 : List (List Int)} (h : okG (a0, a1, a2)) : spec_l21Copy a0 a1 a2 = some (a0, a1, a2) := by
  rw [spec_l21Copy_eq]
  have h1 : a2.length ≤ 1048576 := h.1
  have := loopD a2 (fun k s => ∀ acc : List (List Int), acc.length = k → spec_l21Copy_l0 (k : Int) a0 a1 a2 [] [] [] a0 a1 acc = some (a0, a1, acc ++ s)) (fun acc _ => by rw [spec_l21Copy_l0_eq]; simp) (fun k x suf hd hx hk ih acc ha => by
    have h2 : x.length ≤ 1048576 := h.2 x (List.mem_of_getElem? hx)
    rw [spec_l21Copy_l0_eq, at_of hx, app_of (by simp; omega), app_of (by simp; omega), w64_nat (by omega), ih _ (by simp [ha])]
    simp [hk])
  simpa using this [] rfl
theorem seed_ok : ∀ {ys l : List G3}, (∀ y ∈ ys, okG y) → (∀ g ∈ l, okG g) → ∀ g ∈ seed ys l, okG g
  | [], _, _, hl => hl
  | y :: ys, l, hy, hl => by
    rw [seed]
    split
    · exact seed_ok (fun z hz => hy z (by simp [hz])) hl
    · exact seed_ok (fun z hz => hy z (by simp [hz])) fun g hg => by
        rcases List.mem_append.1 hg with hg | hg
        · exact hl g hg
        · simp at hg; rw [hg]; exact hy y (by simp)
def closure (data : List G3) : List G3 × Bool := clos data 61 0 (seed data [])
theorem impl_CloseGraphs_ok {data : List G3} (hd : ∀ y ∈ data, okG y) (hn : data.length ≤ 1048576) : impl_CloseGraphs data = some (closure data) := by
  rw [impl_CloseGraphs_eq]
  have := loopD data (fun j s => ∀ l : List G3, (∀ g ∈ l, okG g) → l.length ≤ j → impl_CloseGraphs_l0 data data data.length (j : Int) l = impl_CloseGraphs_l1 data 0 (seed s l))
    (fun l hl hs => by rw [impl_CloseGraphs_l0_eq]; simp [seed]) (fun j y suf hdr hy hj ih l hl hs => by
      have oy := hd y (List.mem_of_getElem? hy)
      rw [impl_CloseGraphs_l0_eq, at_of hy, impl_hasGraph_ok oy (by omega), Option.bind_some, w64_nat (by omega), seed]
      simp only [Int.ofNat_lt, hj, decide_true, cond_true]
      cases hh : hasG l y.1 y.2.1 y.2.2 with
      | true => simp only [Bool.not_true, cond_false, if_true]; exact ih l hl (by omega)
      | false =>
        simp only [Bool.not_false, cond_true, Bool.false_eq_true, if_false]
        rw [impl_copyGraph_ok oy, Option.bind_some, app_of (by simp; omega)]
        exact ih _ (fun g hg => by
          rcases List.mem_append.1 hg with hg | hg
          · exact hl g hg
          · simp at hg; rw [hg]; exact oy) (by simp; omega))
  have h0 := this [] (by simp) (by simp)
  exact h0.trans (impl_c1_ok hd hn 61 0 _ (by omega) (seed_ok hd (by simp)))
theorem spec_CloseGraphs_ok {data : List G3} (hd : ∀ y ∈ data, okG y) (hn : data.length ≤ 1048576) : spec_CloseGraphs data = some (closure data) := by
  rw [spec_CloseGraphs_eq]
  have := loopD data (fun j s => ∀ l : List G3, (∀ g ∈ l, okG g) → l.length ≤ j → spec_CloseGraphs_l0 data (j : Int) l = spec_CloseGraphs_l1 data 0 (seed s l))
    (fun l hl hs => by rw [spec_CloseGraphs_l0_eq]; simp [seed]) (fun j y suf hdr hy hj ih l hl hs => by
      have oy := hd y (List.mem_of_getElem? hy)
      rw [spec_CloseGraphs_l0_eq, at_of hy, spec_l22Has_ok hl (by omega), Option.bind_some, at_of hy, w64_nat (by omega), seed]
      simp only [Int.ofNat_lt, hj, decide_true, cond_true]
      cases hh : hasG l y.1 y.2.1 y.2.2 with
      | true => simp only [Bool.not_true, cond_false, if_true]; exact ih l hl (by omega)
      | false =>
        simp only [Bool.not_false, cond_true, Bool.false_eq_true, if_false]
        rw [spec_l21Copy_ok oy, Option.bind_some, app_of (by simp; omega)]
        exact ih _ (fun g hg => by
          rcases List.mem_append.1 hg with hg | hg
          · exact hl g hg
          · simp at hg; rw [hg]; exact oy) (by simp; omega))
  have h0 := this [] (by simp) (by simp)
  exact h0.trans (spec_c1_ok hd hn 61 0 _ (by omega) (seed_ok hd (by simp)))
end Go.Proofs.Ytoingpfepfhgkae.X
namespace Go.Proofs.Ytoingpfepfhgkae.X
open Go Go.Proofs.Ytoingpfepfhgkae.TM
open Go.Proofs.Ytoingpfepfhgkae.TM.Dat (size okd inr)
def hasDec : List (List Int) → Nat → Bool
  | [], _ => false
  | r :: l, k => r[k]? == some 2 || hasDec l (k + 1)
theorem impl_HasDecrease_l0_ok {l : List (List Int)} (hl : l.length ≤ 1048576) : impl_HasDecrease_l0 l (l.length : Int) 0 = some (hasDec l 0) := by
  refine loopD l (fun k s => impl_HasDecrease_l0 l (l.length : Int) (k : Int) = some (hasDec s k)) (by rw [impl_HasDecrease_l0_eq]; simp [hasDec]) fun k x suf hd hx hk ih => ?_
  rw [impl_HasDecrease_l0_eq, at_of hx, w64_nat (by omega), ih, hasDec]
  by_cases h : k < x.length
  · rw [at_of (List.getElem?_eq_getElem h)]
    cases h2 : (x[k] == 2) <;> simp [hk, h, h2]
  · simp [hk, h]
theorem spec_HasDecrease_l0_ok {a b : List UInt8} {l : List (List Int)} (hl : l.length ≤ 1048576) : spec_HasDecrease_l0 0 a b l = some (hasDec l 0 || !(a == b)) := by
  refine loopD l (fun k s => spec_HasDecrease_l0 (k : Int) a b l = some (hasDec s k || !(a == b))) (by rw [spec_HasDecrease_l0_eq]; simp [hasDec]) fun k x suf hd hx hk ih => ?_
  rw [spec_HasDecrease_l0_eq, at_of hx, at_of hx, w64_nat (by omega), ih, hasDec]
  by_cases h : k < x.length
  · rw [at_of (List.getElem?_eq_getElem h)]
    cases h2 : (x[k] == 2) <;> simp [hk, h, h2]
  · simp [hk, h]
def decG (g : G3) : Bool := hasDec g.2.2 0 || !(g.1 == g.2.1)
theorem impl_HasDecrease_ok {a b : List UInt8} {l : List (List Int)} (hl : l.length ≤ 1048576) : impl_HasDecrease a b l = some (decG (a, b, l)) := by
  rw [impl_HasDecrease_eq, impl_HasDecrease_l0_ok hl, decG]
  cases h : (a == b) <;> simp [h]
theorem spec_HasDecrease_ok {a b : List UInt8} {l : List (List Int)} (hl : l.length ≤ 1048576) : spec_HasDecrease a b l = some (decG (a, b, l)) := by
  rw [spec_HasDecrease_eq, spec_HasDecrease_l0_ok hl, decG]
def idemG (g : G3) : Bool := let c := compG g.1 g.2.1 g.2.2 g.1 g.2.1 g.2.2; c.2.2.2 && graphEq g.1 g.2.1 g.2.2 c.1 c.2.1 c.2.2.1
theorem spec_IsIdempotent_ok {g : G3} (h : okG g) : spec_IsIdempotent g.1 g.2.1 g.2.2 = some (idemG g) := by
  rw [spec_IsIdempotent_eq, spec_ComposeGraphs_of h.1 h.1 h.2]
  simp only [Option.bind_some, spec_EqualGraph_ok h.okd, and_cond, idemG]
theorem impl_IsIdempotent_ok {g : G3} (h : okG g) : impl_IsIdempotent g.1 g.2.1 g.2.2 = some (idemG g) := by
  rw [impl_IsIdempotent_eq, impl_ComposeGraphs_of h.1 h.1 h.2]
  simp only [Option.bind_some, impl_EqualGraph_ok h.okd, and_cond, idemG]
  by_cases hn : g.1 = g.2.1
  · simp [hn]
  · have : compG g.1 g.2.1 g.2.2 g.1 g.2.1 g.2.2 = ([], [], [], false) := by rw [compG, if_neg (fun e => hn e.1.symm)]
    rw [this]
    simp
def critG (g : G3) : Bool := idemG g && !decG g
theorem clos_len (data : List G3) : ∀ n k l, (clos data n k l).1.length ≤ 60
  | 0, k, l => by rw [clos]; split <;> simp [*]
  | n + 1, k, l => by
    rw [clos]
    split
    · split
      · exact clos_len data n _ _
      · simp
    · split <;> simp [*]
theorem clos_ok {data : List G3} (hd : ∀ y ∈ data, okG y) : ∀ n k l, (∀ g ∈ l, okG g) → ∀ g ∈ (clos data n k l).1, okG g
  | 0, k, l, hl => by rw [clos]; split <;> simp [hl]; exact fun a b c => hl (a, b, c)
  | n + 1, k, l, hl => by
    rw [clos]
    split
    · rename_i x hx
      split
      · exact clos_ok hd n _ _ (pass_ok (hl x (List.mem_of_getElem? hx)) hd hl).1
      · simp
    · split
      · exact hl
      · simp
theorem closure_ok {data : List G3} (hd : ∀ y ∈ data, okG y) : (closure data).1.length ≤ 60 ∧ ∀ g ∈ (closure data).1, okG g :=
  ⟨clos_len _ _ _ _, clos_ok hd _ _ _ (seed_ok hd (by simp))⟩
def firstC : List G3 → List UInt8 × List UInt8 × List (List Int) × Bool
  | [] => ([], [], [], false)
  | g :: l => if critG g then (g.1, g.2.1, g.2.2, true) else firstC l
theorem spec_firstC {l : List G3} (h : ∀ g ∈ l, okG g) (hl : l.length ≤ 1048576) : spec_CriticalGraph_l0 0 [] [] [] l = some (firstC l) := by
  refine loopD l (fun k s => spec_CriticalGraph_l0 (k : Int) [] [] [] l = some (firstC s)) (by rw [spec_CriticalGraph_l0_eq]; simp [firstC]) fun k x suf hd hx hk ih => ?_
  have ox := h x (List.mem_of_getElem? hx)
  have e1 : spec_IsIdempotent x.1 x.2.1 x.2.2 = some (idemG x) := spec_IsIdempotent_ok ox
  have e2 : spec_HasDecrease x.1 x.2.1 x.2.2 = some (decG x) := spec_HasDecrease_ok ox.1
  have e3 : spec_l21Copy x.1 x.2.1 x.2.2 = some (x.1, x.2.1, x.2.2) := spec_l21Copy_ok ox
  rw [spec_CriticalGraph_l0_eq]
  simp only [at_of hx, atN_of hx, e1, e2, e3, Option.bind_some, w64_nat (show k < 9223372036854775807 by omega), ih, Int.ofNat_lt, hk, decide_true, cond_true]
  rw [firstC, critG]
  cases idemG x <;> cases decG x <;> simp
end Go.Proofs.Ytoingpfepfhgkae.X
namespace Go.Proofs.Ytoingpfepfhgkae.X
open Go Go.Proofs.Ytoingpfepfhgkae.TM
open Go.Proofs.Ytoingpfepfhgkae.TM.Dat (size okd inr)
theorem getm {α : Type} (pre : List α) (e : α) (suf : List α) : (pre ++ e :: suf)[pre.length]? = some e := by simp
theorem setm {α : Type} (pre : List α) (e e' : α) (suf : List α) : (pre ++ e :: suf).set pre.length e' = pre ++ e' :: suf := by simp
theorem ltm {α : Type} (pre : List α) (e : α) (suf : List α) : decide ((pre.length : Int) < ((pre ++ e :: suf).length : Int)) = true := by simp; omega
theorem nltm {α : Type} (l : List α) : decide ((l.length : Int) < (l.length : Int)) = false := by simp
theorem markList {α : Type} {F : Int → Int → List α → Option (List α × Int)} {H : List α → Int → Int → Option Int} {wt : α → Nat} (ok : α → Prop)
    (hF1 : ∀ k l, F k (l.length : Int) l = some (l, k)) (hH1 : ∀ l k, H l k (l.length : Int) = some k)
    (hFe : ∀ (pre : List α) (e : α) (suf : List α) (k : Int), ok e → pre.length < 4611686018427387904 → 0 ≤ k → k + wt e ≤ 4611686018427387904 → ∃ e', F k (pre.length : Int) (pre ++ e :: suf) = F (k + wt e) ((pre.length + 1 : Nat) : Int) (pre ++ e' :: suf) ∧ ∀ pre' suf' : List α, pre'.length = pre.length → H (pre' ++ e' :: suf') k (pre'.length : Int) = H (pre' ++ e' :: suf') (k + wt e) ((pre'.length + 1 : Nat) : Int)) :
    ∀ (l : List α) (k : Int), (∀ x ∈ l, ok x) → 0 ≤ k → k + (sums (l.map wt) : Nat) ≤ 4611686018427387904 → l.length ≤ 4611686018427387904 → ∃ l', F k 0 l = some (l', k + (sums (l.map wt) : Nat)) ∧ H l' k 0 = some (k + (sums (l.map wt) : Nat)) := by
  have key : ∀ (suf pre : List α) (k : Int), (∀ x ∈ suf, ok x) → 0 ≤ k → k + (sums (suf.map wt) : Nat) ≤ 4611686018427387904 → pre.length + suf.length ≤ 4611686018427387904 → ∃ suf' : List α, F k (pre.length : Int) (pre ++ suf) = some (pre ++ suf', k + (sums (suf.map wt) : Nat)) ∧ ∀ pre' : List α, pre'.length = pre.length → H (pre' ++ suf') k (pre'.length : Int) = some (k + (sums (suf.map wt) : Nat)) := by
    intro suf
    induction suf with
    | nil => intro pre k _ _ _ _; exact ⟨[], by simpa [sums] using hF1 k pre, fun pre' _ => by simpa [sums] using hH1 pre' k⟩
    | cons e suf ih =>
      intro pre k ho h0 h1 h2
      simp only [List.map_cons, sums, List.length_cons] at h1 h2 ⊢
      obtain ⟨e', q1, q2⟩ := hFe pre e suf k (ho e (by simp)) (by omega) h0 (by omega)
      obtain ⟨suf', q3, q4⟩ := ih (pre ++ [e']) (k + wt e) (fun x hx => ho x (by simp [hx])) (by omega) (by omega) (by simp; omega)
      refine ⟨e' :: suf', ?_, fun pre' hp => ?_⟩
      · rw [q1]
        rw [show (pre.length + 1 : Nat) = (pre ++ [e']).length by simp, show pre ++ e' :: suf = pre ++ [e'] ++ suf by simp, q3]
        simp only [List.append_assoc, List.singleton_append]
        congr 2
        omega
      · rw [q2 pre' suf' hp]
        have := q4 (pre' ++ [e']) (by simp [hp])
        rw [show (pre'.length + 1 : Nat) = (pre' ++ [e']).length by simp, show pre' ++ e' :: suf' = pre' ++ [e'] ++ suf' by simp, this]
        congr 1
        omega
  intro l k ho h0 h1 h2
  obtain ⟨l', q1, q2⟩ := key l [] k ho h0 h1 (by simpa using h2)
  exact ⟨l', by simpa using q1, by simpa using q2 [] rfl⟩
theorem markList1 {α : Type} {F : Int → Int → List α → Option (List α × Int)} {wt : α → Nat} (ok : α → Prop)
    (hF1 : ∀ k l, F k (l.length : Int) l = some (l, k))
    (hFe : ∀ (pre : List α) (e : α) (suf : List α) (k : Int), ok e → pre.length < 4611686018427387904 → 0 ≤ k → k + wt e ≤ 4611686018427387904 → ∃ e', F k (pre.length : Int) (pre ++ e :: suf) = F (k + wt e) ((pre.length + 1 : Nat) : Int) (pre ++ e' :: suf)) :
    ∀ (l : List α) (k : Int), (∀ x ∈ l, ok x) → 0 ≤ k → k + (sums (l.map wt) : Nat) ≤ 4611686018427387904 → l.length ≤ 4611686018427387904 → ∃ l', F k 0 l = some (l', k + (sums (l.map wt) : Nat)) := by
  have key : ∀ (suf pre : List α) (k : Int), (∀ x ∈ suf, ok x) → 0 ≤ k → k + (sums (suf.map wt) : Nat) ≤ 4611686018427387904 → pre.length + suf.length ≤ 4611686018427387904 → ∃ suf' : List α, F k (pre.length : Int) (pre ++ suf) = some (pre ++ suf', k + (sums (suf.map wt) : Nat)) := by
    intro suf
    induction suf with
    | nil => intro pre k _ _ _ _; exact ⟨[], by simpa [sums] using hF1 k pre⟩
    | cons e suf ih =>
      intro pre k ho h0 h1 h2
      simp only [List.map_cons, sums, List.length_cons] at h1 h2 ⊢
      obtain ⟨e', q1⟩ := hFe pre e suf k (ho e (by simp)) (by omega) h0 (by omega)
      obtain ⟨suf', q3⟩ := ih (pre ++ [e']) (k + wt e) (fun x hx => ho x (by simp [hx])) (by omega) (by omega) (by simp; omega)
      refine ⟨e' :: suf', ?_⟩
      rw [q1]
      rw [show (pre.length + 1 : Nat) = (pre ++ [e']).length by simp, show pre ++ e' :: suf = pre ++ [e'] ++ suf by simp, q3]
      simp only [List.append_assoc, List.singleton_append]
      congr 2
      omega
  intro l k ho h0 h1 h2
  obtain ⟨l', q1⟩ := key l [] k ho h0 h1 (by simpa using h2)
  exact ⟨l', by simpa using q1⟩
theorem w64_up {k : Int} (h0 : 0 ≤ k) (h : k ≤ 4611686018427387904) : w64 (k + 1) = k + 1 := w64_id (by omega) (by omega)
theorem w64_upn {n : Nat} (h : n < 4611686018427387904) : w64 ((n : Int) + 1) = ((n + 1 : Nat) : Int) := w64_nat (by omega)
def Marks {α : Type} (M : α → Int → Option (α × Int)) (H : α → Int → Option Int) (wt : α → Nat) (ok : α → Prop) : Prop :=
  ∀ (x : α) (k : Int), ok x → 0 ≤ k → k + (wt x : Int) ≤ 4611686018427387904 → ∃ y : α, M x k = some (y, k + (wt x : Int)) ∧ H y k = some (k + (wt x : Int))
def wtI (l : List Int) : Nat := sums (l.map fun _ => 1)
theorem wtI_len (l : List Int) : wtI l = l.length := by
  unfold wtI
  induction l with
  | nil => rfl
  | cons x l ih => simp only [List.map_cons, sums, ih, List.length_cons]; omega
theorem mark_IntS : Marks laws_markIntS laws_heldIntS wtI (fun l => l.length ≤ 4611686018427387904) := by
  intro x k hx h0 h1
  have := markList (F := fun k i l => laws_markIntS_l0 k i l) (H := fun l k i => laws_heldIntS_l0 l k i) (wt := fun _ => 1) (fun _ => True)
    (fun k l => by rw [laws_markIntS_l0_eq, nltm, cond_false]) (fun l k => by rw [laws_heldIntS_l0_eq, nltm, cond_false])
    (fun pre e suf k _ hp h0 h1 => ⟨k, by
      rw [laws_markIntS_l0_eq, ltm, cond_true, at_of (getm pre e suf), atN_of (getm pre e suf), atN_of (getm pre e suf), setm, w64_up h0 (by omega), w64_upn hp]; rfl, fun pre' suf' hl => by
      rw [laws_heldIntS_l0_eq, ltm, cond_true, at_of (getm pre' k suf'), w64_up h0 (by omega), w64_upn (by omega)]; simp⟩) x k (fun _ _ => trivial) h0 h1 hx
  obtain ⟨l', q1, q2⟩ := this
  exact ⟨l', by rw [laws_markIntS_eq]; exact q1, by rw [laws_heldIntS_eq]; exact q2⟩
def wtII (l : List (List Int)) : Nat := sums (l.map wtI)
def okII (l : List (List Int)) : Prop := l.length ≤ 4611686018427387904
theorem mark_IntSS : Marks laws_markIntSS laws_heldIntSS wtII okII := by
  intro x k hx h0 h1
  have := markList (F := fun k i l => laws_markIntSS_l0 k i l) (H := fun l k i => laws_heldIntSS_l0 l k i) (wt := wtI) (fun _ => True)
    (fun k l => by rw [laws_markIntSS_l0_eq, nltm, cond_false]) (fun l k => by rw [laws_heldIntSS_l0_eq, nltm, cond_false])
    (fun pre e suf k _ hp h0 h1 => by
      obtain ⟨e', q1, q2⟩ := mark_IntS e k (by have := wtI_len e; omega) h0 h1
      refine ⟨e', ?_, fun pre' suf' hl => ?_⟩
      · rw [laws_markIntSS_l0_eq, ltm, cond_true, at_of (getm pre e suf), atN_of (getm pre e suf), atN_of (getm pre e suf), q1, Option.bind_some, atN_of (getm pre e suf), setm, w64_upn hp]
      · rw [laws_heldIntSS_l0_eq, ltm, cond_true, at_of (getm pre' e' suf'), q2, Option.bind_some, w64_upn (by omega)]
        have : ¬ k + (wtI e : Int) < 0 := by omega
        simp [this]) x k (fun _ _ => trivial) h0 h1 hx
  obtain ⟨l', q1, q2⟩ := this
  exact ⟨l', by rw [laws_markIntSS_eq]; exact q1, by rw [laws_heldIntSS_eq]; exact q2⟩
theorem markText_l0_ex : ∀ (m : Nat) (k : Int) (out : List UInt8), 0 ≤ k → k < 10 ^ m → k ≤ 4611686018427387905 → out.length + m + 1 ≤ 1000 → ∃ t, laws_markText_l0 k out = some t := by
  intro m
  induction m with
  | zero =>
    intro k out h0 h1 _ h2
    have : k = 0 := by simp at h1; omega
    subst this
    rw [laws_markText_l0_eq]
    simp only [Int.lt_irrefl, decide_false, cond_false]
    unfold catS
    rw [if_pos (by simp; omega)]
    exact ⟨_, rfl⟩
  | succ m ih =>
    intro k out h0 h1 hb h2
    rw [laws_markText_l0_eq]
    unfold catS
    by_cases hk : 0 < k
    · simp only [hk, decide_true, cond_true]
      rw [if_pos (by simp [bytesI]; omega)]
      have hq : Int.tdiv k 10 = k / 10 := Int.tdiv_eq_ediv_of_nonneg h0
      rw [hq, w64_id (by omega) (by omega)]
      refine ih _ _ (by omega) ?_ (by omega) (by simp [bytesI]; omega)
      rw [Int.pow_succ] at h1
      omega
    · simp only [hk, decide_false, cond_false]
      rw [if_pos (by simp; omega)]
      exact ⟨_, rfl⟩
noncomputable def mt (k : Int) : List UInt8 := (laws_markText k).getD []
theorem markText_ok {k : Int} (h0 : 0 ≤ k) (h1 : k ≤ 4611686018427387905) : laws_markText k = some (mt k) := by
  have : ∃ t, laws_markText k = some t := by
    rw [laws_markText_eq]
    cases decide (k ≤ 0) with
    | true => exact ⟨_, rfl⟩
    | false => exact markText_l0_ex 20 k [] h0 (by omega) h1 (by simp)
  obtain ⟨t, h⟩ := this
  unfold mt
  rw [h]
  rfl
def wtG (g : List UInt8 × List UInt8 × List (List Int)) : Nat := 2 + wtII g.2.2
end Go.Proofs.Ytoingpfepfhgkae.X
namespace Go.Proofs.Ytoingpfepfhgkae.X
open Go Go.Proofs.Ytoingpfepfhgkae.TM
open Go.Proofs.Ytoingpfepfhgkae.TM.Dat (size okd inr)
theorem sums_mul {α : Type} {l : List α} {f : α → Nat} {B : Nat} (h : ∀ x ∈ l, f x ≤ B) : sums (l.map f) ≤ l.length * B := by
  induction l with
  | nil => simp [sums]
  | cons x l ih =>
    have h1 := h x (by simp)
    have h2 := ih fun y hy => h y (by simp [hy])
    simp only [List.map_cons, sums, List.length_cons, Nat.add_mul]
    omega
theorem wtG_le {g : G3} (h : okG g) : wtG g ≤ 2199023255552 := by
  have h1 : wtII g.2.2 ≤ g.2.2.length * 1048576 := sums_mul fun x hx => by rw [wtI_len]; exact h.2 x hx
  have h2 : g.2.2.length * 1048576 ≤ 1048576 * 1048576 := Nat.mul_le_mul_right _ h.1
  show 2 + wtII g.2.2 ≤ _
  omega
theorem wtGS_le {l : List G3} (h : ∀ g ∈ l, okG g) (hl : l.length ≤ 1048576) : sums (l.map wtG) ≤ 2305843009213693952 := by
  have h1 : sums (l.map wtG) ≤ l.length * 2199023255552 := sums_mul fun x hx => wtG_le (h x hx)
  have h2 : l.length * 2199023255552 ≤ 1048576 * 2199023255552 := Nat.mul_le_mul_right _ hl
  omega
theorem mark_GS1 {l : List G3} (h : ∀ g ∈ l, okG g) (hl : l.length ≤ 1048576) : ∃ (y : List G3) (n : Int), 0 ≤ n ∧ laws_markSizeGraphS l 1 = some (y, n) := by
  have hw := wtGS_le h hl
  have := markList1 (F := fun k i l => laws_markSizeGraphS_l0 k i l) (wt := wtG) (fun g => okII g.2.2)
    (fun k l => by rw [laws_markSizeGraphS_l0_eq, nltm, cond_false])
    (fun pre e suf k ho hp h0 h1 => by
      have hw : wtG e = 2 + wtII e.2.2 := rfl
      obtain ⟨e', q1, q2⟩ := mark_IntSS e.2.2 (k + 1 + 1) ho (by omega) (by omega)
      refine ⟨(mt k, mt (k + 1), e'), ?_⟩
      rw [laws_markSizeGraphS_l0_eq, ltm, cond_true, markText_ok h0 (by omega), Option.bind_some, at_of (getm pre e suf), atN_of (getm pre e suf), atN_of (getm pre e suf), setm, w64_up h0 (by omega), markText_ok (by omega) (by omega), Option.bind_some, at_of (getm pre _ suf), atN_of (getm pre _ suf), atN_of (getm pre _ suf), setm, at_of (getm pre _ suf), atN_of (getm pre _ suf), atN_of (getm pre _ suf), w64_up (by omega) (by omega)]
      simp only
      rw [q1, Option.bind_some, atN_of (getm pre _ suf), setm, w64_upn hp]
      simp only
      rw [hw]
      congr 1
      omega) l 1 (fun g hg => by have := (h g hg).1; show g.2.2.length ≤ _; omega) (by omega) (show (1 : Int) + ((sums (l.map wtG) : Nat) : Int) ≤ 4611686018427387904 by omega) (by omega)
  obtain ⟨y, m1⟩ := this
  exact ⟨y, 1 + ((sums (l.map wtG) : Nat) : Int), by omega, by rw [laws_markSizeGraphS_eq]; exact m1⟩
theorem okG_of {a0 : List G3} (s : size a0 ≤ 1048576) : (∀ y ∈ a0, okG y) ∧ a0.length ≤ 1048576 := by
  refine ⟨fun y hy => ?_, by have := len_size a0; omega⟩
  have h1 := size_mem hy
  obtain ⟨a, b, c⟩ := y
  simp only [size_prod] at h1
  have h2 : size c ≤ 1048576 := by omega
  exact lens_of h2
theorem eqG_self {g : G3} (h : okG g) : laws_eqSizeGraph g.1 g.2.1 g.2.2 g.1 g.2.1 g.2.2 = some true := by
  simp only [laws_eqSizeGraph_eq, laws_eqIntSS_self h.okd, Option.bind_some, beq_self_eq_true, Bool.not_true, cond_false]
theorem wtII_le {g : G3} (h : okG g) : wtII g.2.2 ≤ 1099511627776 := by
  have h1 : wtII g.2.2 ≤ g.2.2.length * 1048576 := sums_mul fun x hx => by rw [wtI_len]; exact h.2 x hx
  have h2 : g.2.2.length * 1048576 ≤ 1048576 * 1048576 := Nat.mul_le_mul_right _ h.1
  omega
theorem mark_SizeGraph {g : G3} (h : okG g) {k : Int} (h0 : 0 ≤ k) (h1 : k ≤ 1099511627780000) : ∃ y : List (List Int), laws_markSizeGraph g.1 g.2.1 g.2.2 k = some (g.1, g.2.1, y, k + (wtII g.2.2 : Int)) ∧ laws_heldSizeGraph g.1 g.2.1 y k = some (k + (wtII g.2.2 : Int)) := by
  have hw := wtII_le h
  obtain ⟨y, q1, q2⟩ := mark_IntSS g.2.2 k (by have := h.1; show g.2.2.length ≤ _; omega) h0 (by omega)
  refine ⟨y, ?_, ?_⟩
  · rw [laws_markSizeGraph_eq, q1, Option.bind_some]
  · rw [laws_heldSizeGraph_eq, q2, Option.bind_some]
    have : ¬ k + (wtII g.2.2 : Int) < 0 := by omega
    simp [this]
theorem impl_firstC {l : List G3} (h : ∀ g ∈ l, okG g) (hl : l.length ≤ 1048576) : impl_CriticalGraph_l0 (l.length : Int) 0 [] [] [] l = some (firstC l) := by
  refine loopD l (fun k s => impl_CriticalGraph_l0 (l.length : Int) (k : Int) [] [] [] l = some (firstC s)) (by rw [impl_CriticalGraph_l0_eq]; simp [firstC]) fun k x suf hd hx hk ih => ?_
  have ox := h x (List.mem_of_getElem? hx)
  have e1 : impl_IsIdempotent x.1 x.2.1 x.2.2 = some (idemG x) := impl_IsIdempotent_ok ox
  have e2 : impl_HasDecrease x.1 x.2.1 x.2.2 = some (decG x) := impl_HasDecrease_ok ox.1
  rw [impl_CriticalGraph_l0_eq]
  simp only [at_of hx, atN_of hx, e1, e2, Option.bind_some, w64_nat (show k < 9223372036854775807 by omega), ih, Int.ofNat_lt, hk, decide_true, cond_true]
  rw [firstC, critG]
  cases idemG x <;> cases decG x <;> simp
theorem firstC_ok : ∀ {l : List G3}, (∀ g ∈ l, okG g) → okG ((firstC l).1, (firstC l).2.1, (firstC l).2.2.1)
  | [], _ => ⟨by simp [firstC], by simp [firstC]⟩
  | g :: l, h => by
    rw [firstC]
    split
    · exact h g (by simp)
    · exact firstC_ok fun g hg => h g (by simp [hg])
def critOf (data : List G3) : List UInt8 × List UInt8 × List (List Int) × Bool := firstC (closure data).1
theorem impl_CriticalGraph_ok {data : List G3} (hd : ∀ y ∈ data, okG y) (hn : data.length ≤ 1048576) : impl_CriticalGraph data = some (critOf data) := by
  obtain ⟨c1, c2⟩ := closure_ok hd
  rw [impl_CriticalGraph_eq, impl_CloseGraphs_ok hd hn, Option.bind_some, impl_firstC c2 (by omega)]
  rfl
theorem spec_CriticalGraph_ok {data : List G3} (hd : ∀ y ∈ data, okG y) (hn : data.length ≤ 1048576) : spec_CriticalGraph data = some (critOf data) := by
  obtain ⟨c1, c2⟩ := closure_ok hd
  rw [spec_CriticalGraph_eq, spec_CloseGraphs_ok hd hn, Option.bind_some, spec_firstC c2 (by omega)]
  rfl
end Go.Proofs.Ytoingpfepfhgkae.X
namespace Go.Proofs.Ytoingpfepfhgkae.X
open Go Go.Proofs.Ytoingpfepfhgkae.TM
open Go.Proofs.Ytoingpfepfhgkae.TM.Dat (size okd inr)
theorem FnExactCriticalGraph_ok {a0 : List G3} (h : okd a0) (_ : inr a0) : laws_FnExactCriticalGraph a0 = some true := by
  rw [laws_FnExactCriticalGraph_eq]
  refine lawSz (by omega) (by omega) (laws_szSizeGraphS_ok h (by omega) (by omega)) fun s1 => ?_
  have s : size a0 ≤ 1048576 := by omega
  obtain ⟨hd, hn⟩ := okG_of s
  obtain ⟨c1, c2⟩ := closure_ok hd
  have or : okG ((critOf a0).1, (critOf a0).2.1, (critOf a0).2.2.1) := firstC_ok c2
  obtain ⟨y, n, p1, m1⟩ := mark_GS1 hd hn
  obtain ⟨y3, m3, m4⟩ := mark_SizeGraph or (k := 1) (by omega) (by omega)
  have e3 := eqG_self or
  simp only at m3 m4 e3
  have p2 : ¬ n < 0 := by omega
  have p3 : ¬ (1 + (wtII (critOf a0).2.2.1 : Int) < 0) := by omega
  simp only [laws_toSizeGraphS_ok s, spec_CriticalGraph_ok hd hn, impl_CriticalGraph_ok hd hn, Option.bind_some, e3, laws_eqSizeGraphS_self h, m1, m3, m4, p2, p3, decide_false, beq_self_eq_true, Bool.not_true, Bool.not_false, cond_false, cond_true]
end Go.Proofs.Ytoingpfepfhgkae.X
