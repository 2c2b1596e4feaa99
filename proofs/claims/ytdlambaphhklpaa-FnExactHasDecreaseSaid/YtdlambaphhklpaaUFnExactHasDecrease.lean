/- Plain lemmas on these equations. No condition. -/
import Derived.Test.YtdlambaphhklpaaEFnExactHasDecrease
import Derived.IntWalk
namespace Go.Proofs.Ytdlambaphhklpaa.TM
open Go
section
variable {ρ α β : Type}
theorem w64_id {n : Int} (h : -9223372036854775808 ≤ n) (h' : n ≤ 9223372036854775807) : w64 n = n := IntWalk.i64_in n ⟨h, h'⟩
theorem w64_nat {n : Nat} (h : n < 9223372036854775807) : w64 ((n : Int) + 1) = ((n + 1 : Nat) : Int) := by rw [w64_id (by omega) (by omega)]; rfl
theorem at_of {l : List α} {n : Nat} {x : α} (h : l[n]? = some x) (k : Nat → α → Option ρ) : at_ l (n : Int) k = k n x := by unfold at_; simp [h]
theorem atN_of {l : List α} {n : Nat} {x : α} (h : l[n]? = some x) (k : α → Option ρ) : atN l n k = k x := by unfold atN; simp [h]
theorem rep_of {n : Nat} {e : α} (h : n ≤ 1073741824) (k : List α → Option ρ) : rep_ (n : Int) e k = k (List.replicate n e) := by unfold rep_; rw [if_pos (by omega)]; rfl
theorem loopD (l : List α) (M : Nat → List α → Prop) (h0 : M l.length []) (h1 : ∀ k x suf, l.drop k = x :: suf → l[k]? = some x → k < l.length → M (k + 1) suf → M k (x :: suf)) : M 0 l := by
  have key : ∀ n k, k + n = l.length → M k (l.drop k) := by
    intro n
    induction n with
    | zero =>
      intro k hk
      have : k = l.length := by omega
      subst this
      rw [List.drop_length]
      exact h0
    | succ n ih =>
      intro k hk
      have hlt : k < l.length := by omega
      rw [List.drop_eq_getElem_cons hlt]
      exact h1 k _ _ (List.drop_eq_getElem_cons hlt) (List.getElem?_eq_getElem hlt) hlt (ih (k + 1) (by omega))
  simpa using key l.length 0 (by omega)
theorem eqLoop [DecidableEq α] {F : List α → List α → Int → Option Bool} {e : α → α → Option Bool} (ok : α → Prop)
    (hF : ∀ a b i, F a b i = cond (decide (i < (a.length : Int))) (at_ a i fun _ x => at_ b i fun _ y => (e x y).bind fun r => cond (!r) (some false) (F a b (w64 (i + 1)))) (some true))
    (he : ∀ x y, ok x → e x y = some (decide (x = y))) {a b : List α} (ha : ∀ x ∈ a, ok x) (hl : a.length = b.length) (hs : a.length < 9223372036854775808) : F a b 0 = some (decide (a = b)) := by
  have := loopD a (fun k s => F a b (k : Int) = some (decide (s = b.drop k))) (by rw [hF]; simp [hl]) (fun k x suf hd hx hk ih => by
    have hb : k < b.length := by omega
    have e1 : (x :: suf = b.drop k) = (x = b[k] ∧ suf = b.drop (k + 1)) := by rw [List.drop_eq_getElem_cons hb, List.cons.injEq]
    rw [hF, at_of hx, at_of (List.getElem?_eq_getElem hb), he _ _ (ha x (List.mem_of_getElem? hx)), w64_nat (by omega), ih]
    simp only [e1]
    by_cases h1 : x = b[k] <;> simp [hk, h1])
  simpa using this
theorem eqLoop' [DecidableEq α] {F : List α → List α → Int → Option Bool} {e : α → α → Bool}
    (hF : ∀ a b i, F a b i = cond (decide (i < (a.length : Int))) (at_ a i fun _ x => at_ b i fun _ y => cond (!(e x y)) (some false) (F a b (w64 (i + 1)))) (some true))
    (he : ∀ x y, e x y = decide (x = y)) {a b : List α} (hl : a.length = b.length) (hs : a.length < 9223372036854775808) : F a b 0 = some (decide (a = b)) :=
  eqLoop (e := fun x y => some (e x y)) (fun _ => True) hF (fun x y _ => by rw [he]) (fun _ _ => trivial) hl hs
theorem toLoop {F : List α → Int → List β → Option (List β)} {f : α → Option β} {g : α → β} (ok : α → Prop)
    (hF : ∀ a i o, F a i o = cond (decide (i < (a.length : Int))) (at_ a i fun _ x => (f x).bind fun y => at_ o i fun j _ => atN o j fun _ => atN o j fun _ => F a (w64 (i + 1)) (o.set j y)) (some o))
    (hf : ∀ x, ok x → f x = some (g x)) {a : List α} (ha : ∀ x ∈ a, ok x) {e : β} (hs : a.length ≤ 1073741824) : (rep_ (a.length : Int) e fun o => F a 0 o) = some (a.map g) := by
  rw [rep_of hs]
  have := loopD a (fun k s => ∀ o : List β, o.length = a.length → F a (k : Int) o = some (o.take k ++ s.map g)) (fun o ho => by rw [hF]; simp [← ho]) (fun k x suf hd hx hk ih o ho => by
    have hb : k < o.length := by omega
    rw [hF, at_of hx, hf _ (ha x (List.mem_of_getElem? hx))]
    simp only [Option.bind_some]
    rw [at_of (List.getElem?_eq_getElem hb), atN_of (List.getElem?_eq_getElem hb), atN_of (List.getElem?_eq_getElem hb), w64_nat (by omega), ih _ (by simp [ho])]
    have e1 : (o.set k (g x)).take (k + 1) = o.take k ++ [g x] := by
      rw [List.take_add_one, List.take_set, List.set_eq_of_length_le (by simp; omega)]
      simp [hb]
    simp [hk, e1])
  simpa using this _ (by simp)
def left_ (l : Int) (n : Nat) : Int := if l < n then -1 else l - n
theorem left_neg {l : Int} {n : Nat} (hl : 0 ≤ l) : left_ l n < 0 ↔ l < n := by unfold left_; split <;> omega
theorem left_add (l : Int) (m n : Nat) (hl : 0 ≤ l) : (if left_ l m < 0 then -1 else left_ (left_ l m) n) = left_ l (m + n) := by
  unfold left_
  repeat' split
  all_goals omega
theorem left_le {l : Int} {n : Nat} : left_ l n ≤ max l (-1) := by unfold left_; split <;> omega
def sums : List Nat → Nat
  | [] => 0
  | x :: l => x + sums l
theorem szLoop {F : List α → Int → Int → Option Int} {f : α → Int → Option Int} {sz : α → Nat} (ok : α → Prop)
    (hF : ∀ a l i, F a l i = cond (decide (i < (a.length : Int))) (at_ a i fun _ x => (f x l).bind fun r => cond (decide (r < 0)) (some (-1)) (F a r (w64 (i + 1)))) (some l))
    (hf : ∀ x l, ok x → 0 ≤ l → l ≤ 1048576 → f x l = some (left_ l (sz x))) {a : List α} (ha : ∀ x ∈ a, ok x) (hs : a.length < 9223372036854775808) {l : Int} (h0 : 0 ≤ l) (h1 : l ≤ 1048576) : F a l 0 = some (left_ l (sums (a.map sz))) := by
  have := loopD a (fun k s => ∀ l : Int, 0 ≤ l → l ≤ 1048576 → F a l (k : Int) = some (left_ l (sums (s.map sz)))) (fun l h0 h1 => by rw [hF]; simp [sums, left_]; omega) (fun k x suf hd hx hk ih l h0 h1 => by
    rw [hF, at_of hx, hf _ _ (ha x (List.mem_of_getElem? hx)) h0 h1]
    simp only [Option.bind_some, Int.ofNat_lt, hk, decide_true, cond_true, w64_nat (show k < 9223372036854775807 by omega)]
    by_cases h : left_ l (sz x) < 0
    · have h2 := (left_neg h0).1 h
      simp only [h, decide_true, cond_true, List.map_cons, sums]
      unfold left_
      rw [if_pos (by omega)]
    · have h2 : ¬ l < sz x := fun h3 => h ((left_neg h0).2 h3)
      simp only [h, decide_false, cond_false, List.map_cons, sums]
      rw [ih _ (by omega) (by have := @left_le l (sz x); omega), ← left_add l _ _ h0, if_neg h])
  simpa using this l h0 h1
end
end Go.Proofs.Ytdlambaphhklpaa.TM
namespace Go.Proofs.Ytdlambaphhklpaa.X
open Go Go.Proofs.Ytdlambaphhklpaa.TM
def szIs (l : List Int) : Nat := l.length
def szIss (l : List (List Int)) : Nat := l.length + sums (l.map szIs)
theorem laws_szIntS_ok {l : List Int} {k : Int} (hl : l.length ≤ maxLen) (h0 : 0 ≤ k) (h1 : k ≤ 1048576) : laws_szIntS l k = some (left_ k (szIs l)) := by
  unfold maxLen at hl
  rw [laws_szIntS_eq, w64_id (by omega) (by omega)]
  unfold left_ szIs
  by_cases h : k - (l.length : Int) < 0
  · rw [if_pos (by omega)]; simp [h]
  · rw [if_neg (by omega)]; simp [h]
theorem laws_szIntSS_ok {l : List (List Int)} {k : Int} (hl : l.length ≤ maxLen) (he : ∀ x ∈ l, x.length ≤ maxLen) (h0 : 0 ≤ k) (h1 : k ≤ 1048576) : laws_szIntSS l k = some (left_ k (szIss l)) := by
  have hm : maxLen ≤ 9223372036854775807 := by decide
  rw [laws_szIntSS_eq, w64_id (by omega) (by omega)]
  by_cases h : k < l.length
  · have : left_ k (szIss l) = -1 := by unfold left_ szIss; rw [if_pos (by omega)]
    rw [this]
    simp [show k - (l.length : Int) < 0 by omega]
  · simp only [show ¬ (k - (l.length : Int) < 0) by omega, decide_false, cond_false]
    rw [szLoop (F := laws_szIntSS_l0) (f := laws_szIntS) (sz := szIs) (fun x => x.length ≤ maxLen) laws_szIntSS_l0_eq (fun x l h h0 h1 => laws_szIntS_ok h h0 h1) he (by omega) (by omega) (by omega)]
    unfold left_ szIss
    congr 1
    split <;> split <;> omega
theorem laws_toIntS_ok {l : List Int} (hl : l.length ≤ 1048576) : laws_toIntS l = some l := by
  rw [laws_toIntS_eq]
  have := toLoop (F := laws_toIntS_l0) (f := fun x : Int => some x) (g := id) (fun _ => True) laws_toIntS_l0_eq (fun _ _ => rfl) (a := l) (fun _ _ => trivial) (e := 0) (by omega)
  simpa using this
theorem sums_mem {l : List Nat} {x : Nat} (h : x ∈ l) : x ≤ sums l := by
  induction l with
  | nil => simp at h
  | cons y l ih =>
    simp only [sums]
    rcases List.mem_cons.1 h with rfl | h
    · omega
    · have := ih h; omega
theorem laws_toIntSS_ok {l : List (List Int)} (hl : szIss l ≤ 1048576) : laws_toIntSS l = some l := by
  rw [laws_toIntSS_eq]
  unfold szIss at hl
  have := toLoop (F := laws_toIntSS_l0) (f := laws_toIntS) (g := id) (fun x => x.length ≤ 1048576) laws_toIntSS_l0_eq (fun x h => laws_toIntS_ok h) (a := l) (fun x hx => by have h1 := sums_mem (List.mem_map_of_mem (f := szIs) hx); have h2 : szIs x = x.length := rfl; omega) (e := []) (by omega)
  simpa using this
theorem laws_eqIntS_ok {a b : List Int} (ha : a.length ≤ 1048576) : laws_eqIntS a b = some (decide (a = b)) := by
  rw [laws_eqIntS_eq]
  by_cases h : a.length = b.length
  · simp only [h, beq_self_eq_true, Bool.not_true, cond_false]
    exact eqLoop' (e := fun x y : Int => x == y) laws_eqIntS_l0_eq (fun x y => rfl) h (by omega)
  · have h1 : ¬ a = b := fun e => h (by rw [e])
    have h2 : ((a.length : Int) == (b.length : Int)) = false := by simp; omega
    simp [h1, h2]
theorem laws_eqIntSS_ok {a b : List (List Int)} (ha : szIss a ≤ 1048576) : laws_eqIntSS a b = some (decide (a = b)) := by
  unfold szIss at ha
  rw [laws_eqIntSS_eq]
  by_cases h : a.length = b.length
  · simp only [h, beq_self_eq_true, Bool.not_true, cond_false]
    exact eqLoop (e := laws_eqIntS) (fun x => x.length ≤ 1048576) laws_eqIntSS_l0_eq (fun x y h => laws_eqIntS_ok h) (fun x hx => by have h1 := sums_mem (List.mem_map_of_mem (f := szIs) hx); have h2 : szIs x = x.length := rfl; omega) h (by omega)
  · have h1 : ¬ a = b := fun e => h (by rw [e])
    have h2 : ((a.length : Int) == (b.length : Int)) = false := by simp; omega
    simp [h1, h2]
def hasDec (l : List (List Int)) (k : Nat) : Bool := match l with
  | [] => false
  | r :: l => r[k]? == some 2 || hasDec l (k + 1)
theorem impl_HasDecrease_l0_ok (l : List (List Int)) (hl : l.length ≤ 1048576) (he : ∀ x ∈ l, x.length ≤ 1048576) : impl_HasDecrease_l0 l (l.length : Int) 0 = some (hasDec l 0) := by
  refine loopD l (fun k s => impl_HasDecrease_l0 l (l.length : Int) (k : Int) = some (hasDec s k)) (by rw [impl_HasDecrease_l0_eq]; simp [hasDec]) fun k x suf hd hx hk ih => ?_
  rw [impl_HasDecrease_l0_eq, at_of hx, w64_nat (by omega), ih, hasDec]
  by_cases h : k < x.length
  · rw [at_of (List.getElem?_eq_getElem h)]
    cases h2 : (x[k] == 2) <;> simp [hk, h, h2]
  · simp [hk, h]
theorem spec_HasDecrease_l0_ok (a b : List UInt8) (l : List (List Int)) (hl : l.length ≤ 1048576) (he : ∀ x ∈ l, x.length ≤ 1048576) : spec_HasDecrease_l0 0 a b l = some (hasDec l 0 || !(a == b)) := by
  refine loopD l (fun k s => spec_HasDecrease_l0 (k : Int) a b l = some (hasDec s k || !(a == b))) (by rw [spec_HasDecrease_l0_eq]; simp [hasDec]) fun k x suf hd hx hk ih => ?_
  rw [spec_HasDecrease_l0_eq, at_of hx, at_of hx, w64_nat (by omega), ih, hasDec]
  by_cases h : k < x.length
  · rw [at_of (List.getElem?_eq_getElem h)]
    cases h2 : (x[k] == 2) <;> simp [hk, h, h2]
  · simp [hk, h]
theorem hasDecrease_same (a b : List UInt8) (l : List (List Int)) (hl : szIss l ≤ 1048576) : impl_HasDecrease a b l = some (hasDec l 0 || !(a == b)) ∧ spec_HasDecrease a b l = some (hasDec l 0 || !(a == b)) := by
  unfold szIss at hl
  have he : ∀ x ∈ l, x.length ≤ 1048576 := fun x hx => by have h1 := sums_mem (List.mem_map_of_mem (f := szIs) hx); have h2 : szIs x = x.length := rfl; omega
  rw [impl_HasDecrease_eq, spec_HasDecrease_eq, impl_HasDecrease_l0_ok l (by omega) he, spec_HasDecrease_l0_ok a b l (by omega) he]
  refine ⟨?_, rfl⟩
  cases h : (a == b) <;> simp [h]
theorem laws_szSizeGraph_ok {a b : List UInt8} {c : List (List Int)} {k : Int} (ha : a.length ≤ maxLen) (hb : b.length ≤ maxLen) (hc : c.length ≤ maxLen) (he : ∀ x ∈ c, x.length ≤ maxLen) (h0 : 0 ≤ k) (h1 : k ≤ 1048576) :
    laws_szSizeGraph a b c k = some (left_ k (a.length + b.length + szIss c)) := by
  have hm : maxLen ≤ 9223372036854775807 := by decide
  rw [laws_szSizeGraph_eq, w64_id (n := k - _) (by omega) (by omega)]
  by_cases h2 : k - (a.length : Int) < 0
  · simp only [h2, decide_true, cond_true]; unfold left_; rw [if_pos (by omega)]
  rw [w64_id (by omega) (by omega)]
  by_cases h3 : k - (a.length : Int) - b.length < 0
  · simp only [h2, h3, decide_true, decide_false, cond_false, cond_true]; unfold left_; rw [if_pos (by omega)]
  rw [laws_szIntSS_ok hc he (by omega) (by omega)]
  simp only [h2, h3, decide_false, cond_false, Option.bind_some]
  unfold left_
  by_cases h4 : k - (a.length : Int) - b.length < szIss c
  · rw [if_pos h4, if_pos (by omega)]; rfl
  · rw [if_neg h4, if_neg (by omega)]
    simp only [show ¬ (k - (a.length : Int) - b.length - szIss c < 0) by omega, decide_false, cond_false]
    congr 1
    omega
theorem FnExactHasDecrease_ok {a b : List UInt8} {c : List (List Int)} (ha : a.length ≤ maxLen) (hb : b.length ≤ maxLen) (hc : c.length ≤ maxLen) (he : ∀ x ∈ c, x.length ≤ maxLen) : laws_FnExactHasDecrease a b c = some true := by
  rw [laws_FnExactHasDecrease_eq, laws_szSizeGraph_ok ha hb hc he (by omega) (by omega)]
  simp only [Option.bind_some]
  by_cases h : left_ 1048576 (a.length + b.length + szIss c) < 0
  · simp [h]
  have hs : szIss c ≤ 1048576 := by rw [left_neg (by omega)] at h; omega
  have ht : laws_toSizeGraph a b c = some (a, b, c) := by rw [laws_toSizeGraph_eq, laws_toIntSS_ok hs]; rfl
  rw [ht]
  simp only [Option.bind_some]
  rw [(hasDecrease_same a b c hs).1, (hasDecrease_same a b c hs).2, laws_eqSizeGraph_eq, laws_eqIntSS_ok hs]
  simp [h]
end Go.Proofs.Ytdlambaphhklpaa.X
