/- Part 3 of a machine that runs the functions of a program over plain values, and of the proof that its runs are runs of the program. No condition. -/
import Derived.Test.YtdlambaphhklpaaM1
import Derived.Carry
import Derived.RowKit
import Derived.ShutString
import Derived.SizedLaws
import Derived.OpenShut
import Derived.ChangeOld
import Derived.ProofKit
namespace Go.Proofs.Ytdlambaphhklpaa.TM
open Go
section
variable {ρ : Type} {N : Nat} {vs vs' : VS} {st st' : St} {y : ρ} {P : Program}
theorem at_some {α : Type} {l : List α} {i : Int} {k : Nat → α → Option ρ} (h : at_ l i k = some y) : ∃ e, 0 ≤ i ∧ l[i.toNat]? = some e ∧ k i.toNat e = some y := by
  unfold at_ at h
  split at h
  · rename_i e he
    split at he
    · exact ⟨e, by assumption, he, h⟩
    · cases he
  · cases h
theorem slice_app {row : List ST} {a b : V (.sl row)} : lis row (List.append (α := R row) a b) = lis row a ++ lis row b := rfl
theorem cell_head {row : List Cl} {r : List T} {k : List T → Prop} : True := trivial
theorem tv_load {d : Option Nat} {t : TypeId} {x : Operand} {k : Co ρ} (R : Rel vs st) : (evT x fun v => match v with
    | .addr n p => rowC n p fun row => match isAgg P t with
      | some true => match Nat.ble (P.cellsOf t) row.length with
        | true => outT N d (.agg (seensT n p 0 (row.take (P.cellsOf t)))) k
        | false => no 40
      | some false => match row with
        | y :: _ => outT N d (seenT n (p.add 0) y) k
        | [] => no 41
      | none => no 42
    | .raddr cs => match isAgg P t with
      | some true => match Nat.ble (P.cellsOf t) cs.length with
        | true => outT N d (.agg ((cs.take (P.cellsOf t)).map .c)) k
        | false => no 43
      | some false => match cs with
        | y :: _ => outT N d (.c y) k
        | [] => no 44
      | none => no 45
    | _ => no 46) vs = some y → Law N vs st k y (ev x fun v => match v with
    | .addr n p => .rdB n fun bx => match rowAt bx.cells p with
      | some row => match isAgg P t with
        | some true => if P.cellsOf t ≤ row.length then out d (.agg (seens n p 0 (row.take (P.cellsOf t)))) else .no
        | some false => match row with
          | y :: _ => out d (seen n (bump 0 p) y)
          | [] => .no
        | none => .no
      | none => .no
    | .raddr cs => match isAgg P t with
      | some true => if P.cellsOf t ≤ cs.length then out d (.agg ((cs.take (P.cellsOf t)).map .t)) else .no
      | some false => match cs with
        | y :: _ => out d (.t y)
        | [] => .no
      | none => .no
    | _ => .no) := by
  intro h
  obtain ⟨v, lv, vs1, h, hv, g1, _⟩ := evT_ref (N := N) (m := fun v => match v with
    | .addr n p => .rdB n fun bx => match rowAt bx.cells p with
      | some row => match isAgg P t with
        | some true => if P.cellsOf t ≤ row.length then out d (.agg (seens n p 0 (row.take (P.cellsOf t)))) else .no
        | some false => match row with
          | y :: _ => out d (seen n (bump 0 p) y)
          | [] => .no
        | none => .no
      | none => .no
    | .raddr cs => match isAgg P t with
      | some true => if P.cellsOf t ≤ cs.length then out d (.agg ((cs.take (P.cellsOf t)).map .t)) else .no
      | some false => match cs with
        | y :: _ => out d (.t y)
        | [] => .no
      | none => .no
    | _ => .no) h R
  refine .of g1 ?_
  cases v with
  | addr n p =>
    rw [addrV hv]
    obtain ⟨row, vs2, h, hrow, g2, _⟩ := rowC_ref (N := N) (m := fun bx => match rowAt bx.cells (pthL p) with
      | some row => match isAgg P t with
        | some true => if P.cellsOf t ≤ row.length then out d (.agg (seens n (pthL p) 0 (row.take (P.cellsOf t)))) else .no
        | some false => match row with
          | y :: _ => out d (seen n (bump 0 (pthL p)) y)
          | [] => .no
        | none => .no
      | none => .no) h g1.rel
    refine .of g2 ?_
    rw [hrow]
    simp only
    have hrow0 : rowAt (st.b n).cells (pthL (p.add 0)) = some (encs row) := by rw [pthL_add, bump_zero]; exact hrow
    cases ha : isAgg P t with
    | none => rw [ha] at h; cases h
    | some b =>
      rw [ha] at h
      cases b with
      | true =>
        simp only at h ⊢
        cases hc : Nat.ble (P.cellsOf t) row.length with
        | false => rw [hc] at h; cases h
        | true =>
          rw [hc] at h
          rw [if_pos (by simpa [encs] using Nat.le_of_ble_eq_true hc)]
          refine outT_ref h g2.rel ?_
          simp only [RelV]
          refine ⟨_, rfl, ?_⟩
          rw [encs_take]
          refine seensT_rel _ 0 (row := encs (row.drop (P.cellsOf t))) ?_
          rw [hrow0]
          simp only [encs, ← List.map_append, List.take_append_drop]
      | false =>
        cases row with
        | nil => cases h
        | cons z rest =>
          simp only [encs, List.map_cons] at h ⊢
          refine outT_ref h g2.rel ?_
          rw [← pthL_add]
          exact seenT_rel hrow0
  | raddr cs =>
    simp only [RelV] at hv
    subst hv
    simp only
    cases ha : isAgg P t with
    | none => simp only [ha] at h; cases h
    | some b =>
      simp only [ha] at h
      cases b with
      | true =>
        simp only at h ⊢
        cases hc : Nat.ble (P.cellsOf t) cs.length with
        | false => rw [hc] at h; cases h
        | true =>
          rw [hc] at h
          have hle := Nat.le_of_ble_eq_true hc
          have hl : (encs cs).length = cs.length := by simp [encs]
          rw [if_pos (by omega), encs_take]
          exact outT_ref h g1.rel (by simp only [RelV]; exact ⟨_, rfl, rel_cells _⟩)
      | false =>
        cases cs with
        | nil => cases h
        | cons z cs => exact outT_ref h g1.rel (by simp only [RelV])
  | _ => cases h
theorem tv_store {d : Option Nat} {t : TypeId} {x z : Operand} {k : Co ρ} (R : Rel vs st) : (evT x fun v => match v with
    | .addr n p => evT z fun u => closeCT u fun cs => match Nat.beq (P.cellsOf t) cs.length && Nat.blt 0 cs.length with
      | true => storesT n p 0 cs (outT N d .dead k)
      | false => no 47
    | _ => no 48) vs = some y → Law N vs st k y (ev x fun v => match v with
    | .addr n p => ev z fun u => closeC u fun cs => if P.cellsOf t = cs.length ∧ 0 < cs.length then stores n p 0 cs (out d .dead) else .no
    | _ => .no) := by
  intro h
  obtain ⟨v, lv, vs1, h, hv, g1, _⟩ := evT_ref (N := N) (m := fun v => match v with
    | .addr n p => ev z fun u => closeC u fun cs => if P.cellsOf t = cs.length ∧ 0 < cs.length then stores n p 0 cs (out d .dead) else .no
    | _ => .no) h R
  refine .of g1 ?_
  cases v with
  | addr n p =>
    rw [addrV hv]
    obtain ⟨u, lu, vs2, h, hu, g2, _⟩ := evT_ref (N := N) (m := fun u => closeC u fun cs => if P.cellsOf t = cs.length ∧ 0 < cs.length then stores n (pthL p) 0 cs (out d .dead) else .no) h g1.rel
    refine .of g2 ?_
    obtain ⟨cs, vs3, st3, h, g3, _⟩ := closeCT_ref (N := N) (m := fun cs => if P.cellsOf t = cs.length ∧ 0 < cs.length then stores n (pthL p) 0 cs (out d .dead) else .no) h g2.rel hu.w
    refine .of g3 ?_
    cases hc : (Nat.beq (P.cellsOf t) cs.length && Nat.blt 0 cs.length) with
    | false => rw [hc] at h; cases h
    | true =>
      rw [hc] at h
      simp only [Bool.and_eq_true] at hc
      have h1 := Nat.eq_of_beq_eq_true hc.1
      have h2 : 0 < cs.length := by simpa using hc.2
      rw [if_pos (by simpa [encs] using ⟨h1, h2⟩)]
      obtain ⟨vs4, st4, h, g4⟩ := storesT_ref (N := N) (m := out d .dead) cs h g3.rel
      exact .of g4 (outT_ref h g4.rel (by simp only [RelV]))
  | _ => cases h
theorem tv_nilCheck {d : Option Nat} {x : Operand} {k : Co ρ} (R : Rel vs st) : (evT x fun v => match v with
    | .addr n p => outT N d (.addr n p) k
    | .raddr cs => outT N d (.raddr cs) k
    | _ => no 49) vs = some y → Law N vs st k y (ev x fun v => match v with
    | .addr n p => out d (.addr n p)
    | .raddr cs => out d (.raddr cs)
    | _ => .no) := by
  intro h
  obtain ⟨v, lv, vs1, h, hv, g1, _⟩ := evT_ref (N := N) (m := fun v => match v with
    | .addr n p => out d (.addr n p)
    | .raddr cs => out d (.raddr cs)
    | _ => .no) h R
  refine .of g1 ?_
  cases v with
  | addr n p => rw [addrV hv]; exact outT_ref h g1.rel (by simp only [RelV])
  | raddr cs =>
    have hv' := hv
    simp only [RelV] at hv
    subst hv
    exact outT_ref h g1.rel hv'
  | _ => cases h
theorem tv_unOp {op : UnOp} {d : Option Nat} {x : Operand} {k : Co ρ} (R : Rel vs st) : (evT x fun v => match op, v with
    | .not, .c ⟨.bool, _, r⟩ => outT N d (.c ⟨.bool, .z, bnot r⟩) k
    | .neg, .c ⟨.int .i64, _, n⟩ => outT N d (.c ⟨.int .i64, .z, ineg .i64 n⟩) k
    | _, _ => no 50) vs = some y → Law N vs st k y (ev x fun v => match op, v with
    | .not, .t (.v (.bool b)) => out d (.t (.v (.bool (!b))))
    | .neg, .t (.v (.int .i64 n)) => out d (.t (.v (.int .i64 (IntKind.i64.wrap (-n)))))
    | _, _ => .no) := by
  intro h
  obtain ⟨v, lv, vs1, h, hv, g1, _⟩ := evT_ref (N := N) (m := fun v => match op, v with
    | .not, .t (.v (.bool b)) => out d (.t (.v (.bool (!b))))
    | .neg, .t (.v (.int .i64 n)) => out d (.t (.v (.int .i64 (IntKind.i64.wrap (-n)))))
    | _, _ => .no) h R
  refine .of g1 ?_
  cases v with
  | c x =>
    obtain ⟨t, f, a⟩ := x
    cases op with
    | not =>
      cases t with
      | bool => rw [boolV hv]; exact out_law g1.rel (c := ⟨.bool, .z, bnot a⟩) rfl h
      | _ => cases h
    | neg =>
      cases t with
      | int k0 =>
        cases k0 with
        | i64 => rw [intV hv]; exact out_law g1.rel (c := ⟨.int .i64, .z, ineg .i64 a⟩) rfl h
        | _ => cases h
      | _ => cases h
    | _ => cases h
  | _ => cases op <;> cases h
theorem tv_fieldAddr {d : Option Nat} {s : TypeId} {x : Operand} {f : Nat} {k : Co ρ} (R : Rel vs st) : (match fieldAt P s f with
    | some fl => match Nat.blt 0 (P.cellsOf fl.type) with
      | true => evT x fun v => match v with
        | .addr n p => outT N d (.addr n (p.add fl.offset)) k
        | .raddr cs => outT N d (.raddr (cs.drop fl.offset)) k
        | _ => no 51
      | false => no 52
    | none => no 53) vs = some y → Law N vs st k y (match fieldAt P s f with
    | some fl => if 0 < P.cellsOf fl.type then ev x fun v => match v with
      | .addr n p => out d (.addr n (bump fl.offset p))
      | .raddr cs => out d (.raddr (cs.drop fl.offset))
      | _ => .no
      else .no
    | none => .no) := by
  intro h
  cases hf : fieldAt P s f with
  | none => rw [hf] at h; cases h
  | some fl =>
    rw [hf] at h
    simp only at h ⊢
    cases hc : Nat.blt 0 (P.cellsOf fl.type) with
    | false => rw [hc] at h; cases h
    | true =>
      rw [hc] at h
      rw [if_pos (by simpa using hc)]
      simp only at h
      obtain ⟨v, lv, vs1, h, hv, g1, _⟩ := evT_ref (N := N) (m := fun v => match v with
        | .addr n p => out d (.addr n (bump fl.offset p))
        | .raddr cs => out d (.raddr (cs.drop fl.offset))
        | _ => .no) h R
      refine .of g1 ?_
      cases v with
      | addr n p => rw [addrV hv]; exact outT_ref h g1.rel (by simp only [RelV, pthL_add])
      | raddr cs =>
        simp only [RelV] at hv
        subst hv
        refine outT_ref h g1.rel ?_
        simp only [RelV, encs_drop]
      | _ => cases h
theorem tv_field {d : Option Nat} {s : TypeId} {x : Operand} {f : Nat} {k : Co ρ} (R : Rel vs st) : (match fieldAt P s f with
    | some fl => evT x fun v => match v with
      | .agg xs => match isAgg P fl.type with
        | some true => match Nat.ble (fl.offset + P.cellsOf fl.type) xs.length with
          | true => outT N d (.agg ((xs.drop fl.offset).take (P.cellsOf fl.type))) k
          | false => no 54
        | some false => match xs.drop fl.offset with
          | y :: _ => outT N d y k
          | [] => no 55
        | none => no 56
      | _ => no 57
    | none => no 58) vs = some y → Law N vs st k y (match fieldAt P s f with
    | some fl => ev x fun v => match v with
      | .agg xs => match isAgg P fl.type with
        | some true => if fl.offset + P.cellsOf fl.type ≤ xs.length then out d (.agg ((xs.drop fl.offset).take (P.cellsOf fl.type))) else .no
        | some false => match xs[fl.offset]? with
          | some y => out d y
          | none => .no
        | none => .no
      | _ => .no
    | none => .no) := by
  intro h
  cases hf : fieldAt P s f with
  | none => rw [hf] at h; cases h
  | some fl =>
    rw [hf] at h
    simp only at h ⊢
    obtain ⟨v, lv, vs1, h, hv, g1, _⟩ := evT_ref (N := N) (m := fun v => match v with
      | .agg xs => match isAgg P fl.type with
        | some true => if fl.offset + P.cellsOf fl.type ≤ xs.length then out d (.agg ((xs.drop fl.offset).take (P.cellsOf fl.type))) else .no
        | some false => match xs[fl.offset]? with
          | some y => out d y
          | none => .no
        | none => .no
      | _ => .no) h R
    refine .of g1 ?_
    cases v with
    | agg xs =>
      simp only [RelV] at hv
      obtain ⟨us, rfl, hu⟩ := hv
      simp only
      cases ha : isAgg P fl.type with
      | none => simp only [ha] at h; cases h
      | some b =>
        simp only [ha] at h
        cases b with
        | true =>
          simp only at h ⊢
          cases hc : Nat.ble (fl.offset + P.cellsOf fl.type) xs.length with
          | false => rw [hc] at h; cases h
          | true =>
            rw [hc] at h
            rw [if_pos (by rw [← RelVs.length hu]; exact Nat.le_of_ble_eq_true hc)]
            exact outT_ref h g1.rel (by simp only [RelV]; exact ⟨_, rfl, (hu.drop _).take _⟩)
        | false =>
          simp only at h ⊢
          have hd := hu.drop fl.offset
          cases hx : xs.drop fl.offset with
          | nil => rw [hx] at h; cases h
          | cons z rest =>
            rw [hx] at h hd
            cases hux : us.drop fl.offset with
            | nil => rw [hux] at hd; simp only [RelVs] at hd
            | cons w rest' =>
              rw [hux] at hd
              simp only [RelVs] at hd
              rw [drop_head hux]
              exact outT_ref h g1.rel hd.1
    | _ => cases h
theorem pthL_snoc (p : Pth) (m : Nat) : pthL ⟨p.c0, p.r ++ [(m, 0)]⟩ = pthL p ++ [m, 0] := by simp [pthL]
theorem tv_indexAddr {d : Option Nat} {t : TypeId} {x i : Operand} {k : Co ρ} (R : Rel vs st) : (match P.underlying t with
    | some (.slice el) => evT x fun v => evT i fun w => match v, w with
      | .c ⟨.sl r, .sl f fs, l⟩, .c ⟨.int .i64, _, j⟩ => match f.low && (Nat.beq r.length (P.cellsOf el) && Nat.beq fs.length r.length) with
        | true => fun st => lget r l j fun _ e => outT N d (.raddr (cellsOf r fs e)) k st
        | false => no 59
      | .ref n p none, .c ⟨.int .i64, _, j⟩ => rowC n p fun row => match row with
        | ⟨.sl r, .sl .own fs, l⟩ :: _ => match Nat.beq r.length (P.cellsOf el) && Nat.beq fs.length r.length with
          | true => fun st => lget r l j fun m _ => outT N d (.addr n ⟨p.c0, p.r ++ [(m, 0)]⟩) k st
          | false => no 60
        | _ => no 61
      | _, _ => no 62
    | _ => no 63) vs = some y → Law N vs st k y (match P.underlying t with
    | some (.slice el) => ev x fun v => ev i fun w => match v, w with
      | .t (.sl f es), .t (.v (.int .i64 k)) => if 0 ≤ k then (match es[k.toNat]? with
        | some e => if f = .own ∨ e.length ≠ P.cellsOf el then .no else out d (.raddr e)
        | none => .no) else .no
      | .ref n p lo hi, .t (.v (.int .i64 k)) => .rdB n fun bx => match rowAt bx.cells p with
        | some (.sl .own es :: _) => match es[lo + k.toNat]? with
          | some e => if 0 ≤ k ∧ k < (hi : Int) - lo ∧ e.length = P.cellsOf el then out d (.addr n (p ++ [lo + k.toNat, 0])) else .no
          | none => .no
        | _ => .no
      | _, _ => .no
    | _ => .no) := by
  intro h
  cases hu : P.underlying t with
  | none => rw [hu] at h; cases h
  | some ds =>
    rw [hu] at h
    cases ds with
    | slice el =>
      simp only at h ⊢
      obtain ⟨v, lv, vs1, h, hv, g1, _⟩ := evT_ref (N := N) (m := fun v => ev i fun w => match v, w with
        | .t (.sl f es), .t (.v (.int .i64 k)) => if 0 ≤ k then (match es[k.toNat]? with
          | some e => if f = .own ∨ e.length ≠ P.cellsOf el then .no else out d (.raddr e)
          | none => .no) else .no
        | .ref n p lo hi, .t (.v (.int .i64 k)) => .rdB n fun bx => match rowAt bx.cells p with
          | some (.sl .own es :: _) => match es[lo + k.toNat]? with
            | some e => if 0 ≤ k ∧ k < (hi : Int) - lo ∧ e.length = P.cellsOf el then out d (.addr n (p ++ [lo + k.toNat, 0])) else .no
            | none => .no
          | _ => .no
        | _, _ => .no) h R
      refine .of g1 ?_
      obtain ⟨w, lw, vs2, h, hw, g2, _⟩ := evT_ref (N := N) (m := fun w => match lv, w with
        | .t (.sl f es), .t (.v (.int .i64 k)) => if 0 ≤ k then (match es[k.toNat]? with
          | some e => if f = .own ∨ e.length ≠ P.cellsOf el then .no else out d (.raddr e)
          | none => .no) else .no
        | .ref n p lo hi, .t (.v (.int .i64 k)) => .rdB n fun bx => match rowAt bx.cells p with
          | some (.sl .own es :: _) => match es[lo + k.toNat]? with
            | some e => if 0 ≤ k ∧ k < (hi : Int) - lo ∧ e.length = P.cellsOf el then out d (.addr n (p ++ [lo + k.toNat, 0])) else .no
            | none => .no
          | _ => .no
        | _, _ => .no) h g1.rel
      refine .of g2 ?_
      have hint : ∀ {K : V (.int .i64) → Co ρ} {nn : Nat}, (match w with
          | .c ⟨.int .i64, _, j⟩ => K j
          | _ => no nn) vs2 = some y → ∃ j : Int, lw = .t (.v (.int .i64 j)) ∧ K j vs2 = some y := by
        intro K nn hh
        cases w with
        | c z =>
          obtain ⟨t2, f2, j⟩ := z
          cases t2 with
          | int k2 =>
            cases k2 with
            | i64 => exact ⟨j, intV hw, hh⟩
            | _ => cases hh
          | _ => cases hh
        | _ => cases hh
      cases v with
      | c z =>
        obtain ⟨t1, f1, l⟩ := z
        cases t1 with
        | sl r =>
          cases f1 with
          | sl f fs =>
            obtain ⟨j, hj, h⟩ := hint (K := fun j => match f.low && (Nat.beq r.length (P.cellsOf el) && Nat.beq fs.length r.length) with
              | true => fun st => lget r l j fun _ e => outT N d (.raddr (cellsOf r fs e)) k st
              | false => no 59) (nn := 62) (by
                cases w with
                | c z =>
                  obtain ⟨t2, f2, j⟩ := z
                  cases t2 with
                  | int k2 => cases k2 <;> exact h
                  | _ => exact h
                | _ => exact h)
            simp only [RelV] at hv
            subst hv
            subst hj
            cases hc : (f.low && (Nat.beq r.length (P.cellsOf el) && Nat.beq fs.length r.length)) with
            | false => rw [hc] at h; cases h
            | true =>
              rw [hc] at h
              simp only [Bool.and_eq_true] at hc
              obtain ⟨hc0, hc1, hc2⟩ := hc
              obtain ⟨e, h0, he, h⟩ := at_some h
              rw [enc_sl]
              simp only
              have he' : ((lis r l).map fun e => encR r fs e)[j.toNat]? = some (encR r fs e) := by
                rw [List.getElem?_map, show (lis r l)[j.toNat]? = some e from he]; rfl
              rw [if_pos h0, he']
              simp only
              have hl := encR_length e (Nat.eq_of_beq_eq_true hc2)
              rw [if_neg (by
                rintro (h1 | h1)
                · subst h1; cases hc0
                · exact h1 (by rw [hl, Nat.eq_of_beq_eq_true hc1]))]
              refine outT_ref h g2.rel ?_
              simp only [RelV, encs_cellsOf]
          | _ => cases h
        | _ => cases h
      | ref n p sub =>
        cases sub with
        | some s => cases h
        | none =>
          obtain ⟨j, hj, h⟩ := hint (K := fun j => rowC n p fun row => match row with
            | ⟨.sl r, .sl .own fs, l⟩ :: _ => match Nat.beq r.length (P.cellsOf el) && Nat.beq fs.length r.length with
              | true => fun st => lget r l j fun m _ => outT N d (.addr n ⟨p.c0, p.r ++ [(m, 0)]⟩) k st
              | false => no 60
            | _ => no 61) (nn := 62) (by
              cases w with
              | c z =>
                obtain ⟨t2, f2, j⟩ := z
                cases t2 with
                | int k2 => cases k2 <;> exact h
                | _ => exact h
              | _ => exact h)
          simp only [RelV] at hv
          obtain ⟨hi, rfl, es, r0, hes, hhi⟩ := hv
          subst hj
          simp only
          obtain ⟨row, vs3, h, hrow, g3, _⟩ := rowC_ref (N := N) (m := fun bx => match rowAt bx.cells (pthL p) with
            | some (.sl .own es :: _) => match es[0 + j.toNat]? with
              | some e => if 0 ≤ j ∧ j < (hi : Int) - (0 : Nat) ∧ e.length = P.cellsOf el then out d (.addr n (pthL p ++ [0 + j.toNat, 0])) else .no
              | none => .no
            | _ => .no) h g2.rel
          refine .of g3 ?_
          cases row with
          | nil => cases h
          | cons z rest =>
            obtain ⟨t1, f1, l⟩ := z
            cases t1 with
            | sl r =>
              cases f1 with
              | sl f fs =>
                cases f with
                | own =>
                  simp only at h
                  cases hc : (Nat.beq r.length (P.cellsOf el) && Nat.beq fs.length r.length) with
                  | false => rw [hc] at h; cases h
                  | true =>
                    rw [hc] at h
                    simp only [Bool.and_eq_true] at hc
                    obtain ⟨hc1, hc2⟩ := hc
                    obtain ⟨e, h0, he, h⟩ := at_some h
                    rw [hrow]
                    have e1 : encs (⟨.sl r, .sl .own fs, l⟩ :: rest) = .sl .own ((lis r l).map fun e => encR r fs e) :: encs rest := rfl
                    rw [hrow, e1] at hes
                    rw [e1]
                    simp only [Option.some.injEq, List.cons.injEq, T.sl.injEq, true_and] at hes
                    simp only [Nat.zero_add]
                    have he' : ((lis r l).map fun e => encR r fs e)[j.toNat]? = some (encR r fs e) := by
                      rw [List.getElem?_map, show (lis r l)[j.toNat]? = some e from he]; rfl
                    rw [he']
                    simp only
                    have hlt : j.toNat < es.length := by
                      rw [← hes.1]
                      exact (List.getElem?_eq_some_iff.1 he').1
                    rw [if_pos ⟨h0, by rw [hhi]; omega, by rw [encR_length e (Nat.eq_of_beq_eq_true hc2), Nat.eq_of_beq_eq_true hc1]⟩]
                    exact outT_ref h g3.rel (by simp only [RelV, pthL_snoc])
                | _ => cases h
              | _ => cases h
            | _ => cases h
      | _ => cases h
    | _ => cases h
end
end Go.Proofs.Ytdlambaphhklpaa.TM
namespace Go.Proofs.Ytdlambaphhklpaa.TM
open Go
section
variable {ρ : Type} {N : Nat} {vs vs' : VS} {st st' : St} {y : ρ} {P : Program}
theorem intCase {w : TV} {lw : LV} {K : V (.int .i64) → Co ρ} {nn : Nat} (hw : RelV (Qs st.b) w lw) : (match w with
    | .c ⟨.int .i64, _, j⟩ => K j
    | _ => no nn) vs = some y → ∃ (f : Fg) (j : Int), w = .c ⟨.int .i64, f, j⟩ ∧ lw = .t (.v (.int .i64 j)) ∧ K j vs = some y := by
  intro hh
  cases w with
  | c z =>
    obtain ⟨t2, f2, j⟩ := z
    cases t2 with
    | int k2 =>
      cases k2 with
      | i64 => exact ⟨f2, j, rfl, intV hw, hh⟩
      | _ => cases hh
    | _ => cases hh
  | _ => cases hh
theorem atS_some {l : List UInt8} {i : Int} {k : Int → Option ρ} (h : atS l i k = some y) : ∃ c, 0 ≤ i ∧ l[i.toNat]? = some c ∧ k c.toNat = some y := by
  unfold atS at h
  split at h
  · rename_i e he
    split at he
    · exact ⟨e, by assumption, he, h⟩
    · cases he
  · cases h
theorem sub_some {α : Type} {l : List α} {a b : Int} {k : List α → Option ρ} (h : sub_ l a b k = some y) : (0 ≤ a ∧ a ≤ b ∧ b ≤ l.length) ∧ k ((l.take b.toNat).drop a.toNat) = some y := by
  unfold sub_ at h
  split at h
  · exact ⟨by assumption, h⟩
  · cases h
theorem tv_index {d : Option Nat} {t : TypeId} {x i : Operand} {k : Co ρ} (R : Rel vs st) : (match P.underlying t with
    | some .string => evT x fun v => evT i fun w => match v, w with
      | .c ⟨.str, _, l⟩, .c ⟨.int .i64, _, j⟩ => fun st => sget l j fun c => outT N d (.c ⟨.int .u8, .z, c⟩) k st
      | _, _ => no 64
    | _ => no 65) vs = some y → Law N vs st k y (match P.underlying t with
    | some .string => ev x fun v => ev i fun w => match v, w with
      | .t (.v (.string s)), .t (.v (.int .i64 k)) => if 0 ≤ k then (match s.data[k.toNat]? with
        | some c => out d (.t (.v (.int .u8 c.toNat)))
        | none => .no) else .no
      | _, _ => .no
    | _ => .no) := by
  intro h
  cases hu : P.underlying t with
  | none => rw [hu] at h; cases h
  | some ds =>
    rw [hu] at h
    cases ds with
    | string =>
      simp only at h ⊢
      obtain ⟨v, lv, vs1, h, hv, g1, _⟩ := evT_ref (N := N) (m := fun v => ev i fun w => match v, w with
        | .t (.v (.string s)), .t (.v (.int .i64 k)) => if 0 ≤ k then (match s.data[k.toNat]? with
          | some c => out d (.t (.v (.int .u8 c.toNat)))
          | none => .no) else .no
        | _, _ => .no) h R
      refine .of g1 ?_
      obtain ⟨w, lw, vs2, h, hw, g2, _⟩ := evT_ref (N := N) (m := fun w => match lv, w with
        | .t (.v (.string s)), .t (.v (.int .i64 k)) => if 0 ≤ k then (match s.data[k.toNat]? with
          | some c => out d (.t (.v (.int .u8 c.toNat)))
          | none => .no) else .no
        | _, _ => .no) h g1.rel
      refine .of g2 ?_
      cases v with
      | c z =>
        obtain ⟨t1, f1, l⟩ := z
        cases t1 with
        | str =>
          obtain ⟨f, j, rfl, rfl, h⟩ := intCase (K := fun j => fun st => sget l j fun c => outT N d (.c ⟨.int .u8, .z, c⟩) k st) (nn := 64) hw (by
            cases w with
            | c z => obtain ⟨t2, f2, j⟩ := z; cases t2 with
              | int k2 => cases k2 <;> exact h
              | _ => exact h
            | _ => exact h)
          rw [strV hv]
          obtain ⟨c, h0, hc, h⟩ := atS_some h
          simp only
          have hc' : (List.toArray (α := UInt8) l)[j.toNat]? = some c := (List.getElem?_toArray (α := UInt8)).trans hc
          rw [if_pos h0, hc']
          exact out_law g2.rel (c := ⟨.int .u8, .z, (c.toNat : Int)⟩) rfl h
        | _ => cases h
      | _ => cases h
    | _ => cases h
theorem tv_extract {d : Option Nat} {x : Operand} {i : Nat} {k : Co ρ} (R : Rel vs st) : (evT x fun v => match v with
    | .tup xs => match xs.drop i with
      | y :: _ => outT N d y k
      | [] => no 66
    | _ => no 67) vs = some y → Law N vs st k y (ev x fun v => match v with
    | .tup xs => match xs[i]? with
      | some y => out d y
      | none => .no
    | _ => .no) := by
  intro h
  obtain ⟨v, lv, vs1, h, hv, g1, _⟩ := evT_ref (N := N) (m := fun v => match v with
    | .tup xs => match xs[i]? with
      | some y => out d y
      | none => .no
    | _ => .no) h R
  refine .of g1 ?_
  cases v with
  | tup xs =>
    simp only [RelV] at hv
    obtain ⟨us, rfl, hu⟩ := hv
    simp only at h ⊢
    have hd := hu.drop i
    cases hx : xs.drop i with
    | nil => rw [hx] at h; cases h
    | cons z rest =>
      rw [hx] at h hd
      cases hux : us.drop i with
      | nil => rw [hux] at hd; simp only [RelVs] at hd
      | cons w rest' =>
        rw [hux] at hd
        simp only [RelVs] at hd
        rw [drop_head hux]
        exact outT_ref h g1.rel hd.1
  | _ => cases h
theorem tv_makeFunc {d : Option Nat} {g : Fn} {first : Array Operand} {caps : List Operand} {k : Co ρ} (R : Rel vs st) : (match g, first.isEmpty with
    | .func g, true => evTs caps fun vs => outT N d (.fn g vs) k
    | _, _ => no 68) vs = some y → Law N vs st k y (if first.isEmpty = true then evs caps fun vs => out d (.fn g vs) else .no) := by
  intro h
  cases g with
  | func g =>
    cases hf : first.isEmpty with
    | false => rw [hf] at h; cases h
    | true =>
      rw [hf] at h
      simp only [if_true] at h ⊢
      obtain ⟨us, lus, vs1, h, hu, g1, _⟩ := evTs_ref (N := N) (m := fun vs => out d (.fn (.func g) vs)) h R
      exact .of g1 (outT_ref h g1.rel (by simp only [RelV]; exact ⟨_, rfl, hu⟩))
  | _ => cases h
theorem tv_convert {d : Option Nat} {s t : TypeId} {x : Operand} {k : Co ρ} (R : Rel vs st) : (match P.underlying s, P.underlying t with
    | some (.int _), some (.int k') => evT x fun v => match v with
      | .c ⟨.int k0, _, n⟩ => outT N d (.c ⟨.int k', .z, iconv k0 k' n⟩) k
      | _ => no 74
    | some .string, some .string => evT x fun v => match v with
      | .c ⟨.str, _, l⟩ => outT N d (.c ⟨.str, .z, l⟩) k
      | _ => no 75
    | _, _ => no 76) vs = some y → Law N vs st k y (match P.underlying s, P.underlying t with
    | some (.int _), some (.int k) => ev x fun v => match v with
      | .t (.v (.int _ n)) => out d (.t (.v (.int k (k.wrap n))))
      | _ => .no
    | some .string, some .string => ev x fun v => match v with
      | .t (.v (.string s)) => out d (.t (.v (.string s)))
      | _ => .no
    | _, _ => .no) := by
  intro h
  cases hs : P.underlying s with
  | none => rw [hs] at h; cases h
  | some ds =>
    rw [hs] at h
    cases ht : P.underlying t with
    | none => rw [ht] at h; cases ds <;> cases h
    | some dt =>
      rw [ht] at h
      cases ds with
      | int ks =>
        cases dt with
        | int k' =>
          simp only at h ⊢
          obtain ⟨v, lv, vs1, h, hv, g1, _⟩ := evT_ref (N := N) (m := fun v => match v with
            | .t (.v (.int _ n)) => out d (.t (.v (.int k' (k'.wrap n))))
            | _ => .no) h R
          refine .of g1 ?_
          cases v with
          | c z =>
            obtain ⟨t1, f1, n⟩ := z
            cases t1 with
            | int k0 => rw [intV hv]; exact out_law g1.rel (c := ⟨.int k', .z, iconv k0 k' n⟩) rfl h
            | _ => cases h
          | _ => cases h
        | _ => cases h
      | string =>
        cases dt with
        | string =>
          simp only at h ⊢
          obtain ⟨v, lv, vs1, h, hv, g1, _⟩ := evT_ref (N := N) (m := fun v => match v with
            | .t (.v (.string s)) => out d (.t (.v (.string s)))
            | _ => .no) h R
          refine .of g1 ?_
          cases v with
          | c z =>
            obtain ⟨t1, f1, l⟩ := z
            cases t1 with
            | str => rw [strV hv]; exact out_law g1.rel (c := ⟨.str, .z, l⟩) rfl h
            | _ => cases h
          | _ => cases h
        | _ => cases h
      | _ => cases h
theorem rep_some {α : Type} {n : Int} {e : α} {k : List α → Option ρ} (h : rep_ n e k = some y) : (0 ≤ n ∧ n ≤ 1073741824) ∧ k (List.replicate n.toNat e) = some y := by
  unfold rep_ at h
  split at h
  · exact ⟨by assumption, h⟩
  · cases h
theorem same_look {vs vs1 : VS} (s : Same vs vs1) (t : Nat) : lookS vs1.s t = lookS vs.s t := by rw [s.1]
theorem makeSlice_end {d : Nat} {r : List (ST × Fg)} {z : List T} {zs : List Cl} {n : Int} {k : Co ρ} {vs : VS} {st : St} (R : Rel vs st) (hz : zeroCs (cts r) = some zs) (h3 : zeroOks (cts r) z = true) :
    (fun st => mkRow (cts r) (fgs r) zs fun e => lrep (cts r) n e fun x => freshT d ⟨false, [⟨.sl (cts r), .sl .own (fgs r), x⟩]⟩ (wrS N d (.ref (d, 0) ⟨0, []⟩ none) k) st) vs = some y →
    Law N vs st k y (if 0 ≤ n ∧ n ≤ 1073741824 ∧ n = n then fresh d ⟨false, [.sl .own (List.replicate n.toNat z)]⟩ (.wrS d (.ref (d, 0) [0] 0 n.toNat) (.ok ())) else .no) := by
  intro h
  obtain ⟨e, h, he⟩ := mkRow_some h
  obtain ⟨hn, h⟩ := rep_some h
  rw [if_pos ⟨hn.1, hn.2, rfl⟩]
  rw [zeroCs_enc hz h3] at he
  refine fresh_ref h R ?_ (by simp)
  show T.sl .own ((lis (cts r) _).map fun e => encR (cts r) (fgs r) e) = _
  congr 1
  rw [← he]
  exact List.map_replicate
theorem tv_makeSlice {d : Option Nat} {t : TypeId} {l c : Operand} {k : Co ρ} (R : Rel vs st) : (match d, rowT P t with
    | some d, some r => match zeroCs (cts r) with
      | some zs => evT l fun v => evT c fun u => match v, u with
        | .c ⟨.int .i64, _, n⟩, .c ⟨.int .i64, _, m⟩ => iteC (match sameOp l c with
            | true => bLit true
            | false => ieq .i64 m n) (fun st => mkRow (cts r) (fgs r) zs fun e => lrep (cts r) n e fun x => freshT d ⟨false, [⟨.sl (cts r), .sl .own (fgs r), x⟩]⟩ (wrS N d (.ref (d, 0) ⟨0, []⟩ none) k) st) (no 37)
        | _, _ => no 38
      | none => no 39
    | _, _ => no 39) vs = some y → Law N vs st k y (match d, rowInfo P t with
    | some d, some z => ev l fun v => ev c fun u => match v, u with
        | .t (.v (.int .i64 n)), .t (.v (.int .i64 m)) => if 0 ≤ n ∧ n ≤ 1073741824 ∧ m = n then fresh d ⟨false, [.sl .own (List.replicate n.toNat z)]⟩ (.wrS d (.ref (d, 0) [0] 0 n.toNat) (.ok ())) else .no
        | _, _ => .no
    | _, _ => .no) := by
  intro h
  cases d with
  | none => cases h
  | some d =>
    cases hr : rowT P t with
    | none => rw [hr] at h; cases h
    | some r =>
      rw [hr] at h
      obtain ⟨z, e, h1, h2, h3, h4⟩ := rowT_some hr
      rw [h1]
      simp only at h ⊢
      cases hz : zeroCs (cts r) with
      | none => rw [hz] at h; cases h
      | some zs =>
        rw [hz] at h
        simp only at h
        cases hso : sameOp l c with
        | true =>
          rw [hso] at h
          have : ∃ t, l = .tmp t ∧ c = .tmp t := by
            cases l <;> cases c <;> first | cases hso | skip
            rename_i a b
            exact ⟨a, rfl, by rw [Nat.eq_of_beq_eq_true hso]⟩
          obtain ⟨t0, rfl, rfl⟩ := this
          refine .of (go_rdS R) (.of (go_rdS (R.lg _)) ?_)
          have hv := R.s t0
          change (match lookS vs.s t0, lookS vs.s t0 with
            | .c ⟨.int .i64, _, n⟩, .c ⟨.int .i64, _, m⟩ => iteC (bLit true) (fun st => mkRow (cts r) (fgs r) zs fun e => lrep (cts r) n e fun x => freshT d ⟨false, [⟨.sl (cts r), .sl .own (fgs r), x⟩]⟩ (wrS N d (.ref (d, 0) ⟨0, []⟩ none) k) st) (no 37)
            | _, _ => no 38) _ = some y at h
          generalize hlk : lookS vs.s t0 = v at h hv
          cases v with
          | c w =>
            obtain ⟨t1, f1, n⟩ := w
            cases t1 with
            | int k1 =>
              cases k1 with
              | i64 =>
                rw [intV hv]
                simp only
                exact makeSlice_end (R.lg _) hz h3 h
              | _ => cases h
            | _ => cases h
          | _ => cases h
        | false =>
          rw [hso] at h
          obtain ⟨v, lv, vs1, h, hv, g1, s1⟩ := evT_ref (N := N) (m := fun v => ev c fun u => match v, u with
            | .t (.v (.int .i64 n)), .t (.v (.int .i64 m)) => if 0 ≤ n ∧ n ≤ 1073741824 ∧ m = n then fresh d ⟨false, [.sl .own (List.replicate n.toNat z)]⟩ (.wrS d (.ref (d, 0) [0] 0 n.toNat) (.ok ())) else .no
            | _, _ => .no) h R
          refine .of g1 ?_
          obtain ⟨u, lu, vs2, h, hu, g2, s2⟩ := evT_ref (N := N) (m := fun u => match lv, u with
            | .t (.v (.int .i64 n)), .t (.v (.int .i64 m)) => if 0 ≤ n ∧ n ≤ 1073741824 ∧ m = n then fresh d ⟨false, [.sl .own (List.replicate n.toNat z)]⟩ (.wrS d (.ref (d, 0) [0] 0 n.toNat) (.ok ())) else .no
            | _, _ => .no) h g1.rel
          refine .of g2 ?_
          cases v with
          | c w =>
            obtain ⟨t1, f1, n⟩ := w
            cases t1 with
            | int k1 =>
              cases k1 with
              | i64 =>
                obtain ⟨f, m, rfl, rfl, h⟩ := intCase (K := fun m => iteC (ieq .i64 m n) (fun st => mkRow (cts r) (fgs r) zs fun e => lrep (cts r) n e fun x => freshT d ⟨false, [⟨.sl (cts r), .sl .own (fgs r), x⟩]⟩ (wrS N d (.ref (d, 0) ⟨0, []⟩ none) k) st) (no 37)) (nn := 38) hu (by
                  cases u with
                  | c w => obtain ⟨t2, f2, j⟩ := w; cases t2 with
                    | int k2 => cases k2 <;> exact h
                    | _ => exact h
                  | _ => exact h)
                rw [intV hv]
                simp only
                rcases iteC_ref h with ⟨hm, h⟩ | ⟨_, h⟩
                · have hm' : m = (show Int from n) := by
                    have : (m == (show Int from n)) = true := hm
                    exact eq_of_beq this
                  subst hm'
                  exact makeSlice_end g2.rel hz h3 h
                · cases h
              | _ => cases h
            | _ => cases h
          | _ => cases h
theorem app_some {α : Type} {l m : List α} {k : List α → Option ρ} (h : app_ l m k = some y) : l.length + m.length ≤ 1073741824 ∧ k (l ++ m) = some y := by
  unfold app_ at h
  split at h
  · exact ⟨by assumption, h⟩
  · cases h
theorem lenC_enc (r : List ST) (f : Fg) (l : V (.sl r)) : ∃ g es, (Cl.mk (.sl r) f l).enc = .sl g es ∧ ((es.length : Nat) : Int) = lenC r f l := by
  cases f with
  | sl f fs => exact ⟨_, _, rfl, by simp [lenC, llen]; rfl⟩
  | z => exact ⟨_, _, rfl, rfl⟩
  | nil => exact ⟨_, _, rfl, rfl⟩
  | pt f fs => exact ⟨_, _, rfl, rfl⟩
  | fn fs => exact ⟨_, _, rfl, rfl⟩
theorem tv_len {d : Option Nat} {c : Call} {x : Operand} {k : Co ρ} (R : Rel vs st) : (match (c.argTypes[0]?).bind P.underlying with
      | some .string => evT x fun v => match v with
        | .c ⟨.str, _, l⟩ => outT N d (.c ⟨.int .i64, .z, slen l⟩) k
        | _ => no 77
      | some (.slice _) => evT x fun v => match v with
        | .c ⟨.sl r, f, l⟩ => outT N d (.c ⟨.int .i64, .z, lenC r f l⟩) k
        | .ref n p none => rowC n p fun row => match row with
          | ⟨.sl r, f, l⟩ :: _ => match ownF f with
            | true => outT N d (.c ⟨.int .i64, .z, lenC r f l⟩) k
            | false => no 78
          | _ => no 78
        | _ => no 79
      | _ => no 80) vs = some y → Law N vs st k y (match (c.argTypes[0]?).bind P.underlying with
      | some .string => ev x fun v => match v with
        | .t (.v (.string s)) => out d (.t (.v (.int .i64 s.size)))
        | _ => .no
      | some (.slice _) => ev x fun v => match v with
        | .t (.sl _ es) => out d (.t (.v (.int .i64 es.length)))
        | .ref _ _ lo hi => out d (.t (.v (.int .i64 ((hi - lo : Nat) : Int))))
        | _ => .no
      | _ => .no) := by
  intro h
  cases hu : (c.argTypes[0]?).bind P.underlying with
  | none => rw [hu] at h; cases h
  | some ds =>
    rw [hu] at h
    cases ds with
    | string =>
      simp only at h ⊢
      obtain ⟨v, lv, vs1, h, hv, g1, _⟩ := evT_ref (N := N) (m := fun v => match v with
        | .t (.v (.string s)) => out d (.t (.v (.int .i64 s.size)))
        | _ => .no) h R
      refine .of g1 ?_
      cases v with
      | c w =>
        obtain ⟨t1, f1, l⟩ := w
        cases t1 with
        | str => rw [strV hv]; exact out_law g1.rel (c := ⟨.int .i64, .z, slen l⟩) rfl h
        | _ => cases h
      | _ => cases h
    | slice e =>
      simp only at h ⊢
      obtain ⟨v, lv, vs1, h, hv, g1, _⟩ := evT_ref (N := N) (m := fun v => match v with
        | .t (.sl _ es) => out d (.t (.v (.int .i64 es.length)))
        | .ref _ _ lo hi => out d (.t (.v (.int .i64 ((hi - lo : Nat) : Int))))
        | _ => .no) h R
      refine .of g1 ?_
      cases v with
      | c w =>
        obtain ⟨t1, f1, l⟩ := w
        cases t1 with
        | sl r =>
          simp only [RelV] at hv
          subst hv
          obtain ⟨g, es, he, hl⟩ := lenC_enc r f1 l
          rw [he]
          exact out_law g1.rel (c := ⟨.int .i64, .z, lenC r f1 l⟩) (by rw [← hl]; rfl) h
        | _ => cases h
      | ref n p sub =>
        cases sub with
        | some s => cases h
        | none =>
          simp only [RelV] at hv
          obtain ⟨hi, rfl, es, r0, hes, hhi⟩ := hv
          simp only at h ⊢
          obtain ⟨row, vs2, h, hrow, g2, _⟩ := rowC_ref (N := N) (m := fun _ => (M.no : M Unit)) h g1.rel
          obtain ⟨R2, _, _, dd, hdd, _⟩ := g2
          refine .of (Go1.skip R2 hdd) ?_
          cases row with
          | nil => cases h
          | cons w rest =>
            obtain ⟨t1, f1, l⟩ := w
            cases t1 with
            | sl r =>
              simp only at h
              cases hf : ownF f1 with
              | false => rw [hf] at h; cases h
              | true =>
                rw [hf] at h
                obtain ⟨g, es', he, hl⟩ := lenC_enc r f1 l
                have e1 : encs (⟨.sl r, f1, l⟩ :: rest) = .sl g es' :: encs rest := by rw [← he]; rfl
                rw [hrow, e1] at hes
                cases hes
                simp only at h
                rw [show ((hi - 0 : Nat) : Int) = lenC r f1 l by rw [Nat.sub_zero, hhi, hl]]
                exact out_law R2 (c := ⟨.int .i64, .z, lenC r f1 l⟩) rfl h
            | _ => cases h
      | _ => cases h
    | _ => cases h
theorem tv_max {d : Option Nat} {x z : Operand} {k : Co ρ} (R : Rel vs st) : (evT x fun v => evT z fun u => match v, u with
      | .c ⟨.int .i64, _, a⟩, .c ⟨.int .i64, _, e⟩ => outT N d (.c ⟨.int .i64, .z, imax a e⟩) k
      | _, _ => no 81) vs = some y → Law N vs st k y (ev x fun v => ev z fun u => match v, u with
      | .t (.v (.int .i64 a)), .t (.v (.int .i64 b)) => out d (.t (.v (.int .i64 (if b > a then b else a))))
      | _, _ => .no) := by
  intro h
  obtain ⟨v, lv, vs1, h, hv, g1, _⟩ := evT_ref (N := N) (m := fun v => ev z fun u => match v, u with
      | .t (.v (.int .i64 a)), .t (.v (.int .i64 b)) => out d (.t (.v (.int .i64 (if b > a then b else a))))
      | _, _ => .no) h R
  refine .of g1 ?_
  obtain ⟨u, lu, vs2, h, hu, g2, _⟩ := evT_ref (N := N) (m := fun u => match lv, u with
      | .t (.v (.int .i64 a)), .t (.v (.int .i64 b)) => out d (.t (.v (.int .i64 (if b > a then b else a))))
      | _, _ => .no) h g1.rel
  refine .of g2 ?_
  cases v with
  | c w =>
    obtain ⟨t1, f1, n⟩ := w
    cases t1 with
    | int k1 =>
      cases k1 with
      | i64 =>
        obtain ⟨f, m, rfl, rfl, h⟩ := intCase (K := fun m => outT N d (.c ⟨.int .i64, .z, imax n m⟩) k) (nn := 81) hu (by
          cases u with
          | c w => obtain ⟨t2, f2, j⟩ := w; cases t2 with
            | int k2 => cases k2 <;> exact h
            | _ => exact h
          | _ => exact h)
        rw [intV hv]
        exact out_law g2.rel (c := ⟨.int .i64, .z, imax n m⟩) rfl h
      | _ => cases h
    | _ => cases h
  | _ => cases h
theorem tv_append {c : Call} {dst : Option Nat} {x z : Operand} {k : Co ρ} (R : Rel vs st) : appendT N P c dst x z k vs = some y → Law N vs st k y (appendM P c dst x z) := by
  intro h
  unfold appendT at h
  unfold appendM
  cases dst with
  | none => cases h
  | some d =>
  cases hat : c.argTypes.toList with
  | nil => rw [hat] at h; cases h
  | cons t0 ts =>
  cases ts with
  | nil => rw [hat] at h; cases h
  | cons t1 ts =>
  cases ts with
  | cons t2 ts => rw [hat] at h; cases h
  | nil =>
  rw [hat] at h
  simp only at h ⊢
  cases hu : P.underlying t0 with
  | none => rw [hu] at h; cases h
  | some ds =>
  rw [hu] at h
  cases ds with
  | slice el =>
    simp only at h ⊢
    cases hr : rowT P t0 with
    | none => rw [hr] at h; cases h
    | some r =>
    rw [hr] at h
    obtain ⟨zz, e, h1, h2, h3, h4⟩ := rowT_some hr
    rw [h1]
    cases ht : Nat.beq t1 t0 with
    | false => rw [ht] at h; cases h
    | true =>
    rw [ht] at h
    simp only at h ⊢
    rw [if_pos (Nat.eq_of_beq_eq_true ht)]
    let fin : T → T → M Unit := fun a b => match a, b with
          | .sl .own es, .sl _ es' => if (es ++ es').length ≤ 1073741824 ∧ (∀ e' ∈ es ++ es', e'.length = zz.length) then
              fresh d ⟨false, [.sl .own (es ++ es')]⟩ (.wrS d (.ref (d, 0) [0] 0 (es ++ es').length) (.ok ())) else .no
          | _, _ => .no
    show Law N vs st k y (ev x fun v => ev z fun u => close v fun a => close u fun b => fin a b)
    obtain ⟨v, lv, vs1, h, hv, g1, _⟩ := evT_ref (N := N) (m := fun v => ev z fun u => close v fun a => close u fun b => fin a b) h R
    refine .of g1 ?_
    obtain ⟨u, lu, vs2, h, hu, g2, _⟩ := evT_ref (N := N) (m := fun u => close lv fun a => close u fun b => fin a b) h g1.rel
    refine .of g2 ?_
    obtain ⟨ca, vs3, st3, h, g3, k3⟩ := closeT_ref (N := N) (m := fun a => close lu fun b => fin a b) h g2.rel hv.w
    refine .of g3 ?_
    obtain ⟨cb, vs4, st4, h, g4, k4⟩ := closeT_ref (N := N) (m := fun b => fin ca.enc b) h g3.rel (k3.v hu.w)
    refine .of g4 ?_
    obtain ⟨ta, fa, xs⟩ := ca
    obtain ⟨tb, fb, ys⟩ := cb
    have fine : ∀ (es es' : List (List T)) (g : Fl) (c : Cl), es.length + es'.length ≤ 1073741824 → (∀ e ∈ es, e.length = zz.length) → (∀ e ∈ es', e.length = zz.length) → c.enc = .sl .own (es ++ es') →
        freshT d ⟨false, [c]⟩ (wrS N d (.ref (d, 0) ⟨0, []⟩ none) k) vs4 = some y → Law N vs4 st4 k y (fin (.sl .own es) (.sl g es')) := by
      intro es es' g c hl h5 h6 hc h
      show Law N vs4 st4 k y (if (es ++ es').length ≤ 1073741824 ∧ (∀ e' ∈ es ++ es', e'.length = zz.length) then
              fresh d ⟨false, [.sl .own (es ++ es')]⟩ (.wrS d (.ref (d, 0) [0] 0 (es ++ es').length) (.ok ())) else .no)
      rw [if_pos ⟨by rw [List.length_append]; exact hl, fun e he => by
        rcases List.mem_append.1 he with he | he
        · exact h5 e he
        · exact h6 e he⟩]
      exact fresh_ref h g4.rel hc rfl
    have wid : ∀ (ra : List ST) (fs : List Fg) (l : List (TM.R ra)), (Nat.beq ra.length r.length && Nat.beq fs.length r.length) = true → ∀ e ∈ l.map (fun e => encR ra fs e), e.length = zz.length := by
      intro ra fs l hc e he
      simp only [Bool.and_eq_true] at hc
      obtain ⟨e0, _, rfl⟩ := List.mem_map.1 he
      have q1 := Nat.eq_of_beq_eq_true hc.1
      have q2 := Nat.eq_of_beq_eq_true hc.2
      rw [encR_length e0 (by omega), h4, q1]
    cases ta with
    | sl ra =>
      cases tb with
      | sl rb =>
        cases fa with
        | nil =>
          cases fb with
          | nil => exact fine [] [] .own ⟨.sl ra, .nil, xs⟩ (by simp) (by simp) (by simp) rfl h
          | sl g fs =>
            simp only at h
            cases hc : (Nat.beq rb.length r.length && Nat.beq fs.length r.length) with
            | false => rw [hc] at h; cases h
            | true =>
              rw [hc] at h
              obtain ⟨hl, h⟩ := app_some h
              refine fine [] ((lis rb ys).map fun e => encR rb fs e) g _ (by simp only [List.length_map]; exact hl) (by simp) (wid _ _ _ hc) ?_ h
              rfl
          | _ => cases h
        | sl g fs =>
          cases g with
          | own =>
            cases fb with
            | nil =>
              simp only at h
              cases hc : (Nat.beq ra.length r.length && Nat.beq fs.length r.length) with
              | false => rw [hc] at h; cases h
              | true =>
                rw [hc] at h
                obtain ⟨hl, h⟩ := app_some h
                refine fine ((lis ra xs).map fun e => encR ra fs e) [] .own _ (by simp only [List.length_map, List.length_nil]; exact hl) (wid _ _ _ hc) (by simp) ?_ h
                show T.sl .own (((lis ra xs) ++ []).map fun e => encR ra fs e) = _
                rw [List.append_nil, List.append_nil]
            | sl g' fs' =>
              simp only at h
              cases hc : (Fg.beqs fs fs' && (Nat.beq ra.length r.length && Nat.beq fs.length r.length)) with
              | false => rw [hc] at h; cases h
              | true =>
                rw [hc] at h
                rw [Bool.and_eq_true] at hc
                obtain ⟨hc1, hc2⟩ := hc
                have hfs := Fg.beqs_eq _ _ hc1
                subst hfs
                obtain ⟨er, h⟩ := castL_some h
                subst er
                obtain ⟨hl, h⟩ := app_some h
                refine fine ((lis rb xs).map fun e => encR rb fs e) ((lis rb ys).map fun e => encR rb fs e) g' _ (by simp only [List.length_map]; exact hl) (wid _ _ _ hc2) (wid _ _ _ hc2) ?_ h
                show T.sl .own ((lis rb _).map fun e => encR rb fs e) = _
                rw [← List.map_append]
                rfl
            | _ => cases h
          | _ => cases h
        | _ => cases h
      | _ => cases h
    | _ => cases h
  | _ => cases h
end
end Go.Proofs.Ytdlambaphhklpaa.TM
namespace Go.Proofs.Ytdlambaphhklpaa.TM
open Go
section
variable {ρ : Type} {N : Nat} {vs vs' : VS} {st st' : St} {y : ρ} {P : Program}
theorem hiT_ref {γ : Type} {hi : Option Operand} {n : Int} {k : TV → Co ρ} {m : LV → M γ} (h : hiT hi n k vs = some y) (R : Rel vs st) :
    ∃ v lv vs', k v vs' = some y ∧ RelV (Qs st.b) v lv ∧ Go1 N vs st (ev (hi.getD (.const (.int .i64 n))) m) vs' st (m lv) ∧ Same vs vs' := by
  cases hi with
  | some h0 => exact evT_ref h R
  | none => exact ⟨_, _, _, h, (show RelV (Qs st.b) (.c ⟨.int .i64, .z, n⟩) (.t (.v (.int .i64 n))) from by simp only [RelV]; rfl), .refl R, .rfl⟩
theorem str_sub (l : List UInt8) (a b : Nat) : (ByteArray.mk l.toArray).extract a b = ByteArray.mk ((l.take b).drop a).toArray := by
  have : ((ByteArray.mk l.toArray).extract a b).data = ((l.take b).drop a).toArray := by
    rw [ByteArray.data_extract]
    apply Array.ext'
    simp [List.extract_eq_take_drop, List.drop_take]
  cases hx : (ByteArray.mk l.toArray).extract a b with
  | mk dd => rw [hx] at this; simp only at this; rw [this]
theorem slice_str {d : Option Nat} {l : List UInt8} {i j : Int} {k : Co ρ} (R : Rel vs st) : ssub l i j (fun r => outT N d (.c ⟨.str, .z, r⟩) k vs) = some y →
    Law N vs st k y (if 0 ≤ i ∧ i ≤ j ∧ j ≤ ((ByteArray.mk l.toArray).size : Int) then out d (.t (.v (.string ((ByteArray.mk l.toArray).extract i.toNat j.toNat)))) else .no) := by
  intro h
  obtain ⟨hb, h⟩ := sub_some h
  rw [show ((ByteArray.mk l.toArray).size : Int) = (l.length : Int) from rfl, if_pos hb, str_sub]
  exact out_law R (c := ⟨.str, .z, _⟩) rfl h
theorem slice_lst {d : Option Nat} {r : List ST} {fs : List Fg} {f : Fl} {l : List (TM.R r)} {i j : Int} {k : Co ρ} {p : Prop} [Decidable p] (hp : p) (R : Rel vs st) : lsub r l i j (fun y => outT N d (.c ⟨.sl r, .sl f fs, y⟩) k vs) = some y →
    Law N vs st k y (if 0 ≤ i ∧ i ≤ j ∧ j ≤ ((l.map fun e => encR r fs e).length : Int) ∧ p then out d (.t (.sl f (((l.map fun e => encR r fs e).take j.toNat).drop i.toNat))) else .no) := by
  intro h
  obtain ⟨hb, h⟩ := sub_some h
  rw [if_pos ⟨hb.1, hb.2.1, by rw [List.length_map]; exact hb.2.2, hp⟩]
  refine outT_ref h R ?_
  simp only [RelV]
  rw [← List.map_take, ← List.map_drop]
  rfl
theorem evT_no {x : Operand} {n : Nat} (h : evT x (fun _ => (no n : Co ρ)) vs = some y) : False := by
  cases x <;> cases h
theorem tv_slice {d : Option Nat} {t : TypeId} {x : Operand} {lo hi : Option Operand} {k : Co ρ} (R : Rel vs st) : (evT x fun v => evT (lo.getD (.const (.int .i64 0))) fun l => match v with
    | .c ⟨.str, _, a⟩ => match P.underlying t with
      | some .string => hiT hi (slen a) fun h => match l, h with
        | .c ⟨.int .i64, _, i⟩, .c ⟨.int .i64, _, j⟩ => fun st => ssub a i j fun r => outT N d (.c ⟨.str, .z, r⟩) k st
        | _, _ => no 69
      | _ => no 70
    | .c ⟨.sl r, .sl f fs, a⟩ => match rowT P t with
      | some r' => hiT hi (llen r a) fun h => match l, h, f.low && (Nat.beq r.length r'.length && Nat.beq fs.length r.length) with
        | .c ⟨.int .i64, _, i⟩, .c ⟨.int .i64, _, j⟩, true => fun st => lsub r a i j fun y => outT N d (.c ⟨.sl r, .sl f fs, y⟩) k st
        | _, _, _ => no 71
      | none => no 72
    | _ => no 73) vs = some y → Law N vs st k y (ev x fun v => ev (lo.getD (.const (.int .i64 0))) fun l =>
      match v with
      | .t (.v (.string s)) => ev (hi.getD (.const (.int .i64 s.size))) fun h => match P.underlying t, l, h with
        | some .string, .t (.v (.int .i64 a)), .t (.v (.int .i64 b)) => if 0 ≤ a ∧ a ≤ b ∧ b ≤ (s.size : Int) then out d (.t (.v (.string (s.extract a.toNat b.toNat)))) else .no
        | _, _, _ => .no
      | .t (.sl f es) => ev (hi.getD (.const (.int .i64 es.length))) fun h => match l, h with
        | .t (.v (.int .i64 a)), .t (.v (.int .i64 b)) => if 0 ≤ a ∧ a ≤ b ∧ b ≤ (es.length : Int) ∧ f ≠ .own ∧ (rowInfo P t).isSome = true ∧ (∀ e ∈ es, e.length = ((rowInfo P t).getD []).length) then out d (.t (.sl f ((es.take b.toNat).drop a.toNat))) else .no
        | _, _ => .no
      | .ref n p lo' hi' => .rdB n fun bx => match rowAt bx.cells p with
        | some (.sl .own es :: _) => ev (hi.getD (.const (.int .i64 ((hi' : Int) - lo')))) fun h => match l, h with
          | .t (.v (.int .i64 a)), .t (.v (.int .i64 b)) => if 0 ≤ a ∧ a ≤ b ∧ b ≤ (hi' : Int) - lo' ∧ (rowInfo P t).isSome = true ∧ (∀ e ∈ es, e.length = ((rowInfo P t).getD []).length) then out d (.ref n p (lo' + a.toNat) (lo' + b.toNat)) else .no
          | _, _ => .no
        | _ => .no
      | _ => .no) := by
  intro h
  obtain ⟨v, lv, vs1, h, hv, g1, _⟩ := evT_ref (N := N) (m := fun v => ev (lo.getD (.const (.int .i64 0))) fun l =>
      match v with
      | .t (.v (.string s)) => ev (hi.getD (.const (.int .i64 s.size))) fun h => match P.underlying t, l, h with
        | some .string, .t (.v (.int .i64 a)), .t (.v (.int .i64 b)) => if 0 ≤ a ∧ a ≤ b ∧ b ≤ (s.size : Int) then out d (.t (.v (.string (s.extract a.toNat b.toNat)))) else .no
        | _, _, _ => .no
      | .t (.sl f es) => ev (hi.getD (.const (.int .i64 es.length))) fun h => match l, h with
        | .t (.v (.int .i64 a)), .t (.v (.int .i64 b)) => if 0 ≤ a ∧ a ≤ b ∧ b ≤ (es.length : Int) ∧ f ≠ .own ∧ (rowInfo P t).isSome = true ∧ (∀ e ∈ es, e.length = ((rowInfo P t).getD []).length) then out d (.t (.sl f ((es.take b.toNat).drop a.toNat))) else .no
        | _, _ => .no
      | .ref n p lo' hi' => .rdB n fun bx => match rowAt bx.cells p with
        | some (.sl .own es :: _) => ev (hi.getD (.const (.int .i64 ((hi' : Int) - lo')))) fun h => match l, h with
          | .t (.v (.int .i64 a)), .t (.v (.int .i64 b)) => if 0 ≤ a ∧ a ≤ b ∧ b ≤ (hi' : Int) - lo' ∧ (rowInfo P t).isSome = true ∧ (∀ e ∈ es, e.length = ((rowInfo P t).getD []).length) then out d (.ref n p (lo' + a.toNat) (lo' + b.toNat)) else .no
          | _, _ => .no
        | _ => .no
      | _ => .no) h R
  refine .of g1 ?_
  cases v with
  | c w =>
    obtain ⟨t1, f1, l0⟩ := w
    cases t1 with
    | str =>
      rw [strV hv]
      let M1 : LV → LV → M Unit := fun l h => match P.underlying t, l, h with
        | some .string, .t (.v (.int .i64 a)), .t (.v (.int .i64 b)) => if 0 ≤ a ∧ a ≤ b ∧ b ≤ ((ByteArray.mk (List.toArray (α := UInt8) l0)).size : Int) then out d (.t (.v (.string ((ByteArray.mk (List.toArray (α := UInt8) l0)).extract a.toNat b.toNat)))) else .no
        | _, _, _ => .no
      obtain ⟨w, lw, vs2, h, hw, g2, _⟩ := evT_ref (N := N) (m := fun l => ev (hi.getD (.const (.int .i64 (ByteArray.mk (List.toArray (α := UInt8) l0)).size))) fun h => M1 l h) h g1.rel
      refine .of g2 ?_
      simp only at h
      cases hu : P.underlying t with
      | none => rw [hu] at h; cases h
      | some ds =>
      rw [hu] at h
      cases ds with
      | string =>
        simp only at h
        obtain ⟨z, lz, vs3, h, hz, g3, _⟩ := hiT_ref (N := N) (n := (List.length (α := UInt8) l0 : Int)) (m := fun h => M1 lw h) h g2.rel
        refine .of g3 ?_
        cases w with
        | c w =>
          obtain ⟨t2, f2, i⟩ := w
          cases t2 with
          | int k2 =>
            cases k2 with
            | i64 =>
              obtain ⟨f, j, rfl, rfl, h⟩ := intCase (K := fun j => fun st => ssub l0 i j fun r => outT N d (.c ⟨.str, .z, r⟩) k st) (nn := 69) hz (by
                cases z with
                | c w => obtain ⟨t2, f2, j⟩ := w; cases t2 with
                  | int k2 => cases k2 <;> exact h
                  | _ => exact h
                | _ => exact h)
              rw [intV hw]
              simp only [M1, hu]
              exact slice_str g3.rel h
            | _ => cases h
          | _ => cases h
        | _ => cases h
      | _ => cases h
    | sl r =>
      cases f1 with
      | sl f fs =>
        simp only [RelV] at hv
        subst hv
        rw [enc_sl]
        let es := (lis r l0).map fun e => encR r fs e
        let M1 : LV → LV → M Unit := fun l h => match l, h with
          | .t (.v (.int .i64 a)), .t (.v (.int .i64 b)) => if 0 ≤ a ∧ a ≤ b ∧ b ≤ (es.length : Int) ∧ f ≠ .own ∧ (rowInfo P t).isSome = true ∧ (∀ e ∈ es, e.length = ((rowInfo P t).getD []).length) then out d (.t (.sl f ((es.take b.toNat).drop a.toNat))) else .no
          | _, _ => .no
        obtain ⟨w, lw, vs2, h, hw, g2, _⟩ := evT_ref (N := N) (m := fun l => ev (hi.getD (.const (.int .i64 es.length))) fun h => M1 l h) h g1.rel
        refine .of g2 ?_
        simp only at h
        cases hr : rowT P t with
        | none => rw [hr] at h; cases h
        | some r' =>
        rw [hr] at h
        obtain ⟨zz, e, h1, h2, h3, h4⟩ := rowT_some hr
        simp only at h
        have hlen : ((es.length : Nat) : Int) = llen r l0 := by
          show (((lis r l0).map fun e => encR r fs e).length : Int) = _
          rw [List.length_map]
          rfl
        rw [hlen]
        obtain ⟨z, lz, vs3, h, hz, g3, _⟩ := hiT_ref (N := N) (m := fun h => M1 lw h) h g2.rel
        refine .of g3 ?_
        cases hc : (f.low && (Nat.beq r.length r'.length && Nat.beq fs.length r.length)) with
        | false =>
          rw [hc] at h
          cases w with
          | c w => obtain ⟨t2, f2, i⟩ := w; cases t2 with
            | int k2 => cases k2 with
              | i64 => cases z with
                | c z => obtain ⟨t3, f3, j⟩ := z; cases t3 with
                  | int k3 => cases k3 <;> cases h
                  | _ => cases h
                | _ => cases h
              | _ => cases h
            | _ => cases h
          | _ => cases h
        | true =>
          rw [hc] at h
          simp only [Bool.and_eq_true] at hc
          obtain ⟨hc0, hc1, hc2⟩ := hc
          have q1 := Nat.eq_of_beq_eq_true hc1
          have q2 := Nat.eq_of_beq_eq_true hc2
          cases w with
          | c w =>
            obtain ⟨t2, f2, i⟩ := w
            cases t2 with
            | int k2 =>
              cases k2 with
              | i64 =>
                obtain ⟨f', j, rfl, rfl, h⟩ := intCase (K := fun j => fun st => lsub r l0 i j fun y => outT N d (.c ⟨.sl r, .sl f fs, y⟩) k st) (nn := 71) hz (by
                  cases z with
                  | c w => obtain ⟨t2, f2, j⟩ := w; cases t2 with
                    | int k2 => cases k2 <;> exact h
                    | _ => exact h
                  | _ => exact h)
                rw [intV hw]
                refine slice_lst (p := f ≠ .own ∧ (rowInfo P t).isSome = true ∧ (∀ e ∈ es, e.length = ((rowInfo P t).getD []).length)) ⟨?_, ?_, ?_⟩ g3.rel h
                · intro hf
                  rw [hf] at hc0
                  cases hc0
                · rw [h1]; rfl
                · intro e he
                  obtain ⟨e0, _, rfl⟩ := List.mem_map.1 he
                  rw [h1, encR_length e0 q2, Option.getD_some, h4, q1]
              | _ => cases h
            | _ => cases h
          | _ => cases h
      | _ => exact (evT_no (n := 73) h).elim
    | _ => exact (evT_no (n := 73) h).elim
  | _ => exact (evT_no (n := 73) h).elim
theorem opT_ref {o : Oper} {k : Co ρ} (h : opT N P o k vs = some y) (R : Rel vs st) : Law N vs st k y (opM P o) := by
  unfold opM
  cases ho : o.op with
  | move x => simp only [opT, ho] at h; exact tv_move R h
  | assign x => simp only [opT, ho] at h; exact tv_move R h
  | pick a b c => simp only [opT, ho] at h; exact tv_pick R h
  | alloc t => simp only [opT, ho] at h; exact tv_alloc R h
  | box t x => simp only [opT, ho] at h; exact tv_box R h
  | build t ps => simp only [opT, ho] at h; exact tv_build R h
  | buildSlice t n ps => simp only [opT, ho] at h; exact tv_buildSlice R h
  | makeSlice t l c => simp only [opT, ho] at h; exact tv_makeSlice R h
  | load t x => simp only [opT, ho] at h; exact tv_load R h
  | store t x z => simp only [opT, ho] at h; exact tv_store R h
  | nilCheck x => simp only [opT, ho] at h; exact tv_nilCheck R h
  | binOp op t x z t' =>
    simp only [opT, ho] at h
    simp only
    obtain ⟨v, lv, vs1, h, hv, g1, _⟩ := evT_ref (N := N) (m := fun v => ev z fun u => match binV P t op v u with
      | some r => out o.dst (.t (.v r))
      | none => .no) h R
    refine .of g1 ?_
    obtain ⟨u, lu, vs2, h, hu, g2, _⟩ := evT_ref (N := N) (m := fun u => match binV P t op lv u with
      | some r => out o.dst (.t (.v r))
      | none => .no) h g1.rel
    exact .of g2 (binT_ref g2.rel hv hu h)
  | unOp op t x => simp only [opT, ho] at h; exact tv_unOp R h
  | fieldAddr s x f => simp only [opT, ho] at h; exact tv_fieldAddr R h
  | field s x f => simp only [opT, ho] at h; exact tv_field R h
  | indexAddr t x i => simp only [opT, ho] at h; exact tv_indexAddr R h
  | index t x i => simp only [opT, ho] at h; exact tv_index R h
  | extract x i => simp only [opT, ho] at h; exact tv_extract R h
  | makeFunc g a b => simp only [opT, ho] at h; exact tv_makeFunc R h
  | slice t x lo hi mx =>
    cases mx with
    | none => simp only [opT, ho] at h; exact tv_slice R h
    | some m => simp only [opT, ho] at h; cases h
  | convert s t x => simp only [opT, ho] at h; exact tv_convert R h
  | call c =>
    simp only [opT, ho] at h
    cases hc : c.callee with
    | builtin b =>
      cases ha : c.args.toList with
      | nil => rw [hc, ha] at h; cases b <;> cases h
      | cons x xs =>
        cases xs with
        | nil =>
          rw [hc, ha] at h
          simp only [hc, ha]
          cases b with
          | len => exact tv_len R h
          | _ => cases h
        | cons z zs =>
          cases zs with
          | nil =>
            rw [hc, ha] at h
            simp only [hc, ha]
            cases b with
            | max => exact tv_max R h
            | append => exact tv_append R h
            | _ => cases h
          | cons _ _ => rw [hc, ha] at h; cases b <;> cases h
    | value f => rw [hc] at h; cases h
    | invoke r m => rw [hc] at h; cases h
  | _ => simp only [opT, ho] at h; cases h
end
end Go.Proofs.Ytdlambaphhklpaa.TM
namespace Go.Proofs.Ytdlambaphhklpaa.TM
open Go
def AP.arg : AP → List T → Arg
  | .one _ _, ts => .one (ts.headD .hole)
  | .agg _, ts => .agg ts
  | .ptr _, ts => .ptr ts
  | .own _ _, ts => .own (ts.headD .hole)
  | .owns _, ts => .owns ts
def argsL : List AP → List T → List Arg
  | [], _ => []
  | a :: as, ts => a.arg (ts.take a.len) :: argsL as (ts.drop a.len)
mutual
theorem encT_frz : ∀ (t : ST) (f : Fg) (x : V t), okF t f = true → encT t f.frz x = TM.frz (encT t f x)
  | .int k, f, x, h => by simp only [encT, TM.frz]
  | .bool, f, x, h => by simp only [encT, TM.frz]
  | .str, f, x, h => by simp only [encT, TM.frz]
  | .hole, f, x, h => by simp [okF] at h
  | .sl r, f, x, h => by
    cases f with
    | sl g fs =>
      simp only [okF] at h
      simp only [Fg.frz, encT, TM.frz, frzLL_map, List.map_map]
      congr 1
      refine List.map_congr_left fun e _ => ?_
      exact encR_frz r fs e h
    | _ => simp [okF] at h
  | .pt r, f, x, h => by
    cases f with
    | pt g fs =>
      simp only [okF] at h
      simp only [Fg.frz, encT, TM.frz]
      rw [encR_frz r fs x h]
    | _ => simp [okF] at h
  | .fn g r, f, x, h => by
    cases f with
    | fn fs =>
      simp only [okF] at h
      simp only [Fg.frz, encT, TM.frz]
      rw [encR_frz r fs x h]
    | _ => simp [okF] at h
theorem encR_frz : ∀ (r : List ST) (fs : List Fg) (x : R r), okFs r fs = true → encR r (Fg.frzs fs) x = frzL (encR r fs x)
  | [], fs, x, h => by simp only [encR, frzL]
  | t :: r, [], x, h => by simp [okFs] at h
  | t :: r, f :: fs, x, h => by
    simp only [okFs, Bool.and_eq_true] at h
    simp only [Fg.frzs, encR, frzL]
    rw [encT_frz t f (headR t r x) h.1, encR_frz r fs (tailR t r x) h.2]
end
structure Rd (N : Nat) (st : St) (vs vs' : VS) (l : List Ac) : Prop where
  same : Same vs vs'
  fits : fitsT N l st
  rd : ∀ x ∈ l, isRead x
  cov : Covers l vs.lg vs'.lg
theorem Rd.nil {N : Nat} {st : St} {vs : VS} : Rd N st vs vs [] := ⟨.rfl, trivial, by simp, .nil⟩
theorem fits_reads {N : Nat} {l l' : List Ac} {st : St} (h : ∀ x ∈ l, isRead x) : fitsT N (l ++ l') st ↔ fitsT N l st ∧ fitsT N l' st := by
  rw [fitsT_append, appT_reads _ _ h]
theorem Rd.trans {N : Nat} {st : St} {a b c : VS} {l l' : List Ac} (h : Rd N st a b l) (k : Rd N st b c l') : Rd N st a c (l ++ l') :=
  ⟨h.same.trans k.same, (fits_reads h.rd).2 ⟨h.fits, k.fits⟩, fun x hx => (List.mem_append.1 hx).elim (h.rd x) (k.rd x), h.cov.trans k.cov⟩
theorem Rd.rel {N : Nat} {st : St} {a b : VS} {l : List Ac} (h : Rd N st a b l) (R : Rel a st) : Rel b st := by
  have := R.lg b.lg
  rw [← h.same.1, ← h.same.2] at this
  exact this
section
variable {ρ : Type} {N : Nat} {vs vs' : VS} {st : St} {y : ρ}
theorem lendZ_some {t : ST} {f : Fg} {c : Cl} {k : Cl → Res ρ} (h : lendZ t f c k = some y) : ∃ x : V t, k ⟨t, f, x⟩ = some y ∧ encT t f x = frz c.enc := by
  unfold lendZ at h
  cases hc : (okF c.t c.f && Fg.beq c.f.frz f) with
  | true =>
    rw [hc] at h
    simp only [Bool.and_eq_true] at hc
    obtain ⟨e, h⟩ := castV_some h
    refine ⟨_, h, ?_⟩
    obtain ⟨t0, f0, x0⟩ := c
    simp only at e hc
    subst e
    rw [← Fg.beq_eq _ _ hc.2]
    exact encT_frz t0 f0 x0 hc.1
  | false =>
    rw [hc] at h
    simp only at h
    split at h
    · rename_i fs h1 h2
      refine ⟨_, h, ?_⟩
      obtain ⟨t0, f0, x0⟩ := c
      simp only at h1 h2
      subst h1
      subst h2
      simp [encT, Cl.enc, lnil, lis, TM.frz, frzLL]
    · cases h
theorem lendC_some {t : ST} {f : Fg} {c : Cl} {k : Cl → Res ρ} (h : lendC t f c k = some y) : ∃ x : V t, k ⟨t, f, x⟩ = some y ∧ (encT t f x = c.enc ∨ encT t f x = frz c.enc) := by
  unfold lendC at h
  cases hc : Fg.beq c.f f with
  | true =>
    rw [hc] at h
    obtain ⟨e, h⟩ := castV_some h
    refine ⟨_, h, .inl ?_⟩
    obtain ⟨t0, f0, x0⟩ := c
    simp only at e
    subst e
    rw [← Fg.beq_eq _ _ hc]
    rfl
  | false =>
    rw [hc] at h
    obtain ⟨x, h1, h2⟩ := lendZ_some h
    exact ⟨x, h1, .inr h2⟩
theorem lendZs_some : ∀ {r : List (ST × Fg)} {cs : List Cl} {k : List Cl → Res ρ}, lendZs r cs k = some y → ∃ xs, k xs = some y ∧ encs xs = frzL ((encs cs).take xs.length) ∧ xs.length = r.length
  | [], cs, k, h => ⟨[], h, by simp [encs, frzL], rfl⟩
  | (t, f) :: r, c :: cs, k, h => by
    simp only [lendZs] at h
    obtain ⟨x, h, h1⟩ := lendZ_some h
    obtain ⟨xs, h, h2, h3⟩ := lendZs_some h
    refine ⟨_, h, ?_, by simp [h3]⟩
    simp only [encs, List.map_cons, List.length_cons, List.take_succ_cons, frzL] at h2 ⊢
    rw [h2]
    congr 1
  | _ :: _, [], k, h => by cases h
theorem zipF_len : ∀ {r : List ST} {fs : List Fg}, fs.length = r.length → (zipF r fs).length = r.length
  | [], [], _ => rfl
  | t :: r, f :: fs, h => by simp only [zipF, List.length_cons]; rw [zipF_len (by simpa using h)]
  | [], _ :: _, h => by simp at h
  | _ :: _, [], h => by simp at h
theorem rB_fits {n : Nm} {x : Box} {st' : St} (h : fitsT N [.rB n x] st') : st'.b n = x := h.1
theorem rowC_rd {n : Nm} {p : Pth} {k : List Cl → Co ρ} (h : rowC n p k vs = some y) (R : Rel vs st) :
    ∃ row vs', k row vs' = some y ∧ rowAt (st.b n).cells (pthL p) = some (encs row) ∧ Rd N st vs vs' [.rB n (st.b n)] := by
  simp only [rowC, rdB] at h
  split at h
  · rename_i x hx
    obtain ⟨h1, h2⟩ := R.b n x hx
    obtain ⟨row, h, h3⟩ := getAt_ref _ _ _ h
    exact ⟨row, _, h, by rw [h2]; exact h3, ⟨rfl, rfl⟩, ⟨rfl, trivial⟩, by simp [isRead], .one (f := .rB n) rfl⟩
  · cases h
theorem encs_mkRow {r : List ST} {fs : List Fg} {cs : List Cl} {k : R r → Res ρ} (h : mkRow r fs cs k = some y) : ∃ e, k e = some y ∧ encR r fs e = encs cs ∧ cs.length = r.length ∧ fs.length = r.length :=
  let ⟨h1, h2⟩ := mkRow_len h
  let ⟨e, h3, h4⟩ := mkRow_some h
  ⟨e, h3, h4, h1, h2⟩
theorem free_idx {mv : List (Option Nm)} {n : Nm} (h : inM n mv = false) : mvIdx n 0 mv = none := by
  have key : ∀ (l : List (Option Nm)) (i : Nat), inM n l = false → mvIdx n i l = none := by
    intro l
    induction l with
    | nil => intro i _; rfl
    | cons o l ih =>
      intro i h
      cases o with
      | none => simp only [inM] at h; simp only [mvIdx]; exact ih _ h
      | some m =>
        simp only [inM, Bool.or_eq_false_iff] at h
        have : m ≠ n := by
          intro e
          subst e
          rw [nm_eq.2 rfl] at h
          exact absurd h.1 (by simp)
        simp only [mvIdx, if_neg this]
        exact ih _ h.2
  exact key mv 0 h
mutual
theorem lendT_ref : ∀ (v : TV) {lv : LV} {t : ST} {f : Fg} {k : Cl → Co ρ} {vs : VS}, lendT v t f k vs = some y → Rel vs st → RelV (Qs st.b) v lv →
    ∃ c vs' l, k c vs' = some y ∧ Rd N st vs vs' l ∧ ∀ (mv : List (Option Nm)) (lent : Bool), (lends? v = true → lent = true) → freeT mv v = true → ∀ st', fitsT N l st' → lend st' mv lent lv c.enc
  | .c x, lv, t, f, k, vs, h, R, hv => by
    simp only [lendT] at h
    obtain ⟨z, h, h1⟩ := lendC_some h
    simp only [RelV] at hv
    subst hv
    refine ⟨_, vs, [], h, .nil, fun mv lent hl hm st' _ => ?_⟩
    simp only [lend]
    exact h1
  | .ref n p (some s), lv, t, f, k, vs, h, R, hv => by simp only [RelV] at hv
  | .ref n p none, lv, t, f, k, vs, h, R, hv => by
    cases t with
    | sl r =>
      cases f with
      | sl g fs =>
        cases g with
        | fz =>
          simp only [lendT] at h
          obtain ⟨row, vs1, h, hrow, g1⟩ := rowC_rd (N := N) h R
          cases row with
          | nil => cases h
          | cons z rest =>
            obtain ⟨t1, f1, l⟩ := z
            cases t1 with
            | sl r' =>
              simp only at h
              cases hf : ownF f1 with
              | false => rw [hf] at h; cases h
              | true =>
                rw [hf] at h
                obtain ⟨x, h, h1⟩ := lendZ_some h
                obtain ⟨es, hes⟩ := ownF_enc (l := l) hf
                refine ⟨_, vs1, _, h, g1, fun mv lent hl hm st' hfit => ?_⟩
                simp only [RelV] at hv
                obtain ⟨hi, rfl, es', r0, hes', hhi⟩ := hv
                have e1 : encs (⟨.sl r', f1, l⟩ :: rest) = .sl .own es :: encs rest := by rw [← hes]; rfl
                rw [hrow, e1] at hes'
                cases hes'
                have h2 : (Cl.mk (.sl r) (.sl .fz fs) x).enc = .sl .fz (frzLL es) := by
                  show encT _ _ _ = _
                  rw [h1, hes]
                  rfl
                rw [h2]
                simp only [lend]
                refine ⟨hl rfl, free_idx (by simpa [freeT] using hm), ?_⟩
                rw [rB_fits hfit, hrow, e1]
                simp only [hhi, List.take_length, List.drop_zero]
            | _ => cases h
        | _ => cases h
      | _ => cases h
    | _ => cases h
  | .addr n p, lv, t, f, k, vs, h, R, hv => by
    cases t with
    | pt r =>
      cases f with
      | pt g fs =>
        cases g with
        | fz =>
          simp only [lendT] at h
          obtain ⟨row, vs1, h, hrow, g1⟩ := rowC_rd (N := N) h R
          obtain ⟨xs, h, h1, h2⟩ := lendZs_some h
          obtain ⟨e, h, h3, h4, h5⟩ := encs_mkRow h
          refine ⟨_, vs1, _, h, g1, fun mv lent hl hm st' hfit => ?_⟩
          rw [addrV hv]
          have h6 : (Cl.mk (.pt r) (.pt .fz fs) e).enc = .pt .fz (encs xs) := by
            show T.pt .fz (encR r fs e) = _
            rw [h3]
          rw [h6]
          simp only [lend]
          refine ⟨hl rfl, free_idx (by simpa [freeT] using hm), ?_⟩
          rw [rB_fits hfit, hrow]
          simp only
          rw [show (encs xs).length = xs.length by simp [encs]]
          exact h1
        | _ => cases h
      | _ => cases h
    | _ => cases h
  | .raddr cs, lv, t, f, k, vs, h, R, hv => by
    cases t with
    | pt r =>
      cases f with
      | pt g fs =>
        cases g with
        | fz =>
          simp only [lendT] at h
          cases hc : Nat.beq r.length cs.length with
          | false => rw [hc] at h; cases h
          | true =>
            rw [hc] at h
            obtain ⟨xs, h, h1, h2⟩ := lendZs_some h
            obtain ⟨e, h, h3, h4, h5⟩ := encs_mkRow h
            refine ⟨_, vs, [], h, .nil, fun mv lent hl hm st' _ => ?_⟩
            simp only [RelV] at hv
            subst hv
            have h6 : (Cl.mk (.pt r) (.pt .fz fs) e).enc = .pt .fz (encs xs) := by
              show T.pt .fz (encR r fs e) = _
              rw [h3]
            rw [h6]
            simp only [lend]
            refine ⟨trivial, .inr ?_⟩
            rw [h1, List.take_of_length_le]
            rw [h4, Nat.eq_of_beq_eq_true hc]
            simp [encs]
        | _ => cases h
      | _ => cases h
    | _ => cases h
  | .fn g xs, lv, t, f, k, vs, h, R, hv => by
    cases t with
    | fn g' r =>
      cases f with
      | fn fs =>
        simp only [lendT] at h
        cases hc : Nat.beq g g' with
        | false => rw [hc] at h; cases h
        | true =>
          rw [hc] at h
          simp only [RelV] at hv
          obtain ⟨us, rfl, hu⟩ := hv
          obtain ⟨cs, vs1, l, h, g1, h1, _⟩ := lendTs_ref xs h R hu
          obtain ⟨e, h, h3, h4, h5⟩ := encs_mkRow h
          refine ⟨_, vs1, l, h, g1, fun mv lent hl hm st' hfit => ?_⟩
          have h6 : (Cl.mk (.fn g' r) (.fn fs) e).enc = .fn (.func g') (encs cs) := by
            show T.fn (.func g') (encR r fs e) = _
            rw [h3]
          rw [h6]
          simp only [lend]
          exact ⟨by rw [Nat.eq_of_beq_eq_true hc], h1 mv lent (fun hx => hl (by simpa [lends?] using hx)) (by simpa [freeT] using hm) st' hfit⟩
      | _ => cases h
    | _ => cases h
  | .agg xs, lv, t, f, k, vs, h, R, hv => by cases t <;> cases f <;> cases h
  | .tup xs, lv, t, f, k, vs, h, R, hv => by cases t <;> cases f <;> cases h
  | .dead, lv, t, f, k, vs, h, R, hv => by cases t <;> cases f <;> cases h
theorem lendTs_ref : ∀ (xs : List TV) {lvs : List LV} {r : List (ST × Fg)} {k : List Cl → Co ρ} {vs : VS}, lendTs xs r k vs = some y → Rel vs st → RelVs (Qs st.b) xs lvs →
    ∃ cs vs' l, k cs vs' = some y ∧ Rd N st vs vs' l ∧ (∀ (mv : List (Option Nm)) (lent : Bool), (lendss? xs = true → lent = true) → freeTs mv xs = true → ∀ st', fitsT N l st' → lends st' mv lent lvs (encs cs)) ∧ cs.length = r.length
  | [], lvs, r, k, vs, h, R, hv => by
    cases r with
    | nil =>
      simp only [RelVs] at hv
      subst hv
      exact ⟨[], vs, [], h, .nil, fun _ _ _ _ _ _ => by simp [encs, lends], rfl⟩
    | cons _ _ => cases h
  | x :: xs, [], r, k, vs, h, R, hv => by simp only [RelVs] at hv
  | x :: xs, v :: lvs, r, k, vs, h, R, hv => by
    cases r with
    | nil => cases h
    | cons tf r =>
      obtain ⟨t, f⟩ := tf
      simp only [lendTs] at h
      simp only [RelVs] at hv
      obtain ⟨c, vs1, l1, h, g1, k1⟩ := lendT_ref x h R hv.1
      obtain ⟨cs, vs2, l2, h, g2, k2, k3⟩ := lendTs_ref xs h (g1.rel R) hv.2
      refine ⟨c :: cs, vs2, l1 ++ l2, h, g1.trans g2, fun mv lent hl hm st' hfit => ?_, by simp [k3]⟩
      obtain ⟨q1, q2⟩ := (fits_reads g1.rd).1 hfit
      simp only [freeTs, Bool.and_eq_true] at hm
      simp only [encs, List.map_cons, lends]
      exact ⟨k1 mv lent (fun hx => hl (by simp [lendss?, hx])) hm.1 st' q1, k2 mv lent (fun hx => hl (by simp [lendss?, hx])) hm.2 st' q2⟩
end
end
end Go.Proofs.Ytdlambaphhklpaa.TM
namespace Go.Proofs.Ytdlambaphhklpaa.TM
open Go
def outsL : List (List (ST × Fg)) → List T → List (List T)
  | [], _ => []
  | o :: os, ts => ts.take o.length :: outsL os (ts.drop o.length)
section
variable {ρ : Type} {N : Nat} {vs vs' : VS} {st : St} {y : ρ}
theorem argsT_ref : ∀ {as : List AP} {xs : List TV} {lvs : List LV} {k : List Cl → List (Option Nm) → Co ρ} {vs : VS}, argsT xs as k vs = some y → Rel vs st → RelVs (Qs st.b) xs lvs →
    ∃ cs mv vs' l, k cs mv vs' = some y ∧ Rd N st vs vs' l ∧ mv.length = as.length ∧ ∀ (mv0 : List (Option Nm)) (lent : Bool), (lendsA? xs as = true → lent = true) → freeA mv0 xs as = true → ∀ st', fitsT N l st' → argsOK st' mv0 lent mv lvs (argsL as (encs cs))
  | [], xs, lvs, k, vs, h, R, hv => by
    cases xs with
    | nil =>
      simp only [RelVs] at hv
      subst hv
      exact ⟨[], [], vs, [], h, .nil, rfl, fun _ _ _ _ _ _ => by simp [argsL, argsOK]⟩
    | cons _ _ => cases h
  | a :: as, [], lvs, k, vs, h, R, hv => by cases h
  | a :: as, x :: xs, [], k, vs, h, R, hv => by simp only [RelVs] at hv
  | a :: as, x :: xs, v :: lvs, k, vs, h, R, hv => by
    simp only [RelVs] at hv
    cases a with
    | one t f =>
      simp only [argsT] at h
      obtain ⟨c, vs1, l1, h, g1, k1⟩ := lendT_ref (N := N) x h R hv.1
      obtain ⟨cs, mv, vs2, l2, h, g2, k2, k3⟩ := argsT_ref h (g1.rel R) hv.2
      refine ⟨c :: cs, none :: mv, vs2, l1 ++ l2, h, g1.trans g2, by simp [k2], fun mv0 lent hl hf st' hfit => ?_⟩
      obtain ⟨q1, q2⟩ := (fits_reads g1.rd).1 hfit
      simp only [freeA, Bool.and_eq_true] at hf
      simp only [encs, List.map_cons, argsL, AP.len, List.take_succ_cons, List.take_zero, List.drop_succ_cons, List.drop_zero, argsOK, AP.arg, List.headD_cons, argOK]
      exact ⟨⟨trivial, k1 mv0 lent (fun hh => hl (by simp [lendsA?, hh])) hf.1 st' q1⟩, k3 mv0 lent (fun hh => hl (by simp [lendsA?, hh])) hf.2 st' q2⟩
    | agg r =>
      cases x with
      | agg us =>
        simp only [argsT] at h
        simp only [RelV] at hv
        obtain ⟨⟨lus, rfl, hu⟩, hv2⟩ := hv
        obtain ⟨c, vs1, l1, h, g1, k1, k4⟩ := lendTs_ref (N := N) us h R hu
        obtain ⟨cs, mv, vs2, l2, h, g2, k2, k3⟩ := argsT_ref h (g1.rel R) hv2
        refine ⟨c ++ cs, none :: mv, vs2, l1 ++ l2, h, g1.trans g2, by simp [k2], fun mv0 lent hl hf st' hfit => ?_⟩
        obtain ⟨q1, q2⟩ := (fits_reads g1.rd).1 hfit
        simp only [freeA, Bool.and_eq_true, freeT] at hf
        have e1 : (encs (c ++ cs)).take r.length = encs c := by simp [encs, ← k4]
        have e2 : (encs (c ++ cs)).drop r.length = encs cs := by simp [encs, ← k4]
        simp only [argsL, AP.len, e1, e2, argsOK, AP.arg, argOK]
        exact ⟨⟨trivial, k1 mv0 lent (fun hh => hl (by simp [lendsA?, lends?, hh])) hf.1 st' q1⟩, k3 mv0 lent (fun hh => hl (by simp [lendsA?, hh])) hf.2 st' q2⟩
      | _ => cases h
    | ptr r =>
      cases x with
      | addr n p =>
        obtain ⟨c0, pr⟩ := p
        cases c0 with
        | succ _ => cases pr <;> cases h
        | zero =>
          cases pr with
          | cons _ _ => cases h
          | nil =>
            simp only [argsT, rdB] at h
            cases hb : lookB vs.b n with
            | none => rw [hb] at h; cases h
            | some bx =>
              rw [hb] at h
              simp only at h
              cases hc : (bx.real && Nat.beq bx.cells.length r.length) with
              | false => rw [hc] at h; cases h
              | true =>
                rw [hc] at h
                simp only [Bool.and_eq_true] at hc
                have hlen := Nat.eq_of_beq_eq_true hc.2
                obtain ⟨b1, b2⟩ := R.b n bx hb
                obtain ⟨cs, mv, vs2, l2, h, g2, k2, k3⟩ := argsT_ref h (R.lg _) hv.2
                refine ⟨bx.cells ++ cs, some n :: mv, vs2, [.rB n (st.b n)] ++ l2, h, Rd.trans (show Rd N st vs ⟨vs.s, vs.b, .rB n :: vs.lg⟩ [.rB n (st.b n)] from ⟨⟨rfl, rfl⟩, ⟨rfl, trivial⟩, by simp [isRead], .one (f := .rB n) rfl⟩) g2, by simp [k2], fun mv0 lent hl hf st' hfit => ?_⟩
                obtain ⟨q1, q2⟩ := hfit
                have e1 : (encs (bx.cells ++ cs)).take r.length = encs bx.cells := by simp [encs, ← hlen]
                have e2 : (encs (bx.cells ++ cs)).drop r.length = encs cs := by simp [encs, ← hlen]
                have hst : st'.b n = st.b n := q1
                rw [addrV hv.1]
                simp only [argsL, AP.len, e1, e2, argsOK, AP.arg, argOK]
                exact ⟨⟨trivial, rfl, by rw [hst, b1]; exact hc.1, by rw [hst, b2]⟩, k3 mv0 lent (fun hh => hl (by simpa [lendsA?] using hh)) (by simpa [freeA] using hf) st' q2⟩
      | _ => cases h
    | own t f => cases x <;> cases h
    | owns r => cases x <;> cases h
theorem gone_eq {d : Nat} {m : Nm} : goneN d m = gone d m := by
  unfold goneN gone
  rw [Bool.eq_iff_iff]
  simp
theorem inM_idx {n : Nm} : ∀ {mv : List (Option Nm)} {i : Nat}, inM n mv = (mvIdx n i mv).isSome
  | [], i => rfl
  | none :: mv, i => by simp only [inM, mvIdx]; exact inM_idx
  | some m :: mv, i => by
    simp only [inM, mvIdx]
    by_cases h : m = n
    · subst h
      rw [nm_eq.2 rfl]
      simp
    · have : nmEq n m = false := by
        cases hh : nmEq n m with
        | false => rfl
        | true => exact absurd (nm_eq.1 hh).symm h
      rw [this, if_neg h]
      simpa using inM_idx
mutual
theorem RelV.callK {b b' : Nm → Box} {d : Nat} {mv : List (Option Nm)} {args : List Arg} {outs : List (List T)} (hb : ∀ n, goneN d n = false → inM n mv = false → (b' n).cells = (b n).cells) : ∀ (v : TV) (lv : LV), RelV (Qs b) v lv → RelV (Qs b') (callK d mv v) (callV d mv args outs lv)
  | .c x, lv, h => by simp only [RelV] at h; subst h; simp only [Go.Proofs.Ytdlambaphhklpaa.TM.callK, callV, RelV]
  | .ref m q none, lv, h => by
    simp only [RelV] at h
    obtain ⟨hi, rfl, h⟩ := h
    rw [Go.Proofs.Ytdlambaphhklpaa.TM.callK, callV]
    split
    · simp only [RelV]
    · rename_i hc
      simp only [Bool.or_eq_false_iff] at hc
      rw [← gone_eq, hc.1]
      have : mvIdx m 0 mv = none := free_idx hc.2
      simp only [Bool.false_eq_true, if_false, this, RelV]
      refine ⟨hi, rfl, ?_⟩
      unfold Qs
      rw [hb m hc.1 hc.2]
      exact h
  | .ref _ _ (some _), lv, h => by simp only [RelV] at h
  | .addr m q, lv, h => by
    simp only [RelV] at h
    subst h
    rw [Go.Proofs.Ytdlambaphhklpaa.TM.callK, callV]
    split
    · simp only [RelV]
    · rename_i hc
      simp only [Bool.or_eq_false_iff] at hc
      rw [← gone_eq, hc.1]
      simp only [Bool.false_eq_true, if_false]
      cases hm : mvIdx m 0 mv with
      | none => simp only [RelV]
      | some i =>
        have hin : inM m mv = true := by rw [inM_idx (i := 0), hm]; rfl
        rw [hin] at hc
        have : q.r = [] := by simpa using hc.2
        have hl : (pthL q).length = 1 := by rw [pthL_len, this]; rfl
        simp only [hl, if_true, RelV]
  | .raddr cs, lv, h => by
    simp only [RelV] at h
    subst h
    simp only [Go.Proofs.Ytdlambaphhklpaa.TM.callK, callV, RelV]
  | .agg xs, lv, h => by
    simp only [RelV] at h
    obtain ⟨vs, rfl, h⟩ := h
    simp only [Go.Proofs.Ytdlambaphhklpaa.TM.callK, callV, RelV]
    exact ⟨_, rfl, RelVs.callK hb xs vs h⟩
  | .tup xs, lv, h => by
    simp only [RelV] at h
    obtain ⟨vs, rfl, h⟩ := h
    simp only [Go.Proofs.Ytdlambaphhklpaa.TM.callK, callV, RelV]
    exact ⟨_, rfl, RelVs.callK hb xs vs h⟩
  | .fn g xs, lv, h => by
    simp only [RelV] at h
    obtain ⟨vs, rfl, h⟩ := h
    simp only [Go.Proofs.Ytdlambaphhklpaa.TM.callK, callV, RelV]
    exact ⟨_, rfl, RelVs.callK hb xs vs h⟩
  | .dead, lv, h => by simp only [Go.Proofs.Ytdlambaphhklpaa.TM.callK, RelV]
theorem RelVs.callK {b b' : Nm → Box} {d : Nat} {mv : List (Option Nm)} {args : List Arg} {outs : List (List T)} (hb : ∀ n, goneN d n = false → inM n mv = false → (b' n).cells = (b n).cells) : ∀ (xs : List TV) (vs : List LV), RelVs (Qs b) xs vs → RelVs (Qs b') (callKs d mv xs) (callVs d mv args outs vs)
  | [], vs, h => by simp only [RelVs] at h; subst h; simp only [callKs, callVs, RelVs]
  | x :: xs, [], h => by simp only [RelVs] at h
  | x :: xs, v :: vs, h => by
    simp only [RelVs] at h
    simp only [callKs, callVs, RelVs]
    exact ⟨RelV.callK hb x v h.1, RelVs.callK hb xs vs h.2⟩
end
theorem resTVs_rel {b : Nm → Box} {d : Nat} : ∀ (as : List AP) (cs : List Cl) (j : Nat), (as.flatMap AP.cts).length = cs.length → (∀ a ∈ as, a.isRes = true) →
    (∀ i, (b (d, j + i)) = resBox (argsL as (encs cs)) i) → RelVs (Qs b) (resTVs d j as cs) (resLVs d j (argsL as (encs cs)))
  | [], cs, j, _, _, _ => by simp [resTVs, argsL, resLVs, RelVs]
  | a :: as, cs, j, hl, ha, hb => by
    simp only [resTVs, argsL, resLVs, RelVs]
    have hb0 := hb 0
    have hcts : a.cts.length = a.len := by cases a <;> rfl
    have hle : a.len ≤ cs.length := by
      rw [List.flatMap_cons, List.length_append, hcts] at hl
      omega
    refine ⟨?_, ?_⟩
    · have hbox : (b (d, j)).cells = encs (cs.take a.len) := by
        rw [show j = j + 0 from rfl, hb0]
        cases a with
        | one t f =>
          cases cs with
          | nil => simp [AP.len] at hle
          | cons c cs => simp [argsL, resBox, AP.arg, Arg.given, AP.len, encs]
        | agg r => simp [argsL, resBox, AP.arg, Arg.given, AP.len, encs]
        | ptr r => simp [argsL, resBox, AP.arg, AP.len, encs]
        | own t f => have := ha _ (by simp : AP.own t f ∈ AP.own t f :: as); cases this
        | owns r => have := ha _ (by simp : AP.owns r ∈ AP.owns r :: as); cases this
      cases a with
      | one t f =>
        cases cs with
        | nil => simp [AP.len] at hle
        | cons c cs =>
          simp only [AP.len, List.take_succ_cons, List.take_zero, encs, List.map_cons, List.map_nil, AP.arg, List.headD_cons, resTV, resOne] at hbox ⊢
          exact seenT_rel (p := ⟨0, []⟩) (row := []) (by rw [hbox]; rfl)
      | agg r =>
        simp only [AP.len, AP.arg, resTV, resOne, RelV] at hbox ⊢
        rw [encs_take]
        exact ⟨_, rfl, seensT_rel (p := ⟨0, []⟩) _ 0 (row := []) (by rw [hbox, List.append_nil]; rfl)⟩
      | ptr r =>
        simp only [AP.arg, resTV, resOne, RelV]
        rfl
      | own t f => have := ha _ (by simp : AP.own t f ∈ AP.own t f :: as); cases this
      | owns r => have := ha _ (by simp : AP.owns r ∈ AP.owns r :: as); cases this
    · have := resTVs_rel (b := b) (d := d) as (cs.drop a.len) (j + 1) (by
        rw [List.flatMap_cons, List.length_append, hcts] at hl
        rw [List.length_drop]
        omega) (fun x hx => ha x (by simp [hx])) (fun i => by
        have := hb (i + 1)
        rw [show j + 1 + i = j + (i + 1) by omega, this]
        simp only [argsL]
        rw [← encs_drop]
        cases a <;> rfl)
      rw [← encs_drop] at this
      exact this
end
end Go.Proofs.Ytdlambaphhklpaa.TM
namespace Go.Proofs.Ytdlambaphhklpaa.TM
open Go
mutual
theorem noFz_enc : ∀ (t : ST) (f : Fg) (x : V t), f.noFz = true → noFz (encT t f x)
  | .int k, f, x, h => by simp only [encT, noFz]
  | .bool, f, x, h => by simp only [encT, noFz]
  | .str, f, x, h => by simp only [encT, noFz]
  | .hole, f, x, h => by simp only [encT, noFz]
  | .sl r, f, x, h => by
    cases f with
    | sl g fs =>
      simp only [Fg.noFz, Bool.and_eq_true, decide_eq_true_eq] at h
      simp only [encT, noFz]
      refine ⟨h.1, ?_⟩
      have : ∀ l : List (R r), noFzLL (l.map fun e => encR r fs e) := by
        intro l
        induction l with
        | nil => simp only [List.map_nil, noFzLL]
        | cons e l ih =>
          simp only [List.map_cons, noFzLL]
          exact ⟨noFzs_enc r fs e h.2, ih⟩
      exact this _
    | _ => simp [encT, noFz, noFzLL]
  | .pt r, f, x, h => by
    cases f with
    | pt g fs =>
      simp only [Fg.noFz, Bool.and_eq_true, decide_eq_true_eq] at h
      simp only [encT, noFz]
      exact ⟨h.1, noFzs_enc r fs x h.2⟩
    | _ => simp only [encT, noFz]
  | .fn g r, f, x, h => by
    cases f with
    | fn fs =>
      simp only [Fg.noFz] at h
      simp only [encT, noFz]
      exact noFzs_enc r fs x h
    | _ => simp only [encT, noFz]
theorem noFzs_enc : ∀ (r : List ST) (fs : List Fg) (x : R r), Fg.noFzs fs = true → noFzL (encR r fs x)
  | [], fs, x, h => by simp only [encR, noFzL]
  | t :: r, [], x, h => by simp only [encR, noFzL]
  | t :: r, f :: fs, x, h => by
    simp only [Fg.noFzs, Bool.and_eq_true] at h
    simp only [encR, noFzL]
    exact ⟨noFz_enc t f _ h.1, noFzs_enc r fs _ h.2⟩
end
theorem noFz_cells : ∀ (cs : List Cl), Fg.noFzs (cs.map (·.f)) = true → noFzL (encs cs)
  | [], _ => by simp [encs, noFzL]
  | c :: cs, h => by
    simp only [List.map_cons, Fg.noFzs, Bool.and_eq_true] at h
    have := noFz_cells cs h.2
    simp only [encs, List.map_cons, noFzL] at this ⊢
    exact ⟨noFz_enc c.t c.f c.x h.1, this⟩
theorem noFzL_iff : ∀ {ts : List T}, noFzL ts ↔ ∀ t ∈ ts, noFz t
  | [] => by simp [noFzL]
  | t :: ts => by simp [noFzL, noFzL_iff (ts := ts)]
section
variable {ρ : Type} {N : Nat} {vs vs' : VS} {st : St} {y : ρ}
theorem lookB_append : ∀ (a b : List (Nm × VB)) (n : Nm), lookB (a ++ b) n = match lookB a n with | some x => some x | none => lookB b n
  | [], b, n => rfl
  | (m, v) :: a, b, n => by
    simp only [List.cons_append, lookB]
    cases nmEq m n with
    | true => rfl
    | false => exact lookB_append a b n
theorem lookB_drop {d : Nat} : ∀ (l : List (Nm × VB)) (n : Nm) (x : VB), lookB (dropB d l) n = some x → goneN d n = false ∧ lookB l n = some x
  | [], n, x, h => by cases h
  | (m, v) :: l, n, x, h => by
    simp only [dropB] at h
    cases hg : goneN d m with
    | true =>
      rw [hg] at h
      obtain ⟨h1, h2⟩ := lookB_drop l n x h
      refine ⟨h1, ?_⟩
      simp only [lookB]
      have : nmEq m n = false := by
        cases hh : nmEq m n with
        | false => rfl
        | true => rw [nm_eq.1 hh, h1] at hg; cases hg
      rw [this]
      exact h2
    | false =>
      rw [hg] at h
      simp only [lookB] at h ⊢
      cases hh : nmEq m n with
      | true => rw [hh] at h; rw [nm_eq.1 hh] at hg; exact ⟨hg, h⟩
      | false => rw [hh] at h; exact lookB_drop l n x h
theorem lookB_res {d : Nat} : ∀ (as : List AP) (cs : List Cl) (j : Nat) (n : Nm) (x : VB), (as.flatMap AP.cts).length = cs.length → (∀ a ∈ as, a.isRes = true) → lookB (resBs d j as cs) n = some x →
    ∃ i, n = (d, j + i) ∧ (resBox (argsL as (encs cs)) i).real = x.real ∧ (resBox (argsL as (encs cs)) i).cells = encs x.cells
  | [], cs, j, n, x, _, _, h => by cases h
  | a :: as, cs, j, n, x, hl, ha, h => by
    simp only [resBs, lookB] at h
    have hcts : a.cts.length = a.len := by cases a <;> rfl
    have hle : a.len ≤ cs.length := by
      rw [List.flatMap_cons, List.length_append, hcts] at hl
      omega
    cases hn : nmEq (d, j) n with
    | true =>
      rw [hn] at h
      cases h
      refine ⟨0, (nm_eq.1 hn).symm, ?_⟩
      cases a with
      | one t f =>
        cases cs with
        | nil => simp [AP.len] at hle
        | cons c cs => simp [argsL, resBox, AP.arg, Arg.given, AP.len, encs, AP.isPtr]
      | agg r => simp [argsL, resBox, AP.arg, Arg.given, AP.len, encs, AP.isPtr]
      | ptr r => simp [argsL, resBox, AP.arg, AP.len, encs, AP.isPtr]
      | own t f => have := ha _ (by simp : AP.own t f ∈ AP.own t f :: as); cases this
      | owns r => have := ha _ (by simp : AP.owns r ∈ AP.owns r :: as); cases this
    | false =>
      rw [hn] at h
      obtain ⟨i, h1, h2, h3⟩ := lookB_res as (cs.drop a.len) (j + 1) n x (by
        rw [List.flatMap_cons, List.length_append, hcts] at hl
        rw [List.length_drop]
        omega) (fun x hx => ha x (by simp [hx])) h
      refine ⟨i + 1, by rw [h1, show j + (i + 1) = j + 1 + i by omega], ?_⟩
      have e : resBox (argsL (a :: as) (encs cs)) (i + 1) = resBox (argsL as (encs (cs.drop a.len))) i := by
        simp only [argsL]
        rw [← encs_drop]
        cases a <;> rfl
      rw [e]
      exact ⟨h2, h3⟩
theorem mvIdx_shift {n : Nm} : ∀ (mv : List (Option Nm)) (i : Nat), mvIdx n (i + 1) mv = (mvIdx n i mv).map (· + 1)
  | [], i => rfl
  | none :: mv, i => by simp only [mvIdx]; exact mvIdx_shift mv (i + 1)
  | some m :: mv, i => by
    simp only [mvIdx]
    split
    · rfl
    · exact mvIdx_shift mv (i + 1)
theorem nodup_ok : ∀ {mv : List (Option Nm)}, nodupM mv = true → mvOK mv
  | [], _ => trivial
  | none :: mv, h => by simp only [nodupM] at h; simp only [mvOK]; exact nodup_ok h
  | some n :: mv, h => by
    simp only [nodupM, Bool.and_eq_true] at h
    simp only [mvOK]
    refine ⟨free_idx ?_, nodup_ok h.2⟩
    have key : ∀ l : List (Option Nm), nodupM.go n l = true → inM n l = false := by
      intro l
      induction l with
      | nil => intro _; rfl
      | cons o l ih =>
        intro h
        cases o with
        | none => exact ih h
        | some m =>
          simp only [nodupM.go, Bool.and_eq_true, Bool.not_eq_true'] at h
          simp only [inM, Bool.or_eq_false_iff]
          exact ⟨h.1, ih h.2⟩
    exact key mv h.1
theorem backB_spec : ∀ (mv : List (Option Nm)) (os : List (List (ST × Fg))) (cs : List Cl) (l : List (Nm × VB)) (n : Nm) (x : VB), mvOK mv → mv.length = os.length → lookB (backB mv os cs l) n = some x →
    (mvIdx n 0 mv = none ∧ lookB l n = some x) ∨ (∃ i z, mvIdx n 0 mv = some i ∧ lookB l n = some z ∧ x.real = z.real ∧ encs x.cells = (outsL os (encs cs)).getD i [])
  | [], os, cs, l, n, x, _, hl, h => by
    cases os with
    | nil => exact .inl ⟨rfl, h⟩
    | cons _ _ => simp at hl
  | o :: mv, [], cs, l, n, x, _, hl, h => by simp at hl
  | none :: mv, o :: os, cs, l, n, x, hm, hl, h => by
    simp only [backB] at h
    simp only [mvOK] at hm
    rcases backB_spec mv os _ l n x hm (by simpa using hl) h with ⟨h1, h2⟩ | ⟨i, z, h1, h2, h3, h4⟩
    · left
      exact ⟨by simp only [mvIdx]; rw [show (0 + 1) = 0 + 1 from rfl, mvIdx_shift, h1]; rfl, h2⟩
    · right
      refine ⟨i + 1, z, by simp only [mvIdx]; rw [mvIdx_shift, h1]; rfl, h2, h3, ?_⟩
      rw [h4]
      simp only [outsL, encs_drop, List.getD_cons_succ]
  | some m :: mv, o :: os, cs, l, n, x, hm, hl, h => by
    simp only [backB] at h
    simp only [mvOK] at hm
    have hl' : mv.length = os.length := by simpa using hl
    by_cases hmn : m = n
    · subst hmn
      rcases backB_spec mv os _ _ m x hm.2 hl' h with ⟨h1, h2⟩ | ⟨i, z, h1, h2, h3, h4⟩
      · cases hlk : lookB l m with
        | none => rw [hlk] at h2; simp only at h2; rw [hlk] at h2; cases h2
        | some z =>
          rw [hlk] at h2
          simp only [lookB, nm_eq.2 rfl] at h2
          cases h2
          right
          refine ⟨0, z, by simp [mvIdx], rfl, rfl, ?_⟩
          simp only [outsL, List.getD_cons_zero, encs_take]
      · rw [hm.1] at h1
        cases h1
    · have hne : nmEq m n = false := by
        cases hh : nmEq m n with
        | false => rfl
        | true => exact absurd (nm_eq.1 hh) hmn
      have hlk : lookB (match lookB l m with
        | some x => (m, ⟨x.real, cs.take o.length⟩) :: l
        | none => l) n = lookB l n := by
        cases lookB l m with
        | none => rfl
        | some z => simp only [lookB, hne]
      rcases backB_spec mv os _ _ n x hm.2 hl' h with ⟨h1, h2⟩ | ⟨i, z, h1, h2, h3, h4⟩
      · left
        exact ⟨by simp only [mvIdx]; rw [if_neg hmn, mvIdx_shift, h1]; rfl, hlk.symm.trans h2⟩
      · right
        refine ⟨i + 1, z, by simp only [mvIdx]; rw [if_neg hmn, mvIdx_shift, h1]; rfl, hlk.symm.trans h2, h3, ?_⟩
        rw [h4]
        simp only [outsL, encs_drop, List.getD_cons_succ]
theorem allRes_mem : ∀ {as : List AP}, allRes as = true → ∀ a ∈ as, a.isRes = true
  | [], _, a, h => by simp at h
  | x :: as, h, a, ha => by
    simp only [allRes, Bool.and_eq_true] at h
    rcases List.mem_cons.1 ha with rfl | ha
    · exact h.1
    · exact allRes_mem h.2 a ha
theorem tup_rel {Q : Nm → Pth → Nat → Prop} {xs : List TV} {us : List LV} (h : RelVs Q xs us) : RelV Q (tupT xs) (tupLV us) := by
  cases xs with
  | nil => simp only [RelVs] at h; subst h; simp only [tupT, tupLV, RelV]; exact ⟨[], rfl, by simp only [RelVs]⟩
  | cons x xs =>
    cases us with
    | nil => simp only [RelVs] at h
    | cons u us =>
      have h' := h
      simp only [RelVs] at h
      cases xs with
      | nil =>
        have : us = [] := by have := h.2; simp only [RelVs] at this; exact this
        subst this
        exact h.1
      | cons x2 xs =>
        cases us with
        | nil => have := h.2; simp only [RelVs] at this
        | cons u2 us => simp only [tupT, tupLV, RelV]; exact ⟨_, rfl, h'⟩
def Lb.outsT (l : Lb) (cs : List Cl) : List (List T) := outsL l.outs (encs (cs.take (outLen l)))
def Lb.resT (l : Lb) (cs : List Cl) : List Arg := argsL l.res (encs (cs.drop (outLen l)))
theorem afterT_rel {l : Lb} {d : Nat} {mv : List (Option Nm)} {cs : List Cl} {args : List Arg} (R : Rel vs st) (hcs : cs.length = l.outT.length) (hm : mvOK mv) (hl : l.outs.length = mv.length) (hr : allRes l.res = true) :
    Rel (afterT l d mv cs vs) (afterCall st d mv args (l.outsT cs) (l.resT cs)) := by
  have hlen : (l.res.flatMap AP.cts).length = (cs.drop (outLen l)).length := by
    rw [List.length_drop, hcs]
    unfold Lb.outT outLen
    rw [List.length_append]
    omega
  refine ⟨fun t => ?_, fun n x hx => ?_⟩
  · by_cases ht : t = d
    · subst ht
      have e : lookS (afterT l t mv cs vs).s t = tupT (resTVs t 2 l.res (cs.drop (outLen l))) := by
        simp only [afterT, lookS]
        rw [show Nat.beq t t = true from Nat.beq_refl t]
      rw [e]
      simp only [afterCall, if_true, resLV]
      refine tup_rel (resTVs_rel _ _ _ hlen (allRes_mem hr) fun i => ?_)
      have hg : gone t (t, 2 + i) = true := by simp [gone]
      rw [if_pos hg]
      simp only [Lb.resT]
      rw [show 2 + i - 2 = i by omega]
    · have hbt : Nat.beq d t = false := by
        cases hb : Nat.beq d t with
        | false => rfl
        | true => exact absurd (Nat.eq_of_beq_eq_true hb).symm ht
      have e : lookS (afterT l d mv cs vs).s t = callK d mv (lookS vs.s t) := by
        simp only [afterT, lookS, hbt]
        exact look_killS _ (by simp [callK]) _ _
      rw [e]
      simp only [afterCall, if_neg ht]
      refine RelV.callK (fun n hg hn => ?_) _ _ (R.s t)
      rw [gone_eq] at hg
      rw [if_neg (by rw [hg]; simp), free_idx hn]
  · simp only [afterT] at hx
    rw [lookB_append] at hx
    simp only [afterCall]
    cases h1 : lookB (resBs d 2 l.res (cs.drop (outLen l))) n with
    | some z =>
      rw [h1] at hx
      cases hx
      obtain ⟨i, rfl, h2, h3⟩ := lookB_res _ _ _ _ _ hlen (allRes_mem hr) h1
      have hg : gone d (d, 2 + i) = true := by simp [gone]
      rw [if_pos hg, show 2 + i - 2 = i by omega]
      exact ⟨h2, h3⟩
    | none =>
      rw [h1] at hx
      obtain ⟨h2, h3⟩ := lookB_drop _ _ _ hx
      rw [gone_eq] at h2
      rw [if_neg (by rw [h2]; simp)]
      rcases backB_spec _ _ _ _ _ _ hm hl.symm h3 with ⟨h4, h5⟩ | ⟨i, z, h4, h5, h6, h7⟩
      · rw [h4]
        exact R.b n x h5
      · rw [h4]
        refine ⟨by rw [h6]; exact (R.b n z h5).1, ?_⟩
        exact h7.symm
end
end Go.Proofs.Ytdlambaphhklpaa.TM
namespace Go.Proofs.Ytdlambaphhklpaa.TM
open Go
def stk (body : Code) : List Nat → List It
  | [] => []
  | i :: q => match codeAt body q.reverse with
    | some (.seq _ z) => if i = 0 then .c z :: stk body q else stk body q
    | some (.block id _) => .blk id :: stk body q
    | some (.loop x) => .lp x :: stk body q
    | _ => stk body q
def Lb.cells (l : Lb) (z : R l.outS) : List Cl := ofRow l.outT z
def J (P : Program) (l : Lb) (x : R l.inS) (z : R l.outS) : Prop := match l.q with
  | none => Fun P l.f (argsL l.args (encs (ofRow l.inT x))) (l.outsT (l.cells z)) (l.resT (l.cells z))
  | some q => ∀ (C : Ctx) (fn : Func) (c node : Code) (st : St), P.funcs[l.f]? = some fn → fn.body = some c → codeAt c q.reverse = some node → C.P = P → C.N = fn.ntmps →
      Rel (l.start x) st → Good C l.f (Post C (l.outsT (l.cells z)) (l.resT (l.cells z))) (.c node :: stk c q) st
def Right (P : Program) (rec : Rec) : Prop := ∀ l x z, rec l x = some z → J P l x z
section
variable {ρ : Type} {N : Nat} {vs vs' : VS} {st : St} {y : ρ}
theorem evT_rd {x : Operand} {k : TV → Co ρ} (h : evT x k vs = some y) (R : Rel vs st) :
    ∃ v lv vs' l, k v vs' = some y ∧ RelV (Qs st.b) v lv ∧ Rd N st vs vs' l ∧ ∀ st', fitsT N l st' → st'.ev x = some lv := by
  cases x with
  | tmp t => exact ⟨_, st.s t, _, [.rS t (st.s t)], h, R.s t, ⟨⟨rfl, rfl⟩, ⟨rfl, trivial⟩, by simp [isRead], .one (f := .rS t (lookS vs.s t)) ⟨rfl, (R.s t).t⟩⟩, fun st' hf => by have : st'.s t = st.s t := hf.1; simp only [St.ev, this]⟩
  | const v => exact ⟨_, _, _, [], h, rel_const v, .nil, fun _ _ => rfl⟩
  | func f => exact ⟨.fn f [], .fn (.func f) [], vs, [], h, (show RelV (Qs st.b) (.fn f []) (.fn (.func f) []) from by simp [RelV, RelVs]), .nil, fun _ _ => rfl⟩
  | global g => cases h
theorem evTs_rd : ∀ {xs : List Operand} {vs : VS} {k : List TV → Co ρ}, evTs xs k vs = some y → Rel vs st →
    ∃ v lv vs' l, k v vs' = some y ∧ RelVs (Qs st.b) v lv ∧ Rd N st vs vs' l ∧ ∀ st', fitsT N l st' → st'.evL xs = some lv
  | [], vs, k, h, R => ⟨[], [], vs, [], h, by simp [RelVs], .nil, fun _ _ => rfl⟩
  | x :: xs, vs, k, h, R => by
    obtain ⟨v, lv, vs1, l1, h, hv, g1, k1⟩ := evT_rd (N := N) h R
    obtain ⟨us, lus, vs2, l2, h, hu, g2, k2⟩ := evTs_rd h (g1.rel R)
    refine ⟨_, lv :: lus, _, _, h, by simp only [RelVs]; exact ⟨hv, hu⟩, g1.trans g2, fun st' hf => ?_⟩
    obtain ⟨q1, q2⟩ := (fits_reads g1.rd).1 hf
    simp only [St.evL, k1 st' q1, k2 st' q2]
theorem pickA_some {g : Nat} {bs : List (Nm × VB)} {us : List TV} : ∀ {ls : List Lb} {l : Lb}, pickA g bs us ls = some l → l.q = none ∧ l.f = g
  | [], _, h => by cases h
  | l0 :: ls, l, h => by
    simp only [pickA] at h
    split at h
    · rename_i hc
      cases h
      simp only [Bool.and_eq_true] at hc
      refine ⟨?_, Nat.eq_of_beq_eq_true hc.2.1⟩
      have := hc.1
      unfold isEntry at this
      cases hq : l0.q with
      | none => rfl
      | some q => rw [hq] at this; cases this
    · exact pickA_some h
theorem resT_noFz {l : Lb} {cs : List Cl} (h : noFzR l = true) (hcs : cs.map (fun c => (c.t, c.f)) = l.outT) : backOK true (l.outsT cs) (l.resT cs) := by
  intro _
  have hall : Fg.noFzs (cs.map (·.f)) = true := by
    have : cs.map (·.f) = l.outT.map (·.2) := by rw [← hcs]; simp
    rw [this]
    exact h
  have hc := noFzL_iff.1 (noFz_cells cs hall)
  have sub : ∀ ts : List T, (∀ t ∈ ts, t ∈ encs cs) → noFzL ts := fun ts ht => noFzL_iff.2 fun t h => hc t (ht t h)
  constructor
  · -- the results
    have key : ∀ (as : List AP) (ts : List T), (∀ t ∈ ts, t ∈ encs cs) → ∀ r ∈ argsL as ts, noFzL r.given := by
      intro as
      induction as with
      | nil => intro ts _ r hr; simp [argsL] at hr
      | cons a as ih =>
        intro ts hts r hr
        simp only [argsL, List.mem_cons] at hr
        rcases hr with rfl | hr
        · have htk : ∀ t ∈ ts.take a.len, t ∈ encs cs := fun t ht => hts t (List.mem_of_mem_take ht)
          cases a with
          | one t f =>
            simp only [AP.arg, Arg.given, noFzL, and_true]
            cases ts with
            | nil => simp [noFz]
            | cons t0 ts => exact hc t0 (hts t0 (by simp))
          | agg r => exact sub _ htk
          | ptr r => simp only [AP.arg, Arg.given, noFzL, noFz, and_true]; exact ⟨by simp, sub _ htk⟩
          | own t f => simp [AP.arg, Arg.given, noFzL]
          | owns r => simp [AP.arg, Arg.given, noFzL]
        · exact ih _ (fun t ht => hts t (List.mem_of_mem_drop ht)) r hr
    exact key l.res _ fun t ht => by
      rw [← encs_drop] at ht
      exact List.mem_of_mem_drop ht
  · have key : ∀ (os : List (List (ST × Fg))) (ts : List T), (∀ t ∈ ts, t ∈ encs cs) → ∀ o ∈ outsL os ts, noFzL o := by
      intro os
      induction os with
      | nil => intro ts _ o ho; simp [outsL] at ho
      | cons x os ih =>
        intro ts hts o ho
        simp only [outsL, List.mem_cons] at ho
        rcases ho with rfl | ho
        · exact sub _ fun t ht => hts t (List.mem_of_mem_take ht)
        · exact ih _ (fun t ht => hts t (List.mem_of_mem_drop ht)) o ho
    exact key l.outs _ fun t ht => by
      rw [← encs_take] at ht
      exact List.mem_of_mem_take ht
structure CallOK (P : Program) (N : Nat) (vs : VS) (st : St) (dr : Bool) (o : Oper) (vs' : VS) (f : FuncId) (lvs : List LV) (d : Nat) (args res : List Arg) (outs : List (List T)) (mv : List (Option Nm)) (lent : Bool) (reads : List Ac) : Prop where
  hd : d < N
  hfn : Fun P f args outs res
  hmv : mvOK mv
  len : outs.length = mv.length
  back : backOK lent outs res
  rel : Rel vs' (afterCall st d mv args outs res)
  fits : fitsT N reads st
  rd : ∀ x ∈ reads, isRead x
  ok : ∀ st', fitsT N reads st' → callOf st' o = some (f, lvs, d) ∧ argsOK st' mv lent mv lvs args
  free : dr = true → ∀ n ∈ mv, n = none
  cov : dr = true → Covers (callT reads d res) vs.lg vs'.lg
theorem outsL_len : ∀ (os : List (List (ST × Fg))) (ts : List T), (outsL os ts).length = os.length
  | [], _ => rfl
  | o :: os, ts => by simp [outsL, outsL_len os]
theorem noMv_mem : ∀ {mv : List (Option Nm)}, noMv mv = true → ∀ n ∈ mv, n = none
  | [], _, n, h => by simp at h
  | none :: mv, hm, n, h => by
    rcases List.mem_cons.1 h with rfl | h
    · rfl
    · exact noMv_mem (mv := mv) hm n h
  | some _ :: mv, hm, n, h => by cases hm
theorem wBs_cov {d : Nat} : ∀ (as : List AP) (ts : List T) (j : Nat), ∀ a ∈ wBs d j (argsL as ts), ∃ f ∈ wBs? d j as, Cov f a
  | [], ts, j, a, h => by simp [argsL, wBs] at h
  | x :: as, ts, j, a, h => by
    simp only [argsL, wBs, List.mem_cons] at h
    rcases h with rfl | h
    · exact ⟨.wB (d, j), by simp [wBs?], rfl⟩
    · obtain ⟨f, h1, h2⟩ := wBs_cov as _ (j + 1) a h
      exact ⟨f, by simp [wBs?, h1], h2⟩
theorem callC_ref {E : En} {rec : Rec} {dr : Bool} {o : Oper} {k : Co ρ} (hJ : Right E.P rec) (h : callC E rec dr o k vs = some y) (R : Rel vs st) :
    ∃ vs' f lvs d args res outs mv lent reads, k vs' = some y ∧ CallOK E.P E.N vs st dr o vs' f lvs d args res outs mv lent reads := by
  unfold callC at h
  cases hop : o.op with
  | call c =>
    cases hd : o.dst with
    | none => rw [hop, hd] at h; cases h
    | some d =>
      rw [hop, hd] at h
      simp only at h
      cases hcal : c.callee with
      | value fo =>
        rw [hcal] at h
        simp only at h
        obtain ⟨fv, lf, vs1, l1, h, hfv, g1, k1⟩ := evT_rd (N := E.N) h R
        obtain ⟨us, lus, vs2, l2, h, hus, g2, k2⟩ := evTs_rd (N := E.N) h (g1.rel R)
        cases fv with
        | fn g caps =>
          simp only [RelV] at hfv
          obtain ⟨lcaps, rfl, hcaps⟩ := hfv
          simp only at h
          cases hp : pickA g vs2.b (us ++ caps) (E.tb g) with
          | none => rw [hp] at h; cases h
          | some l =>
            rw [hp] at h
            simp only at h
            obtain ⟨hq, hlf⟩ := pickA_some hp
            obtain ⟨cs, mv, vs3, l3, h, g3, k3, k4⟩ := argsT_ref (N := E.N) h (g2.rel (g1.rel R)) (hus.append hcaps)
            cases hc : (Nat.blt d E.N && (nodupM mv && (freeA mv (us ++ caps) l.args && (Nat.beq l.outs.length mv.length && allRes l.res && (!dr || noMv mv) && (noFzR l || !lendsA? (us ++ caps) l.args))))) with
            | false => rw [hc] at h; cases h
            | true =>
              rw [hc] at h
              simp only [Bool.and_eq_true] at hc
              obtain ⟨c1, c2, c3, ⟨⟨c4, c5⟩, c6⟩, c7⟩ := hc
              simp only at h
              obtain ⟨x, h, hx⟩ := toRow_some h
              unfold call_ at h
              cases hz : rec l x with
              | none => rw [hz] at h; cases h
              | some z =>
                rw [hz] at h
                simp only [Option.bind_some] at h
                have hj := hJ l x z hz
                unfold J at hj
                rw [hq] at hj
                simp only at hj
                rw [hx, hlf] at hj
                have hmv := nodup_ok c2
                have hlen := Nat.eq_of_beq_eq_true c4
                have hall := g1.trans (g2.trans g3)
                have hlent : ∃ lent : Bool, (lendsA? (us ++ caps) l.args = true → lent = true) ∧ backOK lent (l.outsT (ofRow l.outT z)) (l.resT (ofRow l.outT z)) := by
                  cases hn : noFzR l with
                  | true => exact ⟨true, fun _ => rfl, resT_noFz hn (ofRow_cts _ _)⟩
                  | false =>
                    rw [hn] at c7
                    refine ⟨false, fun hh => ?_, fun hh => by cases hh⟩
                    rw [hh] at c7
                    cases c7
                obtain ⟨lent, hl1, hl2⟩ := hlent
                have hrel : Rel (afterT l d mv (ofRow l.outT z) vs3) (afterCall st d mv (argsL l.args (encs cs)) (l.outsT (ofRow l.outT z)) (l.resT (ofRow l.outT z))) := by
                  refine afterT_rel (hall.rel R) ?_ hmv hlen c5
                  have := congrArg List.length (ofRow_cts l.outT z)
                  simpa using this
                refine ⟨_, g, lus ++ lcaps, d, argsL l.args (encs cs), l.resT (ofRow l.outT z), l.outsT (ofRow l.outT z), mv, lent, l1 ++ (l2 ++ l3), h, ?_⟩
                refine ⟨by simpa using c1, hj, hmv, ?_, hl2, hrel, hall.fits, hall.rd, fun st' hf => ?_, fun hdr => ?_, fun hdr => ?_⟩
                · rw [← hlen]
                  exact outsL_len _ _
                · obtain ⟨q1, q2⟩ := (fits_reads g1.rd).1 hf
                  obtain ⟨q2, q3⟩ := (fits_reads g2.rd).1 q2
                  refine ⟨?_, k4 mv lent hl1 c3 st' q3⟩
                  unfold callOf
                  rw [hop, hd]
                  simp only [hcal, k1 st' q1, k2 st' q2]
                · rw [hdr] at c6
                  exact noMv_mem (by simpa using c6)
                · have hcov := hall.cov
                  unfold callT
                  refine hcov.trans ?_
                  refine ⟨.wS d (tupT (resTVs d 2 l.res ((ofRow l.outT z).drop (outLen l)))) :: (wBs? d 2 l.res ++ [.gn d]), by simp [afterT], fun a ha => ?_⟩
                  simp only [List.mem_cons, List.mem_append, List.not_mem_nil, or_false] at ha
                  rcases ha with rfl | ha | rfl
                  · exact ⟨.gn d, by simp, rfl⟩
                  · obtain ⟨f, h1, h2⟩ := wBs_cov _ _ _ a ha
                    exact ⟨f, by simp [h1], h2⟩
                  · refine ⟨_, List.mem_cons_self, rfl, ?_⟩
                    have := (hrel.s d).t
                    simp only [afterT, lookS, Nat.beq_refl, afterCall, if_true] at this
                    exact this
        | _ => cases h
      | _ => rw [hcal] at h; cases h
  | _ => rw [hop] at h; cases h
end
end Go.Proofs.Ytdlambaphhklpaa.TM
namespace Go.Proofs.Ytdlambaphhklpaa.TM
open Go
section
variable {C : Ctx} {f : FuncId} {Q : Value → World → Prop} {K : List It} {st : St}
theorem good_skip (h : Good C f Q K st) : Good C f Q (.c .skip :: K) st := fun G a w s => (h G a w s).step fun _ _ _ => step_skip
theorem good_seq {x z : Code} (h : Good C f Q (.c x :: .c z :: K) st) : Good C f Q (.c (.seq x z) :: K) st := fun G a w s => (h G a w s).step fun _ _ _ => step_seq
theorem good_block {id : Nat} {x : Code} (h : Good C f Q (.c x :: .blk id :: K) st) : Good C f Q (.c (.block id x) :: K) st := fun G a w s => (h G a w s).step fun _ _ _ => step_block
theorem good_blk {id : Nat} (h : Good C f Q K st) : Good C f Q (.blk id :: K) st := fun G a w s => (h G a w s).step fun _ _ _ => step_inBlock
theorem good_exit {id : Nat} {K' : List It} (he : exits id K = some K') (h : Good C f Q K' st) : Good C f Q (.c (.exit id) :: K) st := fun G a w s => (h G a w s).step fun _ _ _ => step_exit (exits_item he).1
theorem good_cond {t : Nat} {b : Bool} {x z : Code} (hb : st.s t = .t (.v (.bool b))) (h : Good C f Q (.c (if b = true then x else z) :: K) st) : Good C f Q (.c (.cond (.tmp t) x z) :: K) st := by
  intro G a w s
  have hev : a.eval (.tmp t) = .bool b := by
    have := s.slot t
    rw [hb] at this
    exact RepV_v this
  cases b with
  | true => exact (h G a w s).step fun _ _ _ => step_cond hev
  | false => exact (h G a w s).step fun _ _ _ => step_cond hev
theorem good_region {i : Nat} {ops : Array Oper} (h : Good C f Q (.ops ops ops.toList :: K) st) : Good C f Q (.c (.region i ops false) :: K) st := by
  refine fun G a w s => (h G a w s).step fun b cs _ => ?_
  rw [List.map_cons, List.map_cons]
  have e : (It.ops ops ops.toList).item = .inRegion ops (List.range ops.size) := by simp [It.item]
  rw [e]
  exact step_region
theorem good_ops_nil {all : Array Oper} (h : Good C f Q K st) : Good C f Q (.ops all [] :: K) st := by
  refine fun G a w s => (h G a w s).step fun b cs _ => ?_
  have e : (It.ops all []).item = .inRegion all [] := by simp [It.item]
  rw [List.map_cons, e]
  exact step_region_end
theorem wanted_of {all : Array Oper} {o : Oper} {G : Gh} {a : Act} {w : World} (hg : guardOK st all o) (s : Sim C G st [] a w) : Region.wanted o (yielded all a.tmps) = true := by
  unfold Region.wanted
  unfold guardOK guardOf at hg
  cases hgd : o.guard with
  | none => rfl
  | some jw =>
    obtain ⟨j, want⟩ := jw
    rw [hgd] at hg
    simp only at hg ⊢
    cases hj : (all[j]?).bind (·.dst) with
    | none => rw [hj] at hg; exact hg.elim
    | some d' =>
      rw [hj] at hg
      rw [s.yields hj hg]
      simp
theorem good_op {all : Array Oper} {o : Oper} {rest : List Oper} {st' : St} (hw : WF (.ops all (o :: rest))) (hg : guardOK st all o) (hop : (opM C.P o).run C.N st = some ((), st')) (h : Good C f Q (.ops all rest :: K) st') :
    Good C f Q (.ops all (o :: rest) :: K) st := by
  obtain ⟨pre, hpre⟩ := hw
  obtain ⟨hidx, ho⟩ := idx_cons hpre
  have hitem : (It.ops all (o :: rest)).item = .inRegion all (pre.length :: (List.range all.size).drop (all.size - rest.length)) := by rw [It.item, hidx]
  intro G a w s
  obtain ⟨G', w', v, hx, s'⟩ := op_all s hop
  refine (h G' _ w' s').step fun b cs _ => ?_
  rw [List.map_cons, List.map_cons, hitem]
  exact step_op ho (wanted_of hg s) hx
theorem good_op_skip {all : Array Oper} {o : Oper} {rest : List Oper} {st' : St} {d : Nat} {w0 : Bool} (hw : WF (.ops all (o :: rest))) (hg : guardOf all o = some (some d, w0)) (hb : st.s d = .t (.v (.bool (!w0)))) (hop : (out o.dst .dead).run C.N st = some ((), st'))
    (h : Good C f Q (.ops all rest :: K) st') : Good C f Q (.ops all (o :: rest) :: K) st := by
  obtain ⟨pre, hpre⟩ := hw
  obtain ⟨hidx, ho⟩ := idx_cons hpre
  have hitem : (It.ops all (o :: rest)).item = .inRegion all (pre.length :: (List.range all.size).drop (all.size - rest.length)) := by rw [It.item, hidx]
  intro G a w s
  refine (h G _ w (s.undef hop)).step fun b cs _ => ?_
  rw [List.map_cons, List.map_cons, hitem]
  have hgd : ∃ j, o.guard = some (j, w0) ∧ (all[j]?).bind (·.dst) = some d := by
    unfold guardOf at hg
    cases hh : o.guard with
    | none => rw [hh] at hg; cases hg
    | some jw => obtain ⟨j, w1⟩ := jw; rw [hh] at hg; simp only [Option.some.injEq, Prod.mk.injEq] at hg; exact ⟨j, by rw [hg.2], hg.1⟩
  obtain ⟨j, hgj, hdj⟩ := hgd
  have := step_op_skip (P := C.P) (b := b) (a := a) (k := K.map It.item) (cs := cs) (w := w) (ops := all) (i := pre.length) (rest := (List.range all.size).drop (all.size - rest.length)) (by
    rw [ho]
    simp only [Option.map_some, Option.getD_some]
    unfold Region.wanted
    rw [hgj]
    simp only
    rw [s.yields hdj hb]
    cases w0 <;> rfl)
  rw [ho] at this
  exact this
theorem doable_call_g {P : Program} {ops : Array Oper} {i j d0 : Nat} {b : Bool} {o : Oper} {f : FuncId} {vs : List LV} {d : Nat} {args res : List Arg} {outs : List (List T)} {reads : List Ac} (mv : List (Option Nm)) (lent : Bool) (hP : C.P = P) (hdN : d < C.N)
    (ho : ops[i]? = some o) (hg : o.guard = some (j, b)) (hj : (ops[j]?).bind (·.dst) = some d0) (hmv : ∀ n ∈ mv, n = none) (hr : ∀ x ∈ reads, isRead x)
    (hok : ∀ st, fitsT C.N reads st → callOf st o = some (f, vs, d) ∧ argsOK st mv lent mv vs args) (F : Fun P f args outs res) (hback : backOK lent outs res) : Doable C ops i (.rS d0 (.t (.v (.bool b))) :: callT reads d res) := by
  subst hP
  intro st G a w K Q hf s hK
  obtain ⟨hd0, hf⟩ := hf
  have hfr : fitsT C.N reads st := ((fitsT_append reads _ st).1 hf).1
  obtain ⟨hc, hargs⟩ := hok st hfr
  obtain ⟨hd, us, hrun, hus⟩ := callOf_run s hc F.1
  obtain ⟨h1, h2, h3⟩ := argsOK_rep s mv hus hargs
  have hfree := mvIdx_free hmv
  have hinj := mvOK_inj (mvOK_free hmv)
  have hcall := call_in s F hinj h2 h1 (lent := lent) (fun i c u hci hui => by
    obtain ⟨on, v, e1, e2, e3⟩ := h3 i c u hci hui
    unfold ArgS
    rw [e1]
    have hon := hmv on (List.mem_of_getElem? e1)
    subst hon
    cases c with
    | one x => exact lend_rep s v e3 e2.2
    | agg cs =>
      obtain ⟨_, e2⟩ := e2
      cases v with
      | agg vs0 =>
        rw [RepV] at e3
        obtain ⟨us0, rfl, e3⟩ := e3
        obtain ⟨q1, q2⟩ := lends_rep s vs0 e3 e2
        exact ⟨us0, rfl, by simpa using q2, q1⟩
      | _ => exact e2.elim
    | ptr cs => exact e2.elim
    | own x => exact e2.elim
    | owns x => exact e2.elim)
  unfold wpOp
  rw [ho]
  have hw : Region.wanted o (yielded ops a.tmps) = true := by
    unfold Region.wanted
    rw [hg]
    simp only
    rw [s.yields hj hd0]
    simp
  simp only [hw, if_true]
  left
  unfold Oper.wp
  rw [hrun, Oper.upon_enter]
  refine Calls.mono hcall fun e w' hR => ?_
  cases e with
  | panicked ch => exact hR.elim
  | outgrown => exact hR.elim
  | returned v =>
    obtain ⟨G2, s2⟩ := call_out (args := args) s hR d hdN hinj (fun i n hi => by
      have := hmv _ (List.mem_of_getElem? hi)
      cases this) (fun i n hi => by
      have := hmv _ (List.mem_of_getElem? hi)
      cases this) hback
    rw [← appT_call (args := args) (outs := outs) hr hfree] at s2
    have := hK G2 _ w' s2
    rw [hd]
    exact this
end
end Go.Proofs.Ytdlambaphhklpaa.TM
namespace Go.Proofs.Ytdlambaphhklpaa.TM
open Go
theorem Law.run {ρ : Type} {N : Nat} {vs : VS} {st : St} {k : Co ρ} {y : ρ} {m : M Unit} (h : Law N vs st k y m) : ∃ vs' st' l, k vs' = some y ∧ Rel vs' st' ∧ m.runT N st = some ((), st', l) ∧ Covers l vs.lg vs'.lg := by
  obtain ⟨vs', st', h1, g⟩ := h
  obtain ⟨R, l, h2, h3⟩ := g
  exact ⟨vs', st', l, h1, R, by rw [h2]; simp [M.runT], h3⟩
theorem run_of_runT {N : Nat} {st st' : St} {l : List Ac} {m : M Unit} (h : m.runT N st = some ((), st', l)) : m.run N st = some ((), st') := by
  obtain ⟨h1, h2⟩ := runT_fits m h
  rw [h1]
  exact run_fits m h h2
theorem know_rel {vs : VS} {st : St} {t : Nat} {b : Bool} (R : Rel vs st) (h : st.s t = .t (.v (.bool b))) : Rel ⟨(t, .c ⟨.bool, .z, bLit b⟩) :: vs.s, vs.b, vs.lg⟩ st := by
  refine ⟨fun u => ?_, R.b⟩
  simp only [lookS]
  cases hb : Nat.beq t u with
  | true =>
    have := Nat.eq_of_beq_eq_true hb
    subst this
    simp only [RelV]
    rw [h]
    rfl
  | false => exact R.s u
theorem wf_tail {all : Array Oper} {o : Oper} {rest : List Oper} (h : WF (.ops all (o :: rest))) : WF (.ops all rest) := by
  obtain ⟨pre, hpre⟩ := h
  exact ⟨pre ++ [o], by rw [hpre]; simp⟩
theorem guard_cases {ρ : Type} {vs : VS} {st : St} {d : Nat} {w : Bool} {y : ρ} {a b : Co ρ} (R : Rel vs st) (h : rdS d (fun v => match v with
      | .c ⟨.bool, _, r⟩ => iteC (match w with
          | true => r
          | false => bnot r)
        (knowT d w a)
        (knowT d (!w) b)
      | _ => no 150) vs = some y) :
    (st.s d = .t (.v (.bool w)) ∧ ∃ vs', a vs' = some y ∧ Rel vs' st ∧ Covers [.rS d (st.s d)] vs.lg vs'.lg) ∨
    (st.s d = .t (.v (.bool (!w))) ∧ ∃ vs', b vs' = some y ∧ Rel vs' st ∧ Covers [.rS d (st.s d)] vs.lg vs'.lg) := by
  simp only [rdS] at h
  have hR := R.s d
  generalize hl : lookS vs.s d = v at h hR
  cases v with
  | c x =>
    obtain ⟨t, f, r⟩ := x
    cases t with
    | bool =>
      have hs := boolV hR
      have hcov : Covers [.rS d (st.s d)] vs.lg (.rS d (.c ⟨.bool, f, r⟩) :: vs.lg) := .one (f := .rS d (.c ⟨.bool, f, r⟩)) ⟨rfl, hR.t⟩
      have hrel : ∀ b', st.s d = .t (.v (.bool b')) → Rel ⟨(d, .c ⟨.bool, .z, bLit b'⟩) :: vs.s, vs.b, .rS d (.c ⟨.bool, f, r⟩) :: vs.lg⟩ st := fun b' hb' => (know_rel R hb').lg _
      rcases iteC_ref h with ⟨hc, h⟩ | ⟨hc, h⟩
      · left
        have hrw : r = w := by
          cases w with
          | true => exact hc
          | false =>
            exact (Bool.not_eq_true' _).mp (show (!(show Bool from r)) = true from hc)
        have hs' : st.s d = .t (.v (.bool w)) := by rw [hs, hrw]
        exact ⟨hs', _, h, hrel w hs', hcov⟩
      · right
        have hrw : r = !w := by
          cases w with
          | true => exact hc
          | false =>
            exact (Bool.not_eq_false' _).mp (show (!(show Bool from r)) = false from hc)
        have hs' : st.s d = .t (.v (.bool (!w))) := by rw [hs, hrw]
        exact ⟨hs', _, h, hrel (!w) hs', hcov⟩
    | _ => cases h
  | _ => cases h
section
variable {C : Ctx} {f : FuncId} {Q : Value → World → Prop} {K : List It} {ρ : Type} {y : ρ} {E : En} {rec : Rec}
theorem guardOK_some {st : St} {all : Array Oper} {o : Oper} {d : Nat} {w : Bool} (hg : guardOf all o = some (some d, w)) (hs : st.s d = .t (.v (.bool w))) : guardOK st all o := by
  unfold guardOK
  rw [hg]
  exact hs
theorem guardOK_none {st : St} {all : Array Oper} {o : Oper} (hg : guardOf all o = none) : guardOK st all o := by
  unfold guardOK
  rw [hg]
  trivial
theorem opsT_good {k : Co ρ} {all : Array Oper} (hJ : Right E.P rec) (hP : C.P = E.P) (hN : C.N = E.N) (hk : ∀ vs st, k vs = some y → Rel vs st → Good C f Q K st) :
    ∀ (rest : List Oper) (vs : VS) (st : St), WF (.ops all rest) → opsT E rec false all rest k vs = some y → Rel vs st → Good C f Q (.ops all rest :: K) st
  | [], vs, st, _, h, R => good_ops_nil (hk vs st h R)
  | o :: rest, vs, st, hw, h, R => by
    have ih := opsT_good (all := all) hJ hP hN hk rest
    have one : ∀ vs, guardOK st all o → Rel vs st → (match isCall o with
          | true => callC E rec false o (opsT E rec false all rest k)
          | false => opT E.N E.P o (opsT E rec false all rest k)) vs = some y → Good C f Q (.ops all (o :: rest) :: K) st := by
      intro vs hg R h
      cases hc : isCall o with
      | true =>
        rw [hc] at h
        obtain ⟨vs', g, lvs, d, args, res, outs, mv, lent, reads, h, ok⟩ := callC_ref hJ h R
        obtain ⟨q1, q2⟩ := ok.ok st ok.fits
        exact good_call mv lent hP (by rw [hN]; exact ok.hd) hw hg q1 ok.hfn ok.hmv q2 (.inr (.inl ok.len)) ok.back (ih _ _ (wf_tail hw) h ok.rel)
      | false =>
        rw [hc] at h
        obtain ⟨vs', st', l, h, R', hr, _⟩ := (opT_ref h R).run
        exact good_op hw hg (by rw [hP, hN]; exact run_of_runT hr) (ih _ _ (wf_tail hw) h R')
    simp only [opsT] at h
    cases hg : guardOf all o with
    | none =>
      rw [hg] at h
      exact one vs (guardOK_none hg) R h
    | some dw =>
      obtain ⟨d, w⟩ := dw
      cases d with
      | none => rw [hg] at h; cases h
      | some d =>
        rw [hg] at h
        rcases guard_cases R h with ⟨hs, vs', h, R', _⟩ | ⟨hs, vs', h, R', _⟩
        · exact one vs' (guardOK_some hg hs) R' h
        · have hl : Law E.N vs' st (opsT E rec false all rest k) y (out o.dst .dead) := outT_ref h R' (by simp only [RelV])
          obtain ⟨vs2, st2, l, h, R2, hr, _⟩ := hl.run
          exact good_op_skip hw hg hs (by rw [hN]; exact run_of_runT hr) (ih _ _ (wf_tail hw) h R2)
theorem fits_call {N : Nat} {reads : List Ac} {d : Nat} {res : List Arg} {st : St} (hf : fitsT N reads st) (hr : ∀ x ∈ reads, isRead x) (hd : d < N) : fitsT N (callT reads d res) st := by
  unfold callT
  rw [fits_reads hr]
  refine ⟨hf, trivial, ?_⟩
  have key : ∀ (as : List Arg) (j : Nat) (st : St), fitsT N (wBs d j as ++ [.wS d (resLV d res)]) st := by
    intro as
    induction as with
    | nil => intro j st; exact ⟨hd, trivial⟩
    | cons a as ih => intro j st; exact ⟨trivial, ih _ _⟩
  exact key _ _ _
theorem one_ref {k : Co ρ} {all : Array Oper} {o : Oper} {i : Nat} {vs : VS} {st : St} (hJ : Right E.P rec) (hP : C.P = E.P) (hN : C.N = E.N) (hi : all[i]? = some o) (h : opsT E rec true all [o] k vs = some y) (R : Rel vs st) :
    ∃ vs' l, k vs' = some y ∧ Rel vs' (appT l st) ∧ fitsT C.N l st ∧ Covers l vs.lg vs'.lg ∧ Doable C all i l := by
  have one : ∀ vs, Rel vs st → (match isCall o with
        | true => callC E rec true o (opsT E rec true all [] k)
        | false => opT E.N E.P o (opsT E rec true all [] k)) vs = some y →
      ∃ vs' l, k vs' = some y ∧ Rel vs' (appT l st) ∧ fitsT C.N l st ∧ Covers l vs.lg vs'.lg ∧ (o.guard = none → Doable C all i l) ∧ (∀ j d b, o.guard = some (j, b) → (all[j]?).bind (·.dst) = some d → Doable C all i (.rS d (.t (.v (.bool b))) :: l)) := by
    intro vs R h
    cases hc : isCall o with
    | true =>
      rw [hc] at h
      obtain ⟨vs', g, lvs, d, args, res, outs, mv, lent, reads, h, ok⟩ := callC_ref hJ h R
      have hfree := ok.free rfl
      have hd : d < C.N := by rw [hN]; exact ok.hd
      have hfits := fits_call (res := res) ok.fits ok.rd ok.hd
      refine ⟨vs', callT reads d res, h, ?_, by rw [hN]; exact hfits, ok.cov rfl, fun hg => ?_, fun j d0 b hg hj => ?_⟩
      · rw [appT_call (args := args) (outs := outs) ok.rd (mvIdx_free hfree)]
        exact ok.rel
      · exact doable_call mv lent hP hd hi hg hfree ok.rd (fun st' hf => ok.ok st' (by rw [← hN]; exact hf)) ok.hfn ok.back
      · exact doable_call_g mv lent hP hd hi hg hj hfree ok.rd (fun st' hf => ok.ok st' (by rw [← hN]; exact hf)) ok.hfn ok.back
    | false =>
      rw [hc] at h
      obtain ⟨vs', st', l, h, R', hr, hcov⟩ := (opT_ref h R).run
      rw [← hP, ← hN] at hr
      obtain ⟨e1, e2⟩ := runT_fits _ hr
      subst e1
      exact ⟨vs', l, h, R', e2, hcov, fun hg => doable_op hi hg hr, fun j d b hg hj => doable_guard hi hg hj hr⟩
  simp only [opsT] at h
  cases hg : guardOf all o with
  | none =>
    rw [hg] at h
    obtain ⟨vs', l, h1, h2, h3, h4, h5, _⟩ := one vs R h
    refine ⟨vs', l, h1, h2, h3, h4, h5 ?_⟩
    unfold guardOf at hg
    cases hh : o.guard with
    | none => rfl
    | some jw => rw [hh] at hg; cases hg
  | some dw =>
    obtain ⟨d, w⟩ := dw
    cases d with
    | none => rw [hg] at h; cases h
    | some d =>
      rw [hg] at h
      have hgd : ∃ j, o.guard = some (j, w) ∧ (all[j]?).bind (·.dst) = some d := by
        unfold guardOf at hg
        cases hh : o.guard with
        | none => rw [hh] at hg; cases hg
        | some jw => obtain ⟨j, w1⟩ := jw; rw [hh] at hg; simp only [Option.some.injEq, Prod.mk.injEq] at hg; exact ⟨j, by rw [hg.2], hg.1⟩
      obtain ⟨j, hgj, hdj⟩ := hgd
      rcases guard_cases R h with ⟨hs, vs', h, R', hcov⟩ | ⟨hs, vs', h, R', hcov⟩
      · obtain ⟨vs2, l, h1, h2, h3, h4, _, h6⟩ := one vs' R' h
        refine ⟨vs2, .rS d (.t (.v (.bool w))) :: l, h1, h2, ⟨hs, h3⟩, ?_, h6 j d w hgj hdj⟩
        rw [hs] at hcov
        exact hcov.trans h4
      · have hl : Law E.N vs' st k y (out o.dst .dead) := outT_ref h R' (by simp only [RelV])
        obtain ⟨vs2, st2, l, h, R2, hr, hcov2⟩ := hl.run
        rw [← hN] at hr
        obtain ⟨e1, e2⟩ := runT_fits _ hr
        subst e1
        refine ⟨vs2, .rS d (.t (.v (.bool (!w)))) :: l, h, R2, ⟨hs, e2⟩, ?_, doable_skip hi hgj hdj hr⟩
        rw [hs] at hcov
        exact hcov.trans hcov2
mutual
theorem calm_of (n : Nm) (p : List Nat) : ∀ (v : TV) (lv : LV), RelV Qt v lv → hasN n v = false → noDeadT v = true → killV n p lv = lv ∧ noDead lv = true
  | .c x, lv, h, _, _ => by simp only [RelV] at h; subst h; simp [killV, noDead]
  | .ref m q none, lv, h, h1, _ => by
    simp only [RelV] at h
    obtain ⟨hi, rfl, _⟩ := h
    have : m ≠ n := by rintro rfl; simp only [hasN] at h1; rw [nm_eq.2 rfl] at h1; cases h1
    rw [killV, if_neg (fun h => this h.1)]
    exact ⟨rfl, rfl⟩
  | .ref _ _ (some _), lv, h, _, _ => by simp only [RelV] at h
  | .addr m q, lv, h, h1, _ => by
    simp only [RelV] at h
    subst h
    have : m ≠ n := by rintro rfl; simp only [hasN] at h1; rw [nm_eq.2 rfl] at h1; cases h1
    rw [killV, if_neg (fun h => this h.1)]
    exact ⟨rfl, rfl⟩
  | .raddr cs, lv, h, _, _ => by simp only [RelV] at h; subst h; simp [killV, noDead]
  | .agg xs, lv, h, h1, h2 => by
    simp only [RelV] at h
    obtain ⟨us, rfl, h⟩ := h
    obtain ⟨k1, k2⟩ := calms_of n p xs us h h1 h2
    simp only [killV, k1, noDead, k2, and_self]
  | .tup xs, lv, h, h1, h2 => by
    simp only [RelV] at h
    obtain ⟨us, rfl, h⟩ := h
    obtain ⟨k1, k2⟩ := calms_of n p xs us h h1 h2
    simp only [killV, k1, noDead, k2, and_self]
  | .fn g xs, lv, h, h1, h2 => by
    simp only [RelV] at h
    obtain ⟨us, rfl, h⟩ := h
    obtain ⟨k1, k2⟩ := calms_of n p xs us h h1 h2
    simp only [killV, k1, noDead, k2, and_self]
  | .dead, lv, h, _, h2 => by cases h2
theorem calms_of (n : Nm) (p : List Nat) : ∀ (xs : List TV) (us : List LV), RelVs Qt xs us → hasNs n xs = false → noDeadTs xs = true → killVs n p us = us ∧ noDeads us = true
  | [], us, h, _, _ => by simp only [RelVs] at h; subst h; simp [killVs, noDeads]
  | x :: xs, [], h, _, _ => by simp only [RelVs] at h
  | x :: xs, u :: us, h, h1, h2 => by
    simp only [RelVs] at h
    simp only [hasNs, Bool.or_eq_false_iff] at h1
    simp only [noDeadTs, Bool.and_eq_true] at h2
    obtain ⟨k1, k2⟩ := calm_of n p x u h.1 h1.1 h2.1
    obtain ⟨k3, k4⟩ := calms_of n p xs us h.2 h1.2 h2.2
    simp only [killVs, k1, k3, noDeads, k2, k4, Bool.and_self, and_self]
end
mutual
theorem gone_of (d : Nat) : ∀ (v : TV) (lv : LV), RelV Qt v lv → hasG d v = false → noDeadT v = true → goneV d lv = lv ∧ noDead lv = true
  | .c x, lv, h, _, _ => by simp only [RelV] at h; subst h; simp [goneV, noDead]
  | .ref m q none, lv, h, h1, _ => by
    simp only [RelV] at h
    obtain ⟨hi, rfl, _⟩ := h
    simp only [hasG] at h1
    rw [gone_eq] at h1
    rw [goneV, if_neg (by rw [h1]; simp)]
    exact ⟨rfl, rfl⟩
  | .ref _ _ (some _), lv, h, _, _ => by simp only [RelV] at h
  | .addr m q, lv, h, h1, _ => by
    simp only [RelV] at h
    subst h
    simp only [hasG] at h1
    rw [gone_eq] at h1
    rw [goneV, if_neg (by rw [h1]; simp)]
    exact ⟨rfl, rfl⟩
  | .raddr cs, lv, h, _, _ => by simp only [RelV] at h; subst h; simp [goneV, noDead]
  | .agg xs, lv, h, h1, h2 => by
    simp only [RelV] at h
    obtain ⟨us, rfl, h⟩ := h
    obtain ⟨k1, k2⟩ := gones_of d xs us h h1 h2
    simp only [goneV, k1, noDead, k2, and_self]
  | .tup xs, lv, h, h1, h2 => by
    simp only [RelV] at h
    obtain ⟨us, rfl, h⟩ := h
    obtain ⟨k1, k2⟩ := gones_of d xs us h h1 h2
    simp only [goneV, k1, noDead, k2, and_self]
  | .fn g xs, lv, h, h1, h2 => by
    simp only [RelV] at h
    obtain ⟨us, rfl, h⟩ := h
    obtain ⟨k1, k2⟩ := gones_of d xs us h h1 h2
    simp only [goneV, k1, noDead, k2, and_self]
  | .dead, lv, h, _, h2 => by cases h2
theorem gones_of (d : Nat) : ∀ (xs : List TV) (us : List LV), RelVs Qt xs us → hasGs d xs = false → noDeadTs xs = true → goneVs d us = us ∧ noDeads us = true
  | [], us, h, _, _ => by simp only [RelVs] at h; subst h; simp [goneVs, noDeads]
  | x :: xs, [], h, _, _ => by simp only [RelVs] at h
  | x :: xs, u :: us, h, h1, h2 => by
    simp only [RelVs] at h
    simp only [hasGs, Bool.or_eq_false_iff] at h1
    simp only [noDeadTs, Bool.and_eq_true] at h2
    obtain ⟨k1, k2⟩ := gone_of d x u h.1 h1.1 h2.1
    obtain ⟨k3, k4⟩ := gones_of d xs us h.2 h1.2 h2.2
    simp only [goneVs, k1, k3, noDeads, k2, k4, Bool.and_self, and_self]
end
theorem nmEq_ne {n m : Nm} (h : (!nmEq n m) = true) : n ≠ m := by
  rintro rfl
  rw [nm_eq.2 rfl] at h
  cases h
theorem beq_ne {t u : Nat} (h : (!Nat.beq t u) = true) : t ≠ u := by
  rintro rfl
  rw [Nat.beq_refl] at h
  cases h
theorem nc_of {x z : Ft} {a b : Ac} (h : x.nc z = true) (hx : Cov x a) (hz : Cov z b) : a.nc b := by
  cases x <;> cases a <;> simp only [Cov] at hx <;> cases z <;> cases b <;> simp only [Cov] at hz <;> simp only [Ac.nc] <;> simp only [Ft.nc] at h
  case rS.rS.wS.wS => obtain ⟨rfl, _⟩ := hx; obtain ⟨rfl, _⟩ := hz; exact beq_ne h
  case wS.wS.rS.rS => obtain ⟨rfl, _⟩ := hx; obtain ⟨rfl, _⟩ := hz; exact beq_ne h
  case wS.wS.wS.wS => obtain ⟨rfl, _⟩ := hx; obtain ⟨rfl, _⟩ := hz; exact beq_ne h
  case rS.rS.kl.kl => simp only [Bool.and_eq_true, Bool.not_eq_true'] at h; subst hz; exact calm_of _ _ _ _ hx.2 h.1 h.2
  case kl.kl.rS.rS => simp only [Bool.and_eq_true, Bool.not_eq_true'] at h; subst hx; exact calm_of _ _ _ _ hz.2 h.1 h.2
  case wS.wS.kl.kl => simp only [Bool.and_eq_true, Bool.not_eq_true'] at h; subst hz; exact (calm_of _ _ _ _ hx.2 h.1 h.2).1
  case kl.kl.wS.wS => simp only [Bool.and_eq_true, Bool.not_eq_true'] at h; subst hx; exact (calm_of _ _ _ _ hz.2 h.1 h.2).1
  case rB.rB.wB.wB => subst hx; subst hz; exact nmEq_ne h
  case wB.wB.rB.rB => subst hx; subst hz; exact nmEq_ne h
  case wB.wB.wB.wB => subst hx; subst hz; exact nmEq_ne h
  case rS.rS.gn.gn => simp only [Bool.and_eq_true, Bool.not_eq_true'] at h; subst hz; exact gone_of _ _ _ hx.2 h.1 h.2
  case gn.gn.rS.rS => simp only [Bool.and_eq_true, Bool.not_eq_true'] at h; subst hx; exact gone_of _ _ _ hz.2 h.1 h.2
  case wS.wS.gn.gn => simp only [Bool.and_eq_true, Bool.not_eq_true'] at h; subst hz; exact (gone_of _ _ _ hx.2 h.1 h.2).1
  case gn.gn.wS.wS => simp only [Bool.and_eq_true, Bool.not_eq_true'] at h; subst hx; exact (gone_of _ _ _ hz.2 h.1 h.2).1
  case rB.rB.gn.gn => subst hx; subst hz; rw [← gone_eq]; simpa using h
  case gn.gn.rB.rB => subst hx; subst hz; rw [← gone_eq]; simpa using h
  case wB.wB.gn.gn => subst hx; subst hz; rw [← gone_eq]; simpa using h
  case gn.gn.wB.wB => subst hx; subst hz; rw [← gone_eq]; simpa using h
end
end Go.Proofs.Ytdlambaphhklpaa.TM
namespace Go.Proofs.Ytdlambaphhklpaa.TM
open Go
section
variable {C : Ctx} {G : Gh} {st st1 st' : St} {a : Act} {w : World}
theorem Sim.box1 (s : Sim C G st [] a w) {vs : List LV} {us : List Value} {xs : List T} (hv : RepVs C G w st.b vs us) (hc : st.closesS vs = some (xs, st1)) (m : Nm) (hm : m.2 ≠ 1) :
    ∃ G', Sim C G' ⟨fun u => killV m [] (st1.s u), fun k => if k = m then ⟨false, xs⟩ else st1.b k⟩ [] a w ∧ (∀ b, G.Zn b → G'.Zn b) ∧
      ∀ i es u, xs[i]? = some (.sl .own es) → us[i]? = some u → RepV C G' w (fun k => if k = m then ⟨false, xs⟩ else st1.b k) (.ref m [i] 0 es.length) u := by
  obtain ⟨G1, s1, z1, k1⟩ := closes_step _ s hv hc
  have hlx := closesS_length _ hc
  have hlu := hv.length
  have hcell : ∀ i y, xs[i]? = some y → ∃ u, us[i]? = some u ∧ RepC (C.Z G1) w (boxLab m (rowG xs.length fun j => [j]) none G1.L) (.box m, [i]) y u := by
    intro i y hy
    have hlt : i < us.length := by
      have := (List.getElem?_eq_some_iff.1 hy).1
      omega
    refine ⟨us[i], by simp, ?_⟩
    have hij := (List.getElem?_eq_some_iff.1 hy).1
    exact held_moved s1 (w' := w) (D := m) (g := rowG xs.length fun j => [j]) (nb := none) (j := i) (x := y) (u := us[i]) (pl := [i])
      (by rw [List.nil_append, List.getElem?_zip_eq_some]; exact ⟨hy, by simp⟩) (fun r => if_pos hij)
      (fun B q0 r e e2 => by cases e) (fun b _ hb => rfl) (fun B q0 e e2 => by cases e)
  obtain ⟨G', s', z', l', v1, v2⟩ := s1.freshBox (w' := w) m hm ⟨false, xs⟩ us none (rowG xs.length fun j => [j])
    (rowG_inj (k := 1) (fun _ => rfl) (fun j j' e => by simpa using e)) (fun B q0 e j r e2 => by cases e)
    (fun B q e => by cases e) (fun b _ hb => rfl) (Nat.le_refl _) ⟨rfl, rfl, rfl⟩
    (RepL.of_get fun i y hy => by
      obtain ⟨u, h1, h2⟩ := hcell i y hy
      refine ⟨u, h1, ?_⟩
      rw [Nat.zero_add]
      exact h2) (by show us.length = xs.length; omega) (fun h => by cases h)
  refine ⟨G', s', fun b hb => by rw [z', z1]; exact hb, fun i es u hi hu => ?_⟩
  obtain ⟨u', h1, h2⟩ := hcell i _ hi
  rw [hu] at h1
  cases h1
  rw [RepC] at h2
  obtain ⟨ad, cap, hu', g1, g2, g3⟩ := h2
  rw [RepV]
  refine ⟨es, xs.drop (i + 1), ad, cap, by simp only [if_true, rowAt]; rw [head_drop hi], Nat.zero_le _, Nat.le_refl _, ?_, ad, by rw [hu']; simp, ?_⟩
  · refine ⟨g1, g2, ?_⟩
    rcases g3 with ⟨h3, h4⟩ | ⟨b, off, cs, ty, fr, wd, ha, hwd, hh, hsz, hes, ho, hz, hr⟩
    · exact .inl ⟨h3, h4 rfl⟩
    · obtain ⟨o1, o2, o3, o4⟩ := ho rfl
      subst o2
      subst o3
      exact .inr ⟨b, cs, ty, wd, ha, ⟨hwd.1, hwd.2 rfl⟩, by rw [l']; exact o1, hh, o4, hes⟩
  · intro _
    unfold shift
    cases es with
    | nil => rfl
    | cons e es => cases ad <;> simp [Addr.add]
theorem Sim.slotAs (s : Sim C G st [] a w) {t : Nat} {v : LV} (hv : RepV C G w st.b v (a.tmps.getD t Go.undef)) : Sim C G ⟨fun u => if u = t then v else st.s u, st.b⟩ [] a w where
  inj := s.inj
  lab := s.lab
  zone := s.zone
  fresh := s.fresh
  zin := s.zin
  old := s.old
  size := s.size
  rest := s.rest
  box := s.box
  held := s.held
  slot := fun u => by
    by_cases hu : u = t
    · subst hu; simpa using hv
    · simpa [hu] using s.slot u
  ino := s.ino
  len := s.len
  dfr := s.dfr
theorem good_ghost {f : FuncId} {Q : Value → World → Prop} {K : List It} (hg : ∀ G a w, Sim C G st [] a w → ∃ G', Sim C G' st' [] a w) (h : Good C f Q K st') : Good C f Q K st := by
  intro G a w s
  obtain ⟨G', s'⟩ := hg G a w s
  exact h G' a w s'
end
def refLs {α : Type} : List VP → List α → List α
  | .ref _ _ :: xs, v :: vs => v :: refLs xs vs
  | _ :: xs, _ :: vs => refLs xs vs
  | _, _ => []
def fillLs (m : Nm) : Nat → List VP → List LV → List T → List LV
  | k, .ref _ _ :: xs, _ :: vs, .sl .own es :: ts => .ref m [k] 0 es.length :: fillLs m (k + 1) xs vs ts
  | k, .ref _ _ :: xs, _ :: vs, _ :: ts => .dead :: fillLs m (k + 1) xs vs ts
  | k, _ :: xs, v :: vs, ts => v :: fillLs m k xs vs ts
  | _, _, _, _ => []
theorem refTs_eq : ∀ (xs : List VP) (vs : List TV), refTs xs vs = refLs xs vs
  | [], vs => by cases vs <;> rfl
  | x :: xs, [] => by cases x <;> rfl
  | x :: xs, v :: vs => by cases x <;> simp only [refTs, refLs, refTs_eq xs vs]
theorem refLs_rel {Q : Nm → Pth → Nat → Prop} : ∀ (xs : List VP) {vs : List TV} {lvs : List LV}, RelVs Q vs lvs → RelVs Q (refLs xs vs) (refLs xs lvs)
  | [], vs, lvs, h => by cases vs <;> cases lvs <;> simp [refLs, RelVs]
  | x :: xs, [], lvs, h => by simp only [RelVs] at h; subst h; cases x <;> simp [refLs, RelVs]
  | x :: xs, v :: vs, [], h => by simp only [RelVs] at h
  | x :: xs, v :: vs, l :: lvs, h => by
    simp only [RelVs] at h
    cases x <;> simp only [refLs, RelVs] <;> first | exact ⟨h.1, refLs_rel xs h.2⟩ | exact refLs_rel xs h.2
theorem refLs_rep {C : Ctx} {G : Gh} {w : World} {b : Nm → Box} : ∀ (xs : List VP) {lvs : List LV} {us : List Value}, RepVs C G w b lvs us → RepVs C G w b (refLs xs lvs) (refLs xs us)
  | [], lvs, us, h => by cases lvs <;> cases us <;> simp [refLs, RepVs]
  | x :: xs, [], us, h => by rw [RepVs] at h; subst h; cases x <;> simp [refLs, RepVs]
  | x :: xs, v :: vs, [], h => by rw [RepVs] at h; exact h.elim
  | x :: xs, v :: vs, l :: lvs, h => by
    rw [RepVs] at h
    cases x <;> simp only [refLs] <;> first | exact refLs_rep xs h.2 | (rw [RepVs]; exact ⟨h.1, refLs_rep xs h.2⟩)
theorem RepC.zn {C : Ctx} {G G' : Gh} {w : World} {x : T} {u : Value} (hz : ∀ b, G.Zn b → G'.Zn b) (h : RepC (C.Z G) w noLab noWhere x u) : RepC (C.Z G') w noLab noWhere x u :=
  RepC.move (fun f b hb => ⟨by
    cases f
    · exact hb.elim
    · exact hz b hb
    · exact hb.imp id (hz b), rfl⟩) x noLab_under h
theorem fillLs_rep {C : Ctx} {G G' : Gh} {w : World} {b b' : Nm → Box} {m : Nm} {full : List T} {fus : List Value} (hz : ∀ b, G.Zn b → G'.Zn b)
    (hb : ∀ i es u, full[i]? = some (.sl .own es) → fus[i]? = some u → RepV C G' w b' (.ref m [i] 0 es.length) u) : ∀ (xs : List VP) (k : Nat) {vs : List TV} {lvs : List LV} {us : List Value} {Q : Nm → Pth → Nat → Prop}, keepT xs vs = true → RelVs Q vs lvs → RepVs C G w b lvs us →
      (∀ i, fus[k + i]? = (refLs xs us)[i]?) → (refLs xs us).length ≤ (full.drop k).length → RepVs C G' w b' (fillLs m k xs lvs (full.drop k)) us
  | [], k, vs, lvs, us, Q, hk, hr, h, _, _ => by
    cases vs with
    | nil => simp only [RelVs] at hr; subst hr; rw [RepVs] at h; subst h; simp [fillLs, RepVs]
    | cons _ _ => simp [keepT] at hk
  | x :: xs, k, [], lvs, us, Q, hk, hr, h, _, _ => by cases x <;> simp [keepT] at hk
  | x :: xs, k, v :: vs, [], us, Q, hk, hr, h, _, _ => by simp only [RelVs] at hr
  | x :: xs, k, v :: vs, l :: lvs, [], Q, hk, hr, h, _, _ => by rw [RepVs] at h; exact h.elim
  | x :: xs, k, v :: vs, l :: lvs, u :: us, Q, hk, hr, h, hf, hl => by
    simp only [RelVs] at hr
    rw [RepVs] at h
    have plain : ∀ c, v = .c c → RepV C G' w b' l u := by
      intro c hc
      subst hc
      have := hr.1
      simp only [RelV] at this
      subst this
      have h1 := h.1
      rw [RepV] at h1 ⊢
      exact RepC.zn hz h1
    cases x with
    | ref n c0 =>
      simp only [keepT] at hk
      simp only [refLs] at hf hl
      cases hd : full.drop k with
      | nil => rw [hd] at hl; simp at hl
      | cons t ts =>
        have hk0 := drop_head hd
        have hdr : full.drop (k + 1) = ts := by rw [← List.drop_drop, hd]; rfl
        have ih := fillLs_rep hz hb xs (k + 1) hk hr.2 h.2 (fun i => by
          have := hf (i + 1)
          rw [show k + 1 + i = k + (i + 1) by omega, this]
          rfl) (by rw [hdr]; rw [hd] at hl; simpa using hl)
        rw [hdr] at ih
        have h0 := hf 0
        simp only [Nat.add_zero, List.getElem?_cons_zero] at h0
        cases t with
        | sl f es =>
          cases f with
          | own => simp only [fillLs]; rw [RepVs]; exact ⟨hb k es u hk0 h0, ih⟩
          | nw => simp only [fillLs]; rw [RepVs, RepV]; exact ⟨trivial, ih⟩
          | fz => simp only [fillLs]; rw [RepVs, RepV]; exact ⟨trivial, ih⟩
        | _ => simp only [fillLs]; rw [RepVs, RepV]; exact ⟨trivial, ih⟩
    | _ =>
      cases v with
      | c c => simp only [keepT] at hk; simp only [refLs] at hf hl; simp only [fillLs]; rw [RepVs]; exact ⟨plain c rfl, fillLs_rep hz hb xs k hk hr.2 h.2 hf hl⟩
      | _ => simp [keepT] at hk
theorem fillTs_rel {b' : Nm → Box} {m : Nm} {full : List Cl} (hb : (b' m).cells = encs full) (ho : allOwn full = true) : ∀ (xs : List VP) (k : Nat) {vs : List TV} {lvs : List LV} {Q : Nm → Pth → Nat → Prop}, keepT xs vs = true → RelVs Q vs lvs →
      (refLs xs vs).length ≤ (full.drop k).length → RelVs (Qs b') (fillTs m k xs vs) (fillLs m k xs lvs (encs (full.drop k)))
  | [], k, vs, lvs, Q, hk, hr, _ => by
    cases vs with
    | nil => simp only [RelVs] at hr; subst hr; simp [fillTs, fillLs, RelVs]
    | cons _ _ => simp [keepT] at hk
  | x :: xs, k, [], lvs, Q, hk, hr, _ => by cases x <;> simp [keepT] at hk
  | x :: xs, k, v :: vs, [], Q, hk, hr, _ => by simp only [RelVs] at hr
  | x :: xs, k, v :: vs, l :: lvs, Q, hk, hr, hl => by
    simp only [RelVs] at hr
    have own_mem : ∀ (l : List Cl), allOwn l = true → ∀ c ∈ l, c.own = true := by
      intro l
      induction l with
      | nil => intro _ c hc; simp at hc
      | cons a l ih =>
        intro h c hc
        simp only [allOwn, Bool.and_eq_true] at h
        rcases List.mem_cons.1 hc with rfl | hc
        · exact h.1
        · exact ih h.2 c hc
    cases x with
    | ref n c0 =>
      simp only [keepT] at hk
      simp only [refLs] at hl
      cases hd : full.drop k with
      | nil => rw [hd] at hl; simp at hl
      | cons c cs =>
        have hdr : full.drop (k + 1) = cs := by rw [← List.drop_drop, hd]; rfl
        have ih := fillTs_rel hb ho xs (k + 1) hk hr.2 (by rw [hdr]; rw [hd] at hl; simpa using hl)
        rw [hdr] at ih
        obtain ⟨es, hes⟩ := own_enc.1 (own_mem _ ho c (List.mem_of_mem_drop (i := k) (by rw [hd]; simp)))
        simp only [fillTs, encs, List.map_cons, hes, fillLs, RelVs]
        refine ⟨?_, ih⟩
        simp only [RelV]
        refine ⟨es.length, rfl, es, encs cs, ?_, rfl⟩
        rw [hb]
        show rowAt (encs full) [k] = _
        simp only [rowAt]
        rw [encs_drop, hd, ← hes]
        rfl
    | _ =>
      cases v with
      | c c => simp only [keepT] at hk; simp only [refLs] at hl; simp only [fillTs, fillLs, RelVs]; exact ⟨by have := hr.1; simp only [RelV] at this ⊢; exact this, fillTs_rel hb ho xs k hk hr.2 hl⟩
      | _ => simp [keepT] at hk
end Go.Proofs.Ytdlambaphhklpaa.TM
namespace Go.Proofs.Ytdlambaphhklpaa.TM
open Go
theorem rel_newbox {vs : VS} {st : St} (R : Rel vs st) (n : Nm) (x : VB) (lg : List Ft) :
    Rel ⟨killS (killA n) vs.s, (n, x) :: vs.b, lg⟩ ⟨fun u => killV n [] (st.s u), fun k => if k = n then ⟨x.real, encs x.cells⟩ else st.b k⟩ := by
  refine ⟨fun t => ?_, fun k z hz => ?_⟩
  · simp only
    rw [look_killS _ (by simp [killA])]
    refine RelV.mono (fun k q hi h => ?_) _ _ (RelV.killA n _ _ (R.s t))
    obtain ⟨⟨es, r, h1, h2⟩, h3⟩ := h
    exact ⟨es, r, by simpa [h3] using h1, h2⟩
  · simp only [lookB] at hz
    by_cases hk : k = n
    · subst hk
      rw [nm_eq.2 rfl] at hz
      cases hz
      simp
    · have : nmEq n k = false := by
        cases h : nmEq n k with
        | false => rfl
        | true => exact absurd (nm_eq.1 h).symm hk
      rw [this] at hz
      simpa [hk] using R.b k z hz
theorem closes_run {ρ : Type} {N : Nat} {vs : VS} {st : St} {y : ρ} {xs : List TV} {lvs : List LV} {k : List Cl → Co ρ} (h : closesT xs k vs = some y) (R : Rel vs st) (hv : RelVs (Qw st.b) xs lvs) :
    ∃ cs vs' st', k cs vs' = some y ∧ Rel vs' st' ∧ st.closesS lvs = some (encs cs, st') := by
  obtain ⟨cs, vs', st', h1, g, _⟩ := closesT_ref (N := N) (m := M.ok) h R hv
  obtain ⟨R', l, e, _⟩ := g
  refine ⟨cs, vs', st', h1, R', ?_⟩
  have hr : (closes lvs M.ok).runT N st = some (encs cs, st', l) := by rw [e]; simp [M.runT]
  obtain ⟨e1, e2⟩ := runT_fits _ hr
  have hrun := run_fits _ hr e2
  rw [← e1, run_closes] at hrun
  cases hc : st.closesS lvs with
  | none => rw [hc] at hrun; cases hrun
  | some p =>
    obtain ⟨xs', st1⟩ := p
    rw [hc] at hrun
    simp only [M.run, Option.some.injEq, Prod.mk.injEq] at hrun
    rw [hrun.1, hrun.2]
section
variable {C : Ctx} {f : FuncId} {Q : Value → World → Prop} {K : List It} {ρ : Type} {y : ρ} {E : En} {rec : Rec} {st : St} {vs : VS}
theorem canonOne_good {N t : Nat} {x : VP} {k : Co ρ} (hk : ∀ vs st, k vs = some y → Rel vs st → Good C f Q K st) (h : canonOne N t x k vs = some y) (R : Rel vs st) : Good C f Q K st := by
  unfold canonOne at h
  cases hm : firstRef (cellsVP x) with
  | none => rw [hm] at h; exact hk vs st h R
  | some m =>
    rw [hm] at h
    simp only [rdS] at h
    have hR := R.s t
    generalize hl : lookS vs.s t = v at h hR
    cases htk : takeV x v with
    | some cs => rw [htk] at h; exact hk _ _ h (R.lg _)
    | none =>
      rw [htk] at h
      simp only at h
      cases hc : (keepT (cellsVP x) (cellsTV v) && (isAggP x == isAggT v) && Nat.beq m.2 0) with
      | false => rw [hc] at h; cases h
      | true =>
        rw [hc] at h
        simp only [Bool.and_eq_true] at hc
        obtain ⟨⟨c1, c2⟩, c3⟩ := hc
        have hm1 : m.2 ≠ 1 := by have := Nat.eq_of_beq_eq_true c3; omega
        simp only at h
        obtain ⟨lvs, hlv, hparts⟩ : ∃ lvs : List LV, RelVs (Qs st.b) (cellsTV v) lvs ∧ ((isAggT v = true ∧ st.s t = .agg lvs) ∨ (isAggT v = false ∧ lvs = [st.s t])) := by
          cases v with
          | agg xs =>
            simp only [RelV] at hR
            obtain ⟨lvs, e, hr⟩ := hR
            exact ⟨lvs, hr, .inl ⟨rfl, e⟩⟩
          | _ => exact ⟨[st.s t], by simp only [cellsTV, RelVs]; exact ⟨hR, trivial⟩, .inr ⟨rfl, rfl⟩⟩
        rw [refTs_eq] at h
        obtain ⟨cs, vs2, st2, h, R2, hcl⟩ := closes_run (N := 0) h (R.lg _) (refLs_rel (cellsVP x) hlv).w
        cases ho : allOwn cs with
        | false => rw [ho] at h; cases h
        | true =>
          rw [ho] at h
          simp only [killBox, wrB, wrS] at h
          cases ht : Nat.blt t N with
          | false => rw [ht] at h; cases h
          | true =>
            rw [ht] at h
            simp only at h
            have hlen : (refLs (cellsVP x) lvs).length = cs.length := by
              have := closesS_length _ hcl
              simp only [encs, List.length_map] at this
              exact this.symm
            have hlen2 : (refLs (cellsVP x) (cellsTV v)).length ≤ (cs.drop 0).length := by
              rw [RelVs.length (refLs_rel (cellsVP x) hlv), hlen]
              simp
            have R3 := rel_newbox R2 m ⟨false, cs⟩ vs2.lg
            have hfill := fillTs_rel (b' := fun k => if k = m then ⟨false, encs cs⟩ else st2.b k) (m := m) (full := cs) (by simp) ho (cellsVP x) 0 c1 hlv hlen2
            rw [List.drop_zero] at hfill
            obtain ⟨lv', hlv', hsim⟩ : ∃ lv', RelV (Qs fun k => if k = m then ⟨false, encs cs⟩ else st2.b k) (aggIf (isAggT v) (fillTs m 0 (cellsVP x) (cellsTV v))) lv' ∧
                ∀ G a w, Sim C G st [] a w → ∃ G', Sim C G' ⟨fun u => if u = t then lv' else killV m [] (st2.s u), fun k => if k = m then ⟨false, encs cs⟩ else st2.b k⟩ [] a w := by
              have rep : ∀ G a w (us : List Value), Sim C G st [] a w → RepVs C G w st.b lvs us → ∃ G', Sim C G' ⟨fun u => killV m [] (st2.s u), fun k => if k = m then ⟨false, encs cs⟩ else st2.b k⟩ [] a w ∧
                  RepVs C G' w (fun k => if k = m then ⟨false, encs cs⟩ else st2.b k) (fillLs m 0 (cellsVP x) lvs (encs cs)) us := by
                intro G a w us s hus
                obtain ⟨G', s', hz, hb⟩ := s.box1 (refLs_rep (cellsVP x) hus) hcl m hm1
                refine ⟨G', s', ?_⟩
                have := fillLs_rep (b := st.b) (full := encs cs) (fus := refLs (cellsVP x) us) hz hb (cellsVP x) 0 c1 hlv hus (fun i => by rw [Nat.zero_add]) (by
                  have h1 := (refLs_rep (cellsVP x) hus).length
                  simp only [List.drop_zero, encs, List.length_map]
                  omega)
                rw [List.drop_zero] at this
                exact this
              rcases hparts with ⟨ha, hs⟩ | ⟨ha, hs⟩
              · refine ⟨.agg (fillLs m 0 (cellsVP x) lvs (encs cs)), ?_, fun G a w s => ?_⟩
                · rw [ha]
                  simp only [aggIf, RelV]
                  exact ⟨_, rfl, hfill⟩
                · have hst := s.slot t
                  rw [hs, RepV] at hst
                  obtain ⟨us, hu, hus⟩ := hst
                  obtain ⟨G', s', hr⟩ := rep G a w us.toList s hus
                  refine ⟨G', s'.slotAs ?_⟩
                  rw [hu, RepV]
                  exact ⟨us, rfl, hr⟩
              · have hone : ∃ v1, cellsTV v = [v1] := by
                  have := RelVs.length hlv
                  rw [hs] at this
                  exact List.length_eq_one_iff.1 this
                have hfl := RelVs.length hfill
                cases hfx : fillTs m 0 (cellsVP x) (cellsTV v) with
                | nil =>
                  refine ⟨.dead, ?_, fun G a w s => ?_⟩
                  · rw [ha]; simp only [aggIf, RelV]
                  · obtain ⟨G', s', hr⟩ := rep G a w [a.tmps.getD t Go.undef] s (by rw [hs, RepVs, RepVs]; exact ⟨s.slot t, rfl⟩)
                    exact ⟨G', s'.slotAs (by rw [RepV]; trivial)⟩
                | cons z zs =>
                  cases zs with
                  | cons _ _ =>
                    refine ⟨.dead, ?_, fun G a w s => ?_⟩
                    · rw [ha]; simp only [aggIf, RelV]
                    · obtain ⟨G', s', hr⟩ := rep G a w [a.tmps.getD t Go.undef] s (by rw [hs, RepVs, RepVs]; exact ⟨s.slot t, rfl⟩)
                      exact ⟨G', s'.slotAs (by rw [RepV]; trivial)⟩
                  | nil =>
                    rw [hfx] at hfill
                    cases hfy : fillLs m 0 (cellsVP x) lvs (encs cs) with
                    | nil => rw [hfy] at hfill; simp only [RelVs] at hfill
                    | cons l' ls' =>
                      rw [hfy] at hfill
                      simp only [RelVs] at hfill
                      refine ⟨l', ?_, fun G a w s => ?_⟩
                      · rw [ha]
                        exact hfill.1
                      · obtain ⟨G', s', hr⟩ := rep G a w [a.tmps.getD t Go.undef] s (by rw [hs, RepVs, RepVs]; exact ⟨s.slot t, rfl⟩)
                        rw [hfy, RepVs] at hr
                        exact ⟨G', s'.slotAs hr.1⟩
            refine good_ghost hsim (hk _ _ h ⟨fun u => ?_, R3.b⟩)
            simp only [lookS]
            cases hb : Nat.beq t u with
            | true =>
              have := Nat.eq_of_beq_eq_true hb
              subst this
              simp only [if_true]
              exact hlv'
            | false =>
              have hne : u ≠ t := by
                rintro rfl
                rw [Nat.beq_refl] at hb
                cases hb
              simp only [if_neg hne]
              exact R3.s u
theorem canonS_good {N : Nat} {k : Co ρ} (hk : ∀ vs st, k vs = some y → Rel vs st → Good C f Q K st) : ∀ (xs : List (Nat × VP)) {vs : VS} {st : St}, canonS N xs k vs = some y → Rel vs st → Good C f Q K st
  | [], vs, st, h, R => hk vs st h R
  | (t, x) :: xs, vs, st, h, R => canonOne_good (fun vs st h R => canonS_good hk xs h R) h R
end
end Go.Proofs.Ytdlambaphhklpaa.TM
namespace Go.Proofs.Ytdlambaphhklpaa.TM
open Go
mutual
theorem fill_rel {Q : Nm → Pth → Nat → Prop} : ∀ (x : VP) {v : TV} {a : List Cl} {lv : LV} {cs : List Cl}, takeV x v = some a → RelV Q v lv → encs (cs.take a.length) = encs a → RelV Q (x.fill cs) lv ∧ a.length = x.cts.length
  | .c t f, v, a, lv, cs, h, hv, he => by
    cases v with
    | c z =>
      simp only [takeV, Option.some.injEq] at h
      subst h
      cases cs with
      | nil => simp [encs] at he
      | cons c cs =>
        simp only [List.length_cons, List.length_nil, Nat.zero_add, List.take_succ_cons, List.take_zero, encs, List.map_cons, List.map_nil, List.cons.injEq, and_true] at he
        simp only [RelV] at hv
        simp only [VP.fill, RelV, VP.cts]
        exact ⟨by rw [hv, he], rfl⟩
    | _ => cases h
  | .ref n c0, v, a, lv, cs, h, hv, he => by
    cases v with
    | ref m p sub =>
      obtain ⟨c, r⟩ := p
      cases r with
      | cons _ _ => cases h
      | nil =>
        cases sub with
        | some _ => cases h
        | none =>
          simp only [takeV] at h
          split at h
          · rename_i hc
            simp only [Bool.and_eq_true] at hc
            have e1 := nm_eq.1 hc.1
            have e2 := Nat.eq_of_beq_eq_true hc.2
            subst e1
            subst e2
            cases h
            exact ⟨hv, rfl⟩
          · cases h
    | _ => cases h
  | .addr n c0, v, a, lv, cs, h, hv, he => by
    cases v with
    | addr m p =>
      obtain ⟨c, r⟩ := p
      cases r with
      | cons _ _ => cases h
      | nil =>
        simp only [takeV] at h
        split at h
        · rename_i hc
          simp only [Bool.and_eq_true] at hc
          have e1 := nm_eq.1 hc.1
          have e2 := Nat.eq_of_beq_eq_true hc.2
          subst e1
          subst e2
          cases h
          exact ⟨hv, rfl⟩
        · cases h
    | _ => cases h
  | .raddr r, v, a, lv, cs, h, hv, he => by
    cases v with
    | raddr zs =>
      simp only [takeV] at h
      split at h
      · rename_i hc
        have e := Nat.eq_of_beq_eq_true hc
        cases h
        simp only [RelV] at hv
        simp only [VP.fill, RelV, VP.cts]
        exact ⟨by rw [hv, e, he], e.symm⟩
      · cases h
    | _ => cases h
  | .agg xs, v, a, lv, cs, h, hv, he => by
    cases v with
    | agg vs =>
      simp only [takeV] at h
      simp only [RelV] at hv
      obtain ⟨us, rfl, hu⟩ := hv
      obtain ⟨h1, h2⟩ := fills_rel xs h hu he
      simp only [VP.fill, RelV, VP.cts]
      exact ⟨⟨_, rfl, h1⟩, h2⟩
    | _ => cases h
  | .tup xs, v, a, lv, cs, h, hv, he => by
    cases v with
    | tup vs =>
      simp only [takeV] at h
      simp only [RelV] at hv
      obtain ⟨us, rfl, hu⟩ := hv
      obtain ⟨h1, h2⟩ := fills_rel xs h hu he
      simp only [VP.fill, RelV, VP.cts]
      exact ⟨⟨_, rfl, h1⟩, h2⟩
    | _ => cases h
  | .fn g xs, v, a, lv, cs, h, hv, he => by
    cases v with
    | fn g' vs =>
      simp only [takeV] at h
      split at h
      · rename_i hc
        have e := Nat.eq_of_beq_eq_true hc
        subst e
        simp only [RelV] at hv
        obtain ⟨us, rfl, hu⟩ := hv
        obtain ⟨h1, h2⟩ := fills_rel xs h hu he
        simp only [VP.fill, RelV, VP.cts]
        exact ⟨⟨_, rfl, h1⟩, h2⟩
      · cases h
    | _ => cases h
theorem fills_rel {Q : Nm → Pth → Nat → Prop} : ∀ (xs : List VP) {vs : List TV} {a : List Cl} {lvs : List LV} {cs : List Cl}, takeVs xs vs = some a → RelVs Q vs lvs → encs (cs.take a.length) = encs a → RelVs Q (VP.fills xs cs) lvs ∧ a.length = (VP.ctss xs).length
  | [], vs, a, lvs, cs, h, hv, he => by
    cases vs with
    | nil =>
      simp only [takeVs, Option.some.injEq] at h
      subst h
      simp only [RelVs] at hv
      subst hv
      simp [VP.fills, RelVs, VP.ctss]
    | cons _ _ => cases h
  | x :: xs, [], a, lvs, cs, h, hv, he => by cases h
  | x :: xs, v :: vs, a, [], cs, h, hv, he => by simp only [RelVs] at hv
  | x :: xs, v :: vs, a, l :: lvs, cs, h, hv, he => by
    simp only [takeVs] at h
    simp only [RelVs] at hv
    split at h
    · rename_i a1 a2 h1 h2
      cases h
      have hlen : (cs.take (a1 ++ a2).length).length = (a1 ++ a2).length := by
        have := congrArg List.length he
        simpa [encs] using this
      have hle : a1.length + a2.length ≤ cs.length := by
        rw [List.length_take, List.length_append] at hlen
        omega
      have he1 : encs (cs.take a1.length) = encs a1 := by
        have := congrArg (List.take a1.length) he
        rw [encs_take, List.take_take] at this
        simp only [encs, List.map_append, List.length_append] at this ⊢
        rw [Nat.min_eq_left (by omega)] at this
        rw [this, List.take_append_of_le_length (by simp), List.take_of_length_le (by simp)]
      have he2 : encs ((cs.drop a1.length).take a2.length) = encs a2 := by
        have := congrArg (List.drop a1.length) he
        rw [encs_drop, List.drop_take] at this
        simp only [encs, List.map_append, List.length_append] at this ⊢
        rw [show a1.length + a2.length - a1.length = a2.length by omega] at this
        rw [this, List.drop_append_of_le_length (by simp), List.drop_of_length_le (by simp)]
        simp
      obtain ⟨k1, k2⟩ := fill_rel x h1 hv.1 he1
      obtain ⟨k3, k4⟩ := fills_rel xs h2 hv.2 he2
      simp only [VP.fills, RelVs, VP.ctss, List.length_append]
      rw [← k2]
      exact ⟨⟨k1, k3⟩, by rw [k4]⟩
    · cases h
end
theorem part_take {cs a b : List Cl} (h : encs cs = encs (a ++ b)) : encs (cs.take a.length) = encs a ∧ encs (cs.drop a.length) = encs b := by
  constructor
  · rw [← encs_take, h]
    simp [encs]
  · rw [← encs_drop, h]
    simp [encs]
theorem cutS_rel {Q : Nm → Pth → Nat → Prop} {s : List (Nat × TV)} {ls : Nat → LV} (hs : ∀ t, RelV Q (lookS s t) (ls t)) : ∀ (slots : List (Nat × VP)) {a cs : List Cl}, takeVs (slots.map (·.2)) (slots.map fun x => lookS s x.1) = some a → encs (cs.take a.length) = encs a →
    (∀ t, RelV Q (lookS (cutS slots cs) t) (ls t)) ∧ a.length = (VP.ctss (slots.map (·.2))).length
  | [], a, cs, h, he => by
    simp only [List.map_nil, takeVs, Option.some.injEq] at h
    subst h
    exact ⟨fun t => by simp only [cutS, lookS, RelV], rfl⟩
  | (u, x) :: slots, a, cs, h, he => by
    simp only [List.map_cons, takeVs] at h
    split at h
    · rename_i a1 a2 h1 h2
      cases h
      have hlen : (cs.take (a1 ++ a2).length).length = (a1 ++ a2).length := by
        have := congrArg List.length he
        simpa [encs] using this
      have hle : a1.length + a2.length ≤ cs.length := by
        rw [List.length_take, List.length_append] at hlen
        omega
      have he1 : encs (cs.take a1.length) = encs a1 := by
        have := congrArg (List.take a1.length) he
        rw [encs_take, List.take_take] at this
        simp only [encs, List.map_append, List.length_append] at this ⊢
        rw [Nat.min_eq_left (by omega)] at this
        rw [this, List.take_append_of_le_length (by simp), List.take_of_length_le (by simp)]
      have he2 : encs ((cs.drop a1.length).take a2.length) = encs a2 := by
        have := congrArg (List.drop a1.length) he
        rw [encs_drop, List.drop_take] at this
        simp only [encs, List.map_append, List.length_append] at this ⊢
        rw [show a1.length + a2.length - a1.length = a2.length by omega] at this
        rw [this, List.drop_append_of_le_length (by simp), List.drop_of_length_le (by simp)]
        simp
      obtain ⟨k1, k2⟩ := fill_rel x h1 (hs u) he1
      obtain ⟨k3, k4⟩ := cutS_rel hs slots h2 he2
      refine ⟨fun t => ?_, by simp only [List.map_cons, VP.ctss, List.length_append, k2, k4]⟩
      simp only [cutS, lookS]
      cases hb : Nat.beq u t with
      | true => rw [Nat.eq_of_beq_eq_true hb] at k1; exact k1
      | false =>
        simp only
        rw [← k2]
        exact k3 t
    · cases h
theorem cutB_rel {vs : VS} {st : St} (R : Rel vs st) : ∀ (boxes : List (Nm × Bool × List (ST × Fg))) {b cs : List Cl}, takeB boxes vs = some b → encs (cs.take b.length) = encs b →
    ∀ n x, lookB (cutB boxes cs) n = some x → (st.b n).real = x.real ∧ (st.b n).cells = encs x.cells
  | [], b, cs, h, he, n, x, hx => by cases hx
  | (m, real, r) :: boxes, b, cs, h, he, n, x, hx => by
    simp only [takeB] at h
    split at h
    · rename_i z b2 h1 h2
      split at h
      · rename_i hc
        cases h
        simp only [Bool.and_eq_true, beq_iff_eq] at hc
        have hr := Nat.eq_of_beq_eq_true hc.1
        have hlen : (cs.take (z.cells ++ b2).length).length = (z.cells ++ b2).length := by
          have := congrArg List.length he
          simpa [encs] using this
        have hle : z.cells.length + b2.length ≤ cs.length := by
          rw [List.length_take, List.length_append] at hlen
          omega
        have he1 : encs (cs.take z.cells.length) = encs z.cells := by
          have := congrArg (List.take z.cells.length) he
          rw [encs_take, List.take_take] at this
          simp only [encs, List.map_append, List.length_append] at this ⊢
          rw [Nat.min_eq_left (by omega)] at this
          rw [this, List.take_append_of_le_length (by simp), List.take_of_length_le (by simp)]
        have he2 : encs ((cs.drop z.cells.length).take b2.length) = encs b2 := by
          have := congrArg (List.drop z.cells.length) he
          rw [encs_drop, List.drop_take] at this
          simp only [encs, List.map_append, List.length_append] at this ⊢
          rw [show z.cells.length + b2.length - z.cells.length = b2.length by omega] at this
          rw [this, List.drop_append_of_le_length (by simp), List.drop_of_length_le (by simp)]
          simp
        simp only [cutB, lookB] at hx
        cases hn : nmEq m n with
        | true =>
          rw [hn] at hx
          cases hx
          have := nm_eq.1 hn
          subst this
          obtain ⟨q1, q2⟩ := R.b m z h1
          exact ⟨by rw [q1, hc.2], by rw [q2, ← hr, he1]⟩
        | false =>
          rw [hn] at hx
          rw [← hr] at hx
          exact cutB_rel R boxes h2 he2 n x hx
      · cases h
    · cases h
theorem pathEq_eq : ∀ {p q : List Nat}, pathEq p q = true → p = q
  | [], [], _ => rfl
  | [], _ :: _, h => by cases h
  | _ :: _, [], h => by cases h
  | x :: p, z :: q, h => by
    simp only [pathEq, Bool.and_eq_true] at h
    rw [Nat.eq_of_beq_eq_true h.1, pathEq_eq h.2]
theorem pickQ_some {f i : Nat} {q : List Nat} {vs : VS} : ∀ {ls : List Lb} {l : Lb}, pickQ f i q vs ls = some l → l.q = some q ∧ l.f = f
  | [], _, h => by cases h
  | l0 :: ls, l, h => by
    simp only [pickQ] at h
    split at h
    · rename_i p hp
      split at h
      · rename_i hc
        cases h
        simp only [Bool.and_eq_true] at hc
        exact ⟨by rw [hp, pathEq_eq hc.2.1], Nat.eq_of_beq_eq_true hc.1.2⟩
      · exact pickQ_some h
    · exact pickQ_some h
theorem tail_some {rec : Rec} {l : Lb} {x : R l.inS} {r : List ST} {z : R r} (h : tail_ rec l x r = some z) : ∃ (e : l.outS = r) (z' : R l.outS), rec l x = some z' ∧ z = e ▸ z' := by
  unfold tail_ at h
  split at h
  · rename_i hb
    have e := ST.beqs_eq _ _ hb
    subst e
    exact ⟨rfl, z, h, rfl⟩
  · cases h
theorem same_res {l m : Lb} (h1 : l.outs = m.outs) (h2 : l.res = m.res) (e : l.outS = m.outS) (z : R l.outS) : l.outsT (l.cells z) = m.outsT (m.cells (e ▸ z)) ∧ l.resT (l.cells z) = m.resT (m.cells (e ▸ z)) := by
  obtain ⟨f, i, q, args, slots, boxes, outs, res⟩ := l
  obtain ⟨f', i', q', args', slots', boxes', outs', res'⟩ := m
  simp only at h1 h2
  subst h1
  subst h2
  exact ⟨rfl, rfl⟩
section
variable {C : Ctx} {E : En} {rec : Rec} {fn : Func}
theorem jump_good {q : List Nat} {node : Code} {vs : VS} {st : St} {z : R E.me.outS} (hJ : Right E.P rec) (hP : C.P = E.P) (hN : C.N = E.N) (hf : E.P.funcs[E.f]? = some fn) (hb : fn.body = some E.body) (hEN : E.N = fn.ntmps)
    (hnode : codeAt E.body q.reverse = some node) (h : jump E rec q vs = some z) (R : Rel vs st) : Good C E.f (Post C (E.me.outsT (E.me.cells z)) (E.me.resT (E.me.cells z))) (.c node :: stk E.body q) st := by
  unfold jump at h
  cases hp : pickQ E.f E.me.i q vs (E.tb E.f) with
  | none => rw [hp] at h; cases h
  | some l =>
    rw [hp] at h
    simp only at h
    obtain ⟨hq, hlf⟩ := pickQ_some hp
    refine canonS_good (fun vs' st' h R' => ?_) l.slots h R
    cases htk : takeC l vs' with
    | none => rw [htk] at h; cases h
    | some cs =>
      rw [htk] at h
      cases hr : apsBeq l.res E.me.res with
      | false => rw [hr] at h; cases h
      | true =>
        cases ho : ctssBeq l.outs E.me.outs with
        | false => rw [hr, ho] at h; cases h
        | true =>
          rw [hr, ho] at h
          change (match fitK l.inT cs with
            | true => toRow l.inT cs fun x => tail_ rec l x E.me.outS
            | false => needQ q vs) = some z at h
          cases hk : fitK l.inT cs with
          | false => rw [hk] at h; cases h
          | true =>
            rw [hk] at h
            obtain ⟨x, h, hx⟩ := toRow_some h
            obtain ⟨e, z', hz, rfl⟩ := tail_some h
            obtain ⟨e1, e2⟩ := same_res (ctssBeq_eq ho) (apsBeq_eq hr) e z'
            rw [← e1, ← e2]
            have hj := hJ l x z' hz
            unfold J at hj
            rw [hq] at hj
            simp only at hj
            rw [hlf] at hj
            refine hj C fn E.body node st' hf hb hnode hP (by rw [hN, hEN]) ?_
            unfold takeC at htk
            split at htk
            · rename_i a b h1 h2
              cases htk
              obtain ⟨p1, p2⟩ := part_take hx
              obtain ⟨k1, k2⟩ := cutS_rel R'.s l.slots h1 p1
              unfold Lb.start
              rw [hq]
              have hcb := cutB_rel R' l.boxes h2 (cs := (ofRow l.inT x).drop a.length) (by
                rw [List.take_of_length_le]
                · exact p2
                · have := congrArg List.length p2
                  simp only [encs, List.length_map] at this
                  omega)
              rw [k2] at hcb
              exact ⟨k1, hcb⟩
            · cases htk
end
end Go.Proofs.Ytdlambaphhklpaa.TM
namespace Go.Proofs.Ytdlambaphhklpaa.TM
open Go
theorem finTs_ref {ρ : Type} {P : Program} {st : St} {y : ρ} : ∀ {rs : List ResultVar} {vs : VS} {k : List TV → Co ρ}, finTs P rs k vs = some y → Rel vs st →
    ∃ us lus vs', k us vs' = some y ∧ RelVs (Qs st.b) us lus ∧ st.finLVs P rs = some lus ∧ Same vs vs'
  | [], vs, k, h, R => ⟨[], [], vs, h, by simp only [RelVs], rfl, .rfl⟩
  | r :: rs, vs, k, h, R => by
    simp only [finTs] at h
    have one : ∃ u lu vs1, finTs P rs (fun us => k (u :: us)) vs1 = some y ∧ RelV (Qs st.b) u lu ∧ st.finLV P r = some lu ∧ Same vs vs1 := by
      cases r with
      | tmp t => exact ⟨_, _, _, h, R.s t, rfl, ⟨rfl, rfl⟩⟩
      | cell a t =>
        simp only [finT, rdS] at h
        have hR := R.s a
        generalize hl : lookS vs.s a = v at h hR
        cases v with
        | addr n p =>
          simp only at h
          obtain ⟨row, vs2, h, hrow, g2, s2⟩ := rowC_ref (N := 0) (m := fun _ => (M.no : M Unit)) h (R.lg _)
          have hrow0 : rowAt (st.b n).cells (pthL (p.add 0)) = some (encs row) := by rw [pthL_add, bump_zero]; exact hrow
          have hs : st.s a = .addr n (pthL p) := addrV hR
          cases ha : isAgg P t with
          | none => rw [ha] at h; cases h
          | some b =>
            rw [ha] at h
            cases b with
            | true =>
              simp only at h
              cases hc : Nat.ble (P.cellsOf t) row.length with
              | false => rw [hc] at h; cases h
              | true =>
                rw [hc] at h
                refine ⟨_, .agg (seens n (pthL p) 0 ((encs row).take (P.cellsOf t))), _, h, ?_, ?_, s2⟩
                · simp only [RelV]
                  refine ⟨_, rfl, ?_⟩
                  rw [encs_take]
                  refine seensT_rel _ 0 (row := encs (row.drop (P.cellsOf t))) ?_
                  rw [hrow0]
                  simp only [encs, ← List.map_append, List.take_append_drop]
                · simp only [St.finLV, hs, hrow, ha]
                  rw [if_pos (by simpa [encs] using Nat.le_of_ble_eq_true hc)]
            | false =>
              cases row with
              | nil => cases h
              | cons z rest =>
                refine ⟨_, seen n (bump 0 (pthL p)) z.enc, _, h, ?_, ?_, s2⟩
                · rw [← pthL_add]
                  exact seenT_rel hrow0
                · simp only [St.finLV, hs, hrow, ha, encs, List.map_cons]
        | _ => cases h
    obtain ⟨u, lu, vs1, h, h1, h2, s1⟩ := one
    have R1 : Rel vs1 st := by
      have := R.lg vs1.lg
      rw [← s1.1, ← s1.2] at this
      exact this
    obtain ⟨us, lus, vs2, h, h3, h4, s2⟩ := finTs_ref h R1
    exact ⟨u :: us, lu :: lus, vs2, h, by simp only [RelVs]; exact ⟨h1, h3⟩, by simp only [St.finLVs, h2, h4], s1.trans s2⟩
theorem cellsTV_rel {Q : Nm → Pth → Nat → Prop} {x : TV} {v : LV} (hd : deadT x = false) (hx : RelV Q x v) : RelVs Q (cellsTV x) v.cells := by
  cases x with
  | agg ys =>
    simp only [RelV] at hx
    obtain ⟨us, rfl, hu⟩ := hx
    exact hu
  | c x => simp only [RelV] at hx; subst hx; simp only [LV.cells, cellsTV, RelVs, RelV]; trivial
  | ref n p sub => cases sub with
    | some s => simp only [RelV] at hx
    | none => have hx' := hx; simp only [RelV] at hx; obtain ⟨_, rfl, _⟩ := hx; simp only [LV.cells, cellsTV, RelVs]; exact ⟨hx', trivial⟩
  | addr n p => simp only [RelV] at hx; subst hx; simp only [LV.cells, cellsTV, RelVs, RelV]; trivial
  | raddr cs => have hx' := hx; simp only [RelV] at hx; subst hx; simp only [LV.cells, cellsTV, RelVs]; exact ⟨hx', trivial⟩
  | tup xs => have hx' := hx; simp only [RelV] at hx; obtain ⟨_, rfl, _⟩ := hx; simp only [LV.cells, cellsTV, RelVs]; exact ⟨hx', trivial⟩
  | fn g xs => have hx' := hx; simp only [RelV] at hx; obtain ⟨_, rfl, _⟩ := hx; simp only [LV.cells, cellsTV, RelVs]; exact ⟨hx', trivial⟩
  | dead => cases hd
theorem fitRes_ok {Q : Nm → Pth → Nat → Prop} : ∀ {us : List TV} {as : List AP} {lus : List LV}, fitRes us as = true → RelVs Q us lus →
    RelVs Q (us.flatMap cellsTV) (lus.flatMap LV.cells) ∧ ∀ ts : List T, ts.length = (lus.flatMap LV.cells).length → resArgs lus ts = argsL as ts
  | [], [], lus, _, hr => by simp only [RelVs] at hr; subst hr; exact ⟨by simp [RelVs], fun ts _ => by simp [resArgs, argsL]⟩
  | [], _ :: _, lus, h, _ => by simp [fitRes] at h
  | u :: us, as, [], h, hr => by simp only [RelVs] at hr
  | u :: us, as, l :: lus, h, hr => by
    simp only [RelVs] at hr
    have agg : ∀ xs r as', u = .agg xs → as = .agg r :: as' → fitRes us as' = true → xs.length = r.length → RelVs Q ((u :: us).flatMap cellsTV) ((l :: lus).flatMap LV.cells) ∧ ∀ ts : List T, ts.length = ((l :: lus).flatMap LV.cells).length → resArgs (l :: lus) ts = argsL as ts := by
      intro xs r as' hu has hf hlen
      subst hu
      subst has
      have h1 := hr.1
      simp only [RelV] at h1
      obtain ⟨ls, rfl, h2⟩ := h1
      obtain ⟨k1, k2⟩ := fitRes_ok hf hr.2
      refine ⟨by simp only [List.flatMap_cons]; exact h2.append k1, fun ts ht => ?_⟩
      simp only [resArgs, argsL, AP.arg, AP.len]
      rw [← RelVs.length h2, hlen]
      congr 1
      refine k2 _ ?_
      rw [List.flatMap_cons, List.length_append] at ht
      simp only [LV.cells] at ht
      rw [List.length_drop, ht, ← RelVs.length h2, hlen]
      omega
    have one : ∀ t f as', as = .one t f :: as' → fitRes us as' = true → deadT u = false → (∀ xs, u ≠ .agg xs) → RelVs Q ((u :: us).flatMap cellsTV) ((l :: lus).flatMap LV.cells) ∧ ∀ ts : List T, ts.length = ((l :: lus).flatMap LV.cells).length → resArgs (l :: lus) ts = argsL as ts := by
      intro t f as' has hf hd hne
      subst has
      obtain ⟨k1, k2⟩ := fitRes_ok hf hr.2
      have hc := cellsTV_rel hd hr.1
      have hl1 : l.cells = [l] := by
        cases u with
        | agg xs => exact absurd rfl (hne xs)
        | c x => have := hr.1; simp only [RelV] at this; subst this; rfl
        | ref n p sub => cases sub with
          | some s => have := hr.1; simp only [RelV] at this
          | none => have := hr.1; simp only [RelV] at this; obtain ⟨_, rfl, _⟩ := this; rfl
        | addr n p => have := hr.1; simp only [RelV] at this; subst this; rfl
        | raddr cs => have := hr.1; simp only [RelV] at this; subst this; rfl
        | tup xs => have := hr.1; simp only [RelV] at this; obtain ⟨_, rfl, _⟩ := this; rfl
        | fn g xs => have := hr.1; simp only [RelV] at this; obtain ⟨_, rfl, _⟩ := this; rfl
        | dead => cases hd
      refine ⟨by simp only [List.flatMap_cons]; exact hc.append k1, fun ts ht => ?_⟩
      rw [List.flatMap_cons, hl1] at ht
      cases ts with
      | nil => simp at ht
      | cons t0 ts =>
        have e : resArgs (l :: lus) (t0 :: ts) = .one t0 :: resArgs lus ts := by
          cases l with
          | agg xs =>
            cases u with
            | agg xs => exact absurd rfl (hne xs)
            | dead => cases hd
            | ref n p sub => cases sub with
              | some s => have := hr.1; simp only [RelV] at this
              | none => have := hr.1; simp only [RelV] at this; obtain ⟨_, h, _⟩ := this; cases h
            | _ => have := hr.1; simp [RelV] at this
          | _ => rfl
        rw [e, k2 ts (by simpa using ht)]
        simp [argsL, AP.arg, AP.len]
    cases u with
    | agg xs =>
      cases as with
      | nil => simp [fitRes] at h
      | cons a as =>
        cases a with
        | agg r =>
          simp only [fitRes, Bool.and_eq_true] at h
          exact agg xs r as rfl rfl h.2 (Nat.eq_of_beq_eq_true h.1)
        | _ => simp [fitRes] at h
    | dead => cases as <;> simp [fitRes] at h
    | _ =>
      cases as with
      | nil => simp [fitRes] at h
      | cons a as =>
        cases a with
        | one t f => simp only [fitRes] at h; exact one t f as rfl h rfl (by simp)
        | _ => simp [fitRes] at h
theorem outsC_ok {vs : VS} {st : St} (R : Rel vs st) : ∀ {outs : List (List (ST × Fg))} {i : Nat} {os : List Cl}, outsC vs.b i outs = some os → OutsOK st i (outsL outs (encs os)) ∧ os.length = (outs.flatMap id).length
  | [], i, os, h => by simp only [outsC, Option.some.injEq] at h; subst h; exact ⟨trivial, rfl⟩
  | o :: outs, i, os, h => by
    simp only [outsC] at h
    split at h
    · rename_i x b h1 h2
      split at h
      · rename_i hc
        cases h
        have hl := Nat.eq_of_beq_eq_true hc
        obtain ⟨k1, k2⟩ := outsC_ok R h2
        have e1 : (encs (x.cells ++ b)).take o.length = encs x.cells := by simp [encs, ← hl]
        have e2 : (encs (x.cells ++ b)).drop o.length = encs b := by simp [encs, ← hl]
        simp only [outsL, e1, e2, OutsOK, List.length_append, List.flatMap_cons, id_eq]
        exact ⟨⟨(R.b _ _ h1).2, k1⟩, by rw [k2, hl]⟩
      · cases h
    · cases h
theorem endC_fin {E : En} {vs : VS} {st : St} {z : R E.me.outS} (h : endC E vs = some z) (R : Rel vs st) : Fin E.P E.rs (E.me.outsT (E.me.cells z)) (E.me.resT (E.me.cells z)) st := by
  unfold endC at h
  obtain ⟨us, lus, vs1, h, hu, hfin, s1⟩ := finTs_ref h R
  cases hf : fitRes us E.me.res with
  | false => rw [hf] at h; cases h
  | true =>
    rw [hf] at h
    simp only at h
    obtain ⟨k1, k2⟩ := fitRes_ok hf hu
    have R1 : Rel vs1 st := by
      have := R.lg vs1.lg
      rw [← s1.1, ← s1.2] at this
      exact this
    obtain ⟨cs, vs2, st2, h, R2, hcl⟩ := closes_run (N := 0) h R1 k1.w
    cases ho : outsC vs2.b 0 E.me.outs with
    | none => rw [ho] at h; cases h
    | some os =>
      rw [ho] at h
      simp only [endR] at h
      obtain ⟨x, h, hx⟩ := toRow_some h
      obtain ⟨o1, o2⟩ := outsC_ok R2 ho
      cases h
      obtain ⟨p1, p2⟩ := part_take hx
      unfold Fin finish
      rw [hfin]
      simp only [hcl]
      have hlen := closesS_length _ hcl
      rw [k2 _ hlen]
      unfold Lb.outsT Lb.resT outLen Lb.cells
      rw [← o2]
      rw [p1, p2]
      exact ⟨rfl, o1⟩
theorem afterOk_spec : ∀ (os : List Oper) (i0 : Nat), afterOk i0 os = true → ∀ i o, os[i]? = some o → ∀ e ∈ o.after, e.on < i0 + i
  | [], i0, _, i, o, h => by simp at h
  | x :: os, i0, h, i, o, hi => by
    simp only [afterOk, Bool.and_eq_true, List.all_eq_true] at h
    cases i with
    | zero =>
      simp at hi
      subst hi
      intro e he
      have := h.1 e (by simpa using he)
      simpa using this
    | succ i =>
      have := afterOk_spec os (i0 + 1) h.2 i o (by simpa using hi)
      intro e he
      have := this e he
      omega
theorem ncLL_spec : ∀ {l l' : List Ft}, ncLL l l' = true → ∀ x ∈ l, ∀ z ∈ l', x.nc z = true
  | [], l', _, x, hx => by simp at hx
  | a :: l, l', h, x, hx => by
    simp only [ncLL, Bool.and_eq_true] at h
    have key : ∀ (m : List Ft), ncL a m = true → ∀ z ∈ m, a.nc z = true := by
      intro m
      induction m with
      | nil => intro _ z hz; simp at hz
      | cons b m ih =>
        intro h z hz
        simp only [ncL, Bool.and_eq_true] at h
        rcases List.mem_cons.1 hz with rfl | hz
        · exact h.1
        · exact ih h.2 z hz
    rcases List.mem_cons.1 hx with rfl | hx
    · exact key l' h.1
    · exact ncLL_spec h.2 x hx
theorem ncOne_spec {ops : Array Oper} {i : Nat} {l : List Ft} : ∀ {ls : List (List Ft)} {j0 : Nat}, ncOne ops i l j0 ls = true → ∀ k l', ls[k]? = some l' → anc ops (j0 + k) ops.size i = true ∨ ncLL l' l = true
  | [], j0, _, k, l', h => by simp at h
  | x :: ls, j0, h, k, l', hk => by
    simp only [ncOne, Bool.and_eq_true, Bool.or_eq_true] at h
    cases k with
    | zero => simp at hk; subst hk; exact h.1
    | succ k =>
      have := ncOne_spec h.2 k l' (by simpa using hk)
      rw [show j0 + 1 + k = j0 + (k + 1) by omega] at this
      exact this
theorem ncAll_spec {ops : Array Oper} {full : List (List Ft)} : ∀ {ls : List (List Ft)} {i0 : Nat}, ncAll ops full i0 ls = true → ∀ k l, ls[k]? = some l → ncOne ops (i0 + k) l 0 (full.take (i0 + k)) = true
  | [], i0, _, k, l, h => by simp at h
  | x :: ls, i0, h, k, l, hk => by
    simp only [ncAll, Bool.and_eq_true] at h
    cases k with
    | zero => simp at hk; subst hk; exact h.1
    | succ k =>
      have := ncAll_spec h.2 k l (by simpa using hk)
      rw [show i0 + 1 + k = i0 + (k + 1) by omega] at this
      exact this
section
variable {C : Ctx} {f : FuncId} {Q : Value → World → Prop} {K : List It} {ρ : Type} {y : ρ} {E : En} {rec : Rec}
theorem drawT_ref {k : Co ρ} {all : Array Oper} (hJ : Right E.P rec) (hP : C.P = E.P) (hN : C.N = E.N) : ∀ (rest pre : List Oper) (acc : List (List Ft)) (vs : VS) (st : St), all.toList = pre ++ rest → drawT E rec all rest acc k vs = some y → Rel vs st →
    ∃ (ls : List (List Ac)) (lgs : List (List Ft)) (vs' : VS), k vs' = some y ∧ Rel vs' (appAll ls st) ∧ fitsAll C.N ls st ∧ ls.length = rest.length ∧ lgs.length = rest.length ∧ (∀ (i : Nat) (l : List Ac), ls[i]? = some l → Doable C all (pre.length + i) l) ∧
      (∀ (i : Nat) (l : List Ac) (g : List Ft), ls[i]? = some l → lgs[i]? = some g → ∀ a ∈ l, ∃ f ∈ g, Cov f a) ∧ ncAll all (acc.reverse ++ lgs) 0 (acc.reverse ++ lgs) = true ∧ afterOk 0 all.toList = true
  | [], pre, acc, vs, st, hall, h, R => by
    simp only [drawT] at h
    cases hc : (ncAll all acc.reverse 0 acc.reverse && afterOk 0 all.toList) with
    | false => rw [hc] at h; cases h
    | true =>
      rw [hc] at h
      simp only [Bool.and_eq_true] at hc
      exact ⟨[], [], _, h, R.lg _, trivial, rfl, rfl, fun i l h => by simp at h, fun i l g h => by simp at h, by simpa using hc.1, hc.2⟩
  | o :: rest, pre, acc, vs, st, hall, h, R => by
    simp only [drawT] at h
    have hi := (idx_cons hall).2
    obtain ⟨vs1, l, h, R1, f1, c1, d1⟩ := one_ref (C := C) hJ hP hN hi h (R.lg [])
    obtain ⟨ls, lgs, vs2, h, R2, f2, n1, n2, d2, c2, nc, ao⟩ := drawT_ref hJ hP hN rest (pre ++ [o]) _ vs1 _ (by rw [hall]; simp) h R1
    refine ⟨l :: ls, vs1.lg :: lgs, vs2, h, R2, ⟨f1, f2⟩, by simp [n1], by simp [n2], fun i l' hl => ?_, fun i l' g hl hg => ?_, by simpa using nc, ao⟩
    · cases i with
      | zero => simp at hl; subst hl; exact d1
      | succ i =>
        have := d2 i l' (by simpa using hl)
        rw [show (pre ++ [o]).length + i = pre.length + (i + 1) by simp; omega] at this
        exact this
    · cases i with
      | zero =>
        simp at hl hg
        subst hl
        subst hg
        obtain ⟨dd, e, hcov⟩ := c1
        rw [List.append_nil] at e
        rw [e]
        exact hcov
      | succ i => exact c2 i l' g (by simpa using hl) (by simpa using hg)
theorem drawT_good {k : Co ρ} {id : Nat} {ops : Array Oper} {vs : VS} {st : St} (hJ : Right E.P rec) (hP : C.P = E.P) (hN : C.N = E.N) (hm : E.P.follows .mixedOrders = true) (hk : ∀ vs st, k vs = some y → Rel vs st → Good C f Q K st)
    (h : drawT E rec ops ops.toList [] k vs = some y) (R : Rel vs st) : Good C f Q (.c (.region id ops true) :: K) st := by
  obtain ⟨ls, lgs, vs', h, R', hf, n1, n2, hd, hc, nc, ao⟩ := drawT_ref (C := C) hJ hP hN ops.toList [] [] vs st (by simp) h R
  simp only [List.reverse_nil, List.nil_append, List.length_nil, Nat.zero_add] at nc hd
  refine good_draw ls hP hm (by simpa using n1) (fun i o hi e he => ?_) hd (fun i j l l' hji hanc hj hi => ?_) hf (hk _ _ h R')
  · have := afterOk_spec _ 0 ao i o (by simpa using hi) e he
    omega
  · intro a ha b hb
    have hil : i < lgs.length := by
      have := (List.getElem?_eq_some_iff.1 hi).1
      omega
    have hjl : j < lgs.length := by omega
    have hgi : lgs[i]? = some lgs[i] := by simp
    have hgj : lgs[j]? = some lgs[j] := by simp
    have h1 := ncAll_spec nc i _ hgi
    rw [Nat.zero_add] at h1
    have h2 := ncOne_spec h1 j lgs[j] (by rw [List.getElem?_take, if_pos hji, hgj])
    rw [Nat.zero_add] at h2
    rcases h2 with h2 | h2
    · rw [hanc] at h2; cases h2
    · obtain ⟨x, hx, cx⟩ := hc j l' _ hj hgj a ha
      obtain ⟨z, hz, cz⟩ := hc i l _ hi hgi b hb
      exact nc_of (ncLL_spec h2 x hx z hz) cx cz
end
end Go.Proofs.Ytdlambaphhklpaa.TM
namespace Go.Proofs.Ytdlambaphhklpaa.TM
open Go
theorem codeAt_snoc : ∀ {p : List Nat} {c node : Code} {i : Nat}, codeAt c p = some node → codeAt c (p ++ [i]) = codeAt node [i]
  | [], c, node, i, h => by simp only [codeAt, Option.some.injEq] at h; subst h; rfl
  | j :: p, c, node, i, h => by
    cases c with
    | seq x z =>
      match j, h with
      | 0, h => simp only [codeAt] at h; simp only [List.cons_append, codeAt]; exact codeAt_snoc h
      | 1, h => simp only [codeAt] at h; simp only [List.cons_append, codeAt]; exact codeAt_snoc h
      | _ + 2, h => simp [codeAt] at h
    | block id x =>
      match j, h with
      | 0, h => simp only [codeAt] at h; simp only [List.cons_append, codeAt]; exact codeAt_snoc h
      | _ + 1, h => simp [codeAt] at h
    | loop x =>
      match j, h with
      | 0, h => simp only [codeAt] at h; simp only [List.cons_append, codeAt]; exact codeAt_snoc h
      | _ + 1, h => simp [codeAt] at h
    | cond t x z =>
      match j, h with
      | 0, h => simp only [codeAt] at h; simp only [List.cons_append, codeAt]; exact codeAt_snoc h
      | 1, h => simp only [codeAt] at h; simp only [List.cons_append, codeAt]; exact codeAt_snoc h
      | _ + 2, h => simp [codeAt] at h
    | _ => simp [codeAt] at h
theorem upTo_exits {body : Code} {id : Nat} : ∀ {q p : List Nat}, upTo body id q = some p → exits id (stk body q) = some (stk body p)
  | [], p, h => by cases h
  | i :: q, p, h => by
    simp only [upTo] at h
    simp only [stk]
    cases hc : codeAt body q.reverse with
    | none => rw [hc] at h; simp only at h ⊢; exact upTo_exits h
    | some c =>
      rw [hc] at h
      cases c with
      | block j x =>
        simp only at h ⊢
        cases hb : Nat.beq j id with
        | true =>
          rw [hb] at h
          cases h
          simp only [exits]
          rw [if_pos (Nat.eq_of_beq_eq_true hb)]
        | false =>
          rw [hb] at h
          simp only [exits]
          rw [if_neg (fun e => by rw [e, Nat.beq_refl] at hb; cases hb)]
          exact upTo_exits h
      | seq x z =>
        simp only at h ⊢
        split
        · simp only [exits]; exact upTo_exits h
        · exact upTo_exits h
      | loop x => simp only at h ⊢; simp only [exits]; exact upTo_exits h
      | _ => simp only at h ⊢; exact upTo_exits h
section
variable {C : Ctx} {E : En} {rec : Rec} {fn : Func} {z : R E.me.outS}
theorem runT_good (hJ : Right E.P rec) (hP : C.P = E.P) (hN : C.N = E.N) (hm : E.P.follows .mixedOrders = true) (hf : E.P.funcs[E.f]? = some fn) (hb : fn.body = some E.body) (hrs : E.rs = fn.results.toList) (hEN : E.N = fn.ntmps) : ∀ n,
    (∀ (first : Bool) (q : List Nat) (vs : VS) (st : St) (node : Code), runT E rec n first true q vs = some z → Rel vs st → codeAt E.body q.reverse = some node → Good C E.f (Post C (E.me.outsT (E.me.cells z)) (E.me.resT (E.me.cells z))) (.c node :: stk E.body q) st) ∧
    (∀ (first : Bool) (q : List Nat) (vs : VS) (st : St), runT E rec n first false q vs = some z → Rel vs st → Good C E.f (Post C (E.me.outsT (E.me.cells z)) (E.me.resT (E.me.cells z))) (stk E.body q) st)
  | 0 => ⟨fun first q vs st node h => by simp [runT, no, fail] at h, fun first q vs st h => by simp [runT, no, fail] at h⟩
  | n + 1 => by
    obtain ⟨ih1, ih2⟩ := runT_good hJ hP hN hm hf hb hrs hEN n
    have hend : ∀ vs st K, endC E vs = some z → Rel vs st → (∀ (b : Frame) cs a w, ∃ todo, Steps C.P (lone (b.at a (K.map It.item)) cs w) (lone { b.at a todo with mode := .returning } cs w)) →
        Good C E.f (Post C (E.me.outsT (E.me.cells z)) (E.me.resT (E.me.cells z))) K st := by
      intro vs st K h R hs
      have hfin := endC_fin h R
      rw [hrs, ← hP] at hfin
      exact good_ret (good_fin (fn := fn) (by rw [hP]; exact hf) hfin) K hs
    refine ⟨fun first q vs st node h R hnode => ?_, fun first q vs st h R => ?_⟩
    · simp only [runT, hnode] at h
      cases node with
      | skip => exact good_skip (ih2 _ _ _ _ h R)
      | ret => exact hend vs st _ h R fun b cs a w => ⟨_, .one step_ret⟩
      | seq x z =>
        refine good_seq ?_
        have := ih1 _ (0 :: q) _ _ x h R (by rw [List.reverse_cons, codeAt_snoc hnode]; simp [codeAt])
        simpa only [stk, hnode, if_true] using this
      | block id x =>
        refine good_block ?_
        have := ih1 _ (0 :: q) _ _ x h R (by rw [List.reverse_cons, codeAt_snoc hnode]; simp [codeAt])
        simpa only [stk, hnode] using this
      | loop x =>
        refine good_loop ?_
        have := ih1 _ (0 :: q) _ _ x h R (by rw [List.reverse_cons, codeAt_snoc hnode]; simp [codeAt])
        simpa only [stk, hnode] using this
      | cond t x z' =>
        cases t with
        | tmp t =>
          simp only [rdS] at h
          have hR := R.s t
          generalize hl : lookS vs.s t = v at h hR
          cases v with
          | c w =>
            obtain ⟨tt, ff, r⟩ := w
            cases tt with
            | bool =>
              have hs := boolV hR
              rcases iteC_ref h with ⟨hr, h⟩ | ⟨hr, h⟩
              · have hs' : st.s t = .t (.v (.bool true)) := by rw [hs, show r = true from hr]
                refine good_cond hs' ?_
                rw [if_pos rfl]
                have := ih1 _ (0 :: q) _ _ x h ((know_rel R hs').lg _) (by rw [List.reverse_cons, codeAt_snoc hnode]; simp [codeAt])
                simpa only [stk, hnode] using this
              · have hs' : st.s t = .t (.v (.bool false)) := by rw [hs, show r = false from hr]
                refine good_cond hs' ?_
                rw [if_neg (by simp)]
                have := ih1 _ (1 :: q) _ _ z' h ((know_rel R hs').lg _) (by rw [List.reverse_cons, codeAt_snoc hnode]; simp [codeAt])
                simpa only [stk, hnode] using this
            | _ => cases h
          | _ => cases h
        | _ => cases h
      | exit id =>
        simp only at h
        cases hu : upTo E.body id q with
        | none => rw [hu] at h; cases h
        | some p =>
          rw [hu] at h
          exact good_exit (upTo_exits hu) (ih2 _ _ _ _ h R)
      | region id ops d =>
        cases d with
        | false =>
          simp only at h
          cases hc : (!first && isCut E.me.i q (E.tb E.f)) with
          | true => rw [hc] at h; exact jump_good hJ hP hN hf hb hEN hnode h R
          | false =>
            rw [hc] at h
            exact good_region (opsT_good hJ hP hN (fun vs st h R => ih2 _ _ _ _ h R) _ _ _ ⟨[], rfl⟩ h R)
        | true =>
          simp only at h
          cases hc : (!first && isCut E.me.i q (E.tb E.f)) with
          | true => rw [hc] at h; exact jump_good hJ hP hN hf hb hEN hnode h R
          | false =>
            rw [hc] at h
            exact drawT_good hJ hP hN hm (fun vs st h R => ih2 _ _ _ _ h R) h R
      | _ => cases h
    · cases q with
      | nil =>
        simp only [runT] at h
        exact hend vs st _ h R fun b cs a w => ⟨[], .one step_end⟩
      | cons i p =>
        match i, h with
        | 0, h =>
          simp only [runT] at h
          cases hc : codeAt E.body p.reverse with
          | none => rw [hc] at h; cases h
          | some node =>
            rw [hc] at h
            cases node with
            | seq x z' =>
              simp only [stk, hc, if_true]
              have := ih1 _ (1 :: p) _ _ z' h R (by rw [List.reverse_cons, codeAt_snoc hc]; simp [codeAt])
              simpa only [stk, hc, Nat.one_ne_zero, if_false] using this
            | block id x => simp only [stk, hc]; exact good_blk (ih2 _ _ _ _ h R)
            | loop x =>
              simp only [stk, hc]
              refine good_again ?_
              have := ih1 _ (0 :: p) _ _ x h R (by rw [List.reverse_cons, codeAt_snoc hc]; simp [codeAt])
              simpa only [stk, hc] using this
            | cond t x z' => simp only [stk, hc]; exact ih2 _ _ _ _ h R
            | _ => cases h
        | 1, h =>
          simp only [runT] at h
          cases hc : codeAt E.body p.reverse with
          | none => rw [hc] at h; cases h
          | some node =>
            rw [hc] at h
            cases node with
            | seq x z' => simp only [stk, hc, Nat.one_ne_zero, if_false]; exact ih2 _ _ _ _ h R
            | cond t x z' => simp only [stk, hc]; exact ih2 _ _ _ _ h R
            | _ => cases h
        | _ + 2, h => simp [runT, no, fail] at h
end
end Go.Proofs.Ytdlambaphhklpaa.TM
namespace Go.Proofs.Ytdlambaphhklpaa.TM
open Go
def LeO {ρ : Type} (a b : Option ρ) : Prop := ∀ z, a = some z → b = some z
def LeC {ρ : Type} (a b : Co ρ) : Prop := ∀ st, LeO (a st) (b st)
section
variable {ρ : Type}
theorem LeO.rfl' {a : Option ρ} : LeO a a := fun _ h => h
theorem LeC.rfl' {a : Co ρ} : LeC a a := fun _ _ h => h
theorem LeC.of {a b : Co ρ} (h : ∀ st, LeO (a st) (b st)) : LeC a b := h
theorem LeC.at {a b : Co ρ} (h : LeC a b) (st : VS) : LeO (a st) (b st) := h st
theorem m_rdS {t : Nat} {k k' : TV → Co ρ} (h : ∀ v0, LeC (k v0) (k' v0)) : LeC (rdS t k) (rdS t k') := LeC.of fun _ => (h _).at _
theorem m_rdB {n : Nm} {k k' : VB → Co ρ} (h : ∀ v0, LeC (k v0) (k' v0)) : LeC (rdB n k) (rdB n k') := by
  refine LeC.of fun st => ?_
  unfold rdB
  split
  · exact (h _).at _
  · exact .rfl'
theorem m_wrS {N t : Nat} {v : TV} {k k' : Co ρ} (h : LeC k k') : LeC (wrS N t v k) (wrS N t v k') := by
  refine LeC.of fun st => ?_
  unfold wrS
  split
  · exact h.at _
  · exact .rfl'
theorem m_wrB {n : Nm} {b : VB} {k k' : Co ρ} (h : LeC k k') : LeC (wrB n b k) (wrB n b k') := LeC.of fun _ => h.at _
theorem m_kill {n : Nm} {p : Pth} {k k' : Co ρ} (h : LeC k k') : LeC (kill n p k) (kill n p k') := LeC.of fun _ => h.at _
theorem m_killBox {n : Nm} {k k' : Co ρ} (h : LeC k k') : LeC (killBox n k) (killBox n k') := LeC.of fun _ => h.at _
theorem m_knowT {n : Nat} {b : Bool} {k k' : Co ρ} (h : LeC k k') : LeC (knowT n b k) (knowT n b k') := LeC.of fun _ => h.at _
theorem m_iteC {c : V .bool} {x x' y y' : Co ρ} (h : LeC x x') (h' : LeC y y') : LeC (iteC c x y) (iteC c x' y') := by
  refine LeC.of fun st => ?_
  unfold iteC ite_
  cases c
  · exact h'.at _
  · exact h.at _
theorem m_castV {t u : ST} {v : V t} {k k' : V u → Option ρ} (h : ∀ v0, LeO (k v0) (k' v0)) : LeO (castV t u v k) (castV t u v k') := by
  unfold castV
  repeat (first | with_reducible exact .rfl' | with_reducible exact h | with_reducible exact h _ | with_reducible exact h _ _ | with_reducible exact (h _).at _ | with_reducible exact h.at _ | with_reducible refine m_iteC ?_ ?_ | with_reducible refine m_knowT ?_ | with_reducible refine m_killBox ?_ | with_reducible refine m_kill ?_ | with_reducible refine m_wrB ?_ | with_reducible refine m_wrS ?_ | with_reducible refine m_rdB ?_ | with_reducible refine m_rdS ?_ | with_reducible refine LeC.of fun _ => ?_ | with_reducible intro _ | split | with_reducible refine LeC.at ?_ _)
theorem m_castL {t u : List ST} {v : V (.sl t)} {k k' : V (.sl u) → Option ρ} (h : ∀ v0, LeO (k v0) (k' v0)) : LeO (castL t u v k) (castL t u v k') := by
  unfold castL
  repeat (first | with_reducible exact .rfl' | with_reducible exact h | with_reducible exact h _ | with_reducible exact h _ _ | with_reducible exact (h _).at _ | with_reducible exact h.at _ | with_reducible refine m_castV ?_ | with_reducible refine m_iteC ?_ ?_ | with_reducible refine m_knowT ?_ | with_reducible refine m_killBox ?_ | with_reducible refine m_kill ?_ | with_reducible refine m_wrB ?_ | with_reducible refine m_wrS ?_ | with_reducible refine m_rdB ?_ | with_reducible refine m_rdS ?_ | with_reducible refine LeC.of fun _ => ?_ | with_reducible intro _ | split | with_reducible refine LeC.at ?_ _)
theorem m_at_ {α : Type} {l : List α} {i : Int} {k k' : Nat → α → Option ρ} (h : ∀ v0 v1, LeO (k v0 v1) (k' v0 v1)) : LeO (at_ l i k) (at_ l i k') := by
  unfold at_
  repeat (first | with_reducible exact .rfl' | with_reducible exact h | with_reducible exact h _ | with_reducible exact h _ _ | with_reducible exact (h _).at _ | with_reducible exact h.at _ | with_reducible refine m_castL ?_ | with_reducible refine m_castV ?_ | with_reducible refine m_iteC ?_ ?_ | with_reducible refine m_knowT ?_ | with_reducible refine m_killBox ?_ | with_reducible refine m_kill ?_ | with_reducible refine m_wrB ?_ | with_reducible refine m_wrS ?_ | with_reducible refine m_rdB ?_ | with_reducible refine m_rdS ?_ | with_reducible refine LeC.of fun _ => ?_ | with_reducible intro _ | split | with_reducible refine LeC.at ?_ _)
theorem m_atN {α : Type} {l : List α} {i : Nat} {k k' : α → Option ρ} (h : ∀ v0, LeO (k v0) (k' v0)) : LeO (atN l i k) (atN l i k') := by
  unfold atN
  repeat (first | with_reducible exact .rfl' | with_reducible exact h | with_reducible exact h _ | with_reducible exact h _ _ | with_reducible exact (h _).at _ | with_reducible exact h.at _ | with_reducible refine m_at_ ?_ | with_reducible refine m_castL ?_ | with_reducible refine m_castV ?_ | with_reducible refine m_iteC ?_ ?_ | with_reducible refine m_knowT ?_ | with_reducible refine m_killBox ?_ | with_reducible refine m_kill ?_ | with_reducible refine m_wrB ?_ | with_reducible refine m_wrS ?_ | with_reducible refine m_rdB ?_ | with_reducible refine m_rdS ?_ | with_reducible refine LeC.of fun _ => ?_ | with_reducible intro _ | split | with_reducible refine LeC.at ?_ _)
theorem m_atS {l : List UInt8} {i : Int} {k k' : Int → Option ρ} (h : ∀ v0, LeO (k v0) (k' v0)) : LeO (atS l i k) (atS l i k') := by
  unfold atS
  repeat (first | with_reducible exact .rfl' | with_reducible exact h | with_reducible exact h _ | with_reducible exact h _ _ | with_reducible exact (h _).at _ | with_reducible exact h.at _ | with_reducible refine m_atN ?_ | with_reducible refine m_at_ ?_ | with_reducible refine m_castL ?_ | with_reducible refine m_castV ?_ | with_reducible refine m_iteC ?_ ?_ | with_reducible refine m_knowT ?_ | with_reducible refine m_killBox ?_ | with_reducible refine m_kill ?_ | with_reducible refine m_wrB ?_ | with_reducible refine m_wrS ?_ | with_reducible refine m_rdB ?_ | with_reducible refine m_rdS ?_ | with_reducible refine LeC.of fun _ => ?_ | with_reducible intro _ | split | with_reducible refine LeC.at ?_ _)
theorem m_sub_ {α : Type} {l : List α} {a b : Int} {k k' : List α → Option ρ} (h : ∀ v0, LeO (k v0) (k' v0)) : LeO (sub_ l a b k) (sub_ l a b k') := by
  unfold sub_
  repeat (first | with_reducible exact .rfl' | with_reducible exact h | with_reducible exact h _ | with_reducible exact h _ _ | with_reducible exact (h _).at _ | with_reducible exact h.at _ | with_reducible refine m_atS ?_ | with_reducible refine m_atN ?_ | with_reducible refine m_at_ ?_ | with_reducible refine m_castL ?_ | with_reducible refine m_castV ?_ | with_reducible refine m_iteC ?_ ?_ | with_reducible refine m_knowT ?_ | with_reducible refine m_killBox ?_ | with_reducible refine m_kill ?_ | with_reducible refine m_wrB ?_ | with_reducible refine m_wrS ?_ | with_reducible refine m_rdB ?_ | with_reducible refine m_rdS ?_ | with_reducible refine LeC.of fun _ => ?_ | with_reducible intro _ | split | with_reducible refine LeC.at ?_ _)
theorem m_app_ {α : Type} {l m : List α} {k k' : List α → Option ρ} (h : ∀ v0, LeO (k v0) (k' v0)) : LeO (app_ l m k) (app_ l m k') := by
  unfold app_
  repeat (first | with_reducible exact .rfl' | with_reducible exact h | with_reducible exact h _ | with_reducible exact h _ _ | with_reducible exact (h _).at _ | with_reducible exact h.at _ | with_reducible refine m_sub_ ?_ | with_reducible refine m_atS ?_ | with_reducible refine m_atN ?_ | with_reducible refine m_at_ ?_ | with_reducible refine m_castL ?_ | with_reducible refine m_castV ?_ | with_reducible refine m_iteC ?_ ?_ | with_reducible refine m_knowT ?_ | with_reducible refine m_killBox ?_ | with_reducible refine m_kill ?_ | with_reducible refine m_wrB ?_ | with_reducible refine m_wrS ?_ | with_reducible refine m_rdB ?_ | with_reducible refine m_rdS ?_ | with_reducible refine LeC.of fun _ => ?_ | with_reducible intro _ | split | with_reducible refine LeC.at ?_ _)
theorem m_rep_ {α : Type} {n : Int} {e : α} {k k' : List α → Option ρ} (h : ∀ v0, LeO (k v0) (k' v0)) : LeO (rep_ n e k) (rep_ n e k') := by
  unfold rep_
  repeat (first | with_reducible exact .rfl' | with_reducible exact h | with_reducible exact h _ | with_reducible exact h _ _ | with_reducible exact (h _).at _ | with_reducible exact h.at _ | with_reducible refine m_app_ ?_ | with_reducible refine m_sub_ ?_ | with_reducible refine m_atS ?_ | with_reducible refine m_atN ?_ | with_reducible refine m_at_ ?_ | with_reducible refine m_castL ?_ | with_reducible refine m_castV ?_ | with_reducible refine m_iteC ?_ ?_ | with_reducible refine m_knowT ?_ | with_reducible refine m_killBox ?_ | with_reducible refine m_kill ?_ | with_reducible refine m_wrB ?_ | with_reducible refine m_wrS ?_ | with_reducible refine m_rdB ?_ | with_reducible refine m_rdS ?_ | with_reducible refine LeC.of fun _ => ?_ | with_reducible intro _ | split | with_reducible refine LeC.at ?_ _)
theorem m_catS {l m : List UInt8} {k k' : List UInt8 → Option ρ} (h : ∀ v0, LeO (k v0) (k' v0)) : LeO (catS l m k) (catS l m k') := by
  unfold catS
  repeat (first | with_reducible exact .rfl' | with_reducible exact h | with_reducible exact h _ | with_reducible exact h _ _ | with_reducible exact (h _).at _ | with_reducible exact h.at _ | with_reducible refine m_rep_ ?_ | with_reducible refine m_app_ ?_ | with_reducible refine m_sub_ ?_ | with_reducible refine m_atS ?_ | with_reducible refine m_atN ?_ | with_reducible refine m_at_ ?_ | with_reducible refine m_castL ?_ | with_reducible refine m_castV ?_ | with_reducible refine m_iteC ?_ ?_ | with_reducible refine m_knowT ?_ | with_reducible refine m_killBox ?_ | with_reducible refine m_kill ?_ | with_reducible refine m_wrB ?_ | with_reducible refine m_wrS ?_ | with_reducible refine m_rdB ?_ | with_reducible refine m_rdS ?_ | with_reducible refine LeC.of fun _ => ?_ | with_reducible intro _ | split | with_reducible refine LeC.at ?_ _)
theorem m_scat {a b : V .str} {k k' : V .str → Option ρ} (h : ∀ v0, LeO (k v0) (k' v0)) : LeO (scat a b k) (scat a b k') := m_catS h
theorem m_sget {a : V .str} {i : V (.int .i64)} {k k' : V (.int .u8) → Option ρ} (h : ∀ v0, LeO (k v0) (k' v0)) : LeO (sget a i k) (sget a i k') := m_atS h
theorem m_ssub {l : V .str} {a b : V (.int .i64)} {k k' : V .str → Option ρ} (h : ∀ v0, LeO (k v0) (k' v0)) : LeO (ssub l a b k) (ssub l a b k') := m_sub_ h
theorem m_lget {r : List ST} {a : V (.sl r)} {i : V (.int .i64)} {k k' : X → R r → Option ρ} (h : ∀ v0 v1, LeO (k v0 v1) (k' v0 v1)) : LeO (lget r a i k) (lget r a i k') := m_at_ h
theorem m_lgetN {r : List ST} {a : V (.sl r)} {i : X} {k k' : R r → Option ρ} (h : ∀ v0, LeO (k v0) (k' v0)) : LeO (lgetN r a i k) (lgetN r a i k') := m_atN h
theorem m_lapp {r : List ST} {a b : V (.sl r)} {k k' : V (.sl r) → Option ρ} (h : ∀ v0, LeO (k v0) (k' v0)) : LeO (lapp r a b k) (lapp r a b k') := m_app_ h
theorem m_lrep {r : List ST} {n : V (.int .i64)} {e : R r} {k k' : V (.sl r) → Option ρ} (h : ∀ v0, LeO (k v0) (k' v0)) : LeO (lrep r n e k) (lrep r n e k') := m_rep_ h
theorem m_lsub {r : List ST} {l : V (.sl r)} {a b : V (.int .i64)} {k k' : V (.sl r) → Option ρ} (h : ∀ v0, LeO (k v0) (k' v0)) : LeO (lsub r l a b k) (lsub r l a b k') := m_sub_ h
theorem m_conv {t : ST} {f : Fg} {c : Cl} {k k' : V t → Option ρ} (h : ∀ v0, LeO (k v0) (k' v0)) : LeO (conv t f c k) (conv t f c k') := by
  unfold conv
  cases hb : Fg.beq c.f f with
  | true => exact m_castV h
  | false =>
    simp only
    obtain ⟨u, g, y⟩ := c
    cases u <;> first | exact .rfl' | skip
    cases g <;> first | exact .rfl' | skip
    cases t <;> first | exact .rfl' | skip
    cases f <;> first | exact .rfl' | skip
    rename_i l _
    cases l <;> first | exact .rfl' | exact h _
theorem m_toRow : ∀ {r : List (ST × Fg)} {cs : List Cl} {k k' : R (cts r) → Option ρ} (_ : ∀ v, LeO (k v) (k' v)), LeO (toRow r cs k) (toRow r cs k')
  | [], [], _, _, h => h _
  | [], _ :: _, _, _, _ => by simp only [toRow]; exact .rfl'
  | _ :: _, [], _, _, _ => by simp only [toRow]; exact .rfl'
  | (t, f) :: r, c :: cs, _, _, h => by
    simp only [toRow]
    exact m_conv fun a => m_toRow fun b => h _
theorem m_mkRow : ∀ {r : List ST} {fs : List Fg} {cs : List Cl} {k k' : R r → Option ρ} (_ : ∀ v, LeO (k v) (k' v)), LeO (mkRow r fs cs k) (mkRow r fs cs k')
  | [], [], [], _, _, h => h _
  | [], [], _ :: _, _, _, _ => by simp only [mkRow]; exact .rfl'
  | [], _ :: _, _, _, _, _ => by simp only [mkRow]; exact .rfl'
  | _ :: _, [], _, _, _, _ => by simp only [mkRow]; exact .rfl'
  | _ :: _, _ :: _, [], _, _, _ => by simp only [mkRow]; exact .rfl'
  | t :: r, f :: fs, c :: cs, _, _, h => by
    simp only [mkRow]
    exact m_conv fun a => m_mkRow fun b => h _
theorem m_getAt : ∀ {r : List (X × Nat)} {cs : List Cl} {c : Nat} {k k' : List Cl → Option ρ} (_ : ∀ v, LeO (k v) (k' v)), LeO (getAt cs c r k) (getAt cs c r k')
  | [], _, _, _, _, h => h _
  | (i, c') :: r, cs, c, _, _, h => by
    simp only [getAt]
    split
    · exact m_lgetN fun e => m_getAt h
    · exact .rfl'
theorem m_putAt : ∀ {r : List (X × Nat)} {cs : List Cl} {c : Nat} {y : Cl} {k k' : List Cl → Option ρ} (_ : ∀ v, LeO (k v) (k' v)), LeO (putAt cs c r y k) (putAt cs c r y k')
  | [], _, _, _, _, _, h => by
    simp only [putAt]
    split
    · exact h _
    · exact .rfl'
  | (i, c') :: r, cs, c, _, _, _, h => by
    simp only [putAt]
    split
    · exact m_lgetN fun e => m_putAt fun cs' => m_mkRow fun e' => h _
    · exact .rfl'
theorem m_rowC {n : Nm} {p : Pth} {k k' : List Cl → Co ρ} (h : ∀ v0, LeC (k v0) (k' v0)) : LeC (rowC n p k) (rowC n p k') := m_rdB fun _ => LeC.of fun _ => m_getAt fun _ => (h _).at _
theorem m_evT {o : Operand} {k k' : TV → Co ρ} (h : ∀ v0, LeC (k v0) (k' v0)) : LeC (evT o k) (evT o k') := by
  unfold evT
  repeat (first | with_reducible exact .rfl' | with_reducible exact h | with_reducible exact h _ | with_reducible exact h _ _ | with_reducible exact (h _).at _ | with_reducible exact h.at _ | with_reducible refine m_rowC ?_ | with_reducible refine m_putAt ?_ | with_reducible refine m_getAt ?_ | with_reducible refine m_mkRow ?_ | with_reducible refine m_toRow ?_ | with_reducible refine m_conv ?_ | with_reducible refine m_lsub ?_ | with_reducible refine m_lrep ?_ | with_reducible refine m_lapp ?_ | with_reducible refine m_lgetN ?_ | with_reducible refine m_lget ?_ | with_reducible refine m_ssub ?_ | with_reducible refine m_sget ?_ | with_reducible refine m_scat ?_ | with_reducible refine m_catS ?_ | with_reducible refine m_rep_ ?_ | with_reducible refine m_app_ ?_ | with_reducible refine m_sub_ ?_ | with_reducible refine m_atS ?_ | with_reducible refine m_atN ?_ | with_reducible refine m_at_ ?_ | with_reducible refine m_castL ?_ | with_reducible refine m_castV ?_ | with_reducible refine m_iteC ?_ ?_ | with_reducible refine m_knowT ?_ | with_reducible refine m_killBox ?_ | with_reducible refine m_kill ?_ | with_reducible refine m_wrB ?_ | with_reducible refine m_wrS ?_ | with_reducible refine m_rdB ?_ | with_reducible refine m_rdS ?_ | with_reducible refine LeC.of fun _ => ?_ | with_reducible intro _ | split | with_reducible refine LeC.at ?_ _)
theorem m_evTs : ∀ {os : List Operand} {k k' : List TV → Co ρ} (_ : ∀ v, LeC (k v) (k' v)), LeC (evTs os k) (evTs os k')
  | [], _, _, h => h _
  | o :: os, _, _, h => by
    simp only [evTs]
    exact m_evT fun v => m_evTs fun vs => h _
theorem m_evPartsT : ∀ {os : List (Nat × Operand)} {k k' : List (Nat × TV) → Co ρ} (_ : ∀ v, LeC (k v) (k' v)), LeC (evPartsT os k) (evPartsT os k')
  | [], _, _, h => h _
  | (i, o) :: os, _, _, h => by
    simp only [evPartsT]
    exact m_evT fun v => m_evPartsT fun vs => h _
theorem m_outT {N : Nat} {d : Option Nat} {v : TV} {k k' : Co ρ} (h : LeC k k') : LeC (outT N d v k) (outT N d v k') := by
  unfold outT
  repeat (first | with_reducible exact .rfl' | with_reducible exact h | with_reducible exact h _ | with_reducible exact h _ _ | with_reducible exact (h _).at _ | with_reducible exact h.at _ | with_reducible refine m_evPartsT ?_ | with_reducible refine m_evTs ?_ | with_reducible refine m_evT ?_ | with_reducible refine m_rowC ?_ | with_reducible refine m_putAt ?_ | with_reducible refine m_getAt ?_ | with_reducible refine m_mkRow ?_ | with_reducible refine m_toRow ?_ | with_reducible refine m_conv ?_ | with_reducible refine m_lsub ?_ | with_reducible refine m_lrep ?_ | with_reducible refine m_lapp ?_ | with_reducible refine m_lgetN ?_ | with_reducible refine m_lget ?_ | with_reducible refine m_ssub ?_ | with_reducible refine m_sget ?_ | with_reducible refine m_scat ?_ | with_reducible refine m_catS ?_ | with_reducible refine m_rep_ ?_ | with_reducible refine m_app_ ?_ | with_reducible refine m_sub_ ?_ | with_reducible refine m_atS ?_ | with_reducible refine m_atN ?_ | with_reducible refine m_at_ ?_ | with_reducible refine m_castL ?_ | with_reducible refine m_castV ?_ | with_reducible refine m_iteC ?_ ?_ | with_reducible refine m_knowT ?_ | with_reducible refine m_killBox ?_ | with_reducible refine m_kill ?_ | with_reducible refine m_wrB ?_ | with_reducible refine m_wrS ?_ | with_reducible refine m_rdB ?_ | with_reducible refine m_rdS ?_ | with_reducible refine LeC.of fun _ => ?_ | with_reducible intro _ | split | with_reducible refine LeC.at ?_ _)
theorem m_closeT {v : TV} {k k' : Cl → Co ρ} (h : ∀ v0, LeC (k v0) (k' v0)) : LeC (closeT v k) (closeT v k') := by
  cases v with
  | c x =>
    simp only [closeT]
    cases solid x.t x.f
    · exact .rfl'
    · exact h _
  | ref n p sub =>
    obtain ⟨c, r⟩ := p
    cases r with
    | cons a b => exact .rfl'
    | nil =>
      simp only [closeT]
      refine m_rdB fun bx => ?_
      cases bx.cells.drop c with
      | nil => exact .rfl'
      | cons y ys =>
        obtain ⟨t, f, l⟩ := y
        cases t <;> first | exact .rfl' | skip
        simp only
        cases ownF f
        · exact .rfl'
        · cases sub
          · exact m_wrB (m_kill (h _))
          · exact .rfl'
  | fn g xs =>
    cases xs with
    | nil => exact h _
    | cons x xs => exact .rfl'
  | _ => exact .rfl'
theorem m_closesT : ∀ {os : List TV} {k k' : List Cl → Co ρ} (_ : ∀ v, LeC (k v) (k' v)), LeC (closesT os k) (closesT os k')
  | [], _, _, h => h _
  | o :: os, _, _, h => by
    simp only [closesT]
    exact m_closeT fun v => m_closesT fun vs => h _
theorem m_closeCT {v : TV} {k k' : List Cl → Co ρ} (h : ∀ v0, LeC (k v0) (k' v0)) : LeC (closeCT v k) (closeCT v k') := by
  unfold closeCT
  repeat (first | with_reducible exact .rfl' | with_reducible exact h | with_reducible exact h _ | with_reducible exact h _ _ | with_reducible exact (h _).at _ | with_reducible exact h.at _ | with_reducible refine m_closesT ?_ | with_reducible refine m_closeT ?_ | with_reducible refine m_outT ?_ | with_reducible refine m_evPartsT ?_ | with_reducible refine m_evTs ?_ | with_reducible refine m_evT ?_ | with_reducible refine m_rowC ?_ | with_reducible refine m_putAt ?_ | with_reducible refine m_getAt ?_ | with_reducible refine m_mkRow ?_ | with_reducible refine m_toRow ?_ | with_reducible refine m_conv ?_ | with_reducible refine m_lsub ?_ | with_reducible refine m_lrep ?_ | with_reducible refine m_lapp ?_ | with_reducible refine m_lgetN ?_ | with_reducible refine m_lget ?_ | with_reducible refine m_ssub ?_ | with_reducible refine m_sget ?_ | with_reducible refine m_scat ?_ | with_reducible refine m_catS ?_ | with_reducible refine m_rep_ ?_ | with_reducible refine m_app_ ?_ | with_reducible refine m_sub_ ?_ | with_reducible refine m_atS ?_ | with_reducible refine m_atN ?_ | with_reducible refine m_at_ ?_ | with_reducible refine m_castL ?_ | with_reducible refine m_castV ?_ | with_reducible refine m_iteC ?_ ?_ | with_reducible refine m_knowT ?_ | with_reducible refine m_killBox ?_ | with_reducible refine m_kill ?_ | with_reducible refine m_wrB ?_ | with_reducible refine m_wrS ?_ | with_reducible refine m_rdB ?_ | with_reducible refine m_rdS ?_ | with_reducible refine LeC.of fun _ => ?_ | with_reducible intro _ | split | with_reducible refine LeC.at ?_ _)
theorem m_closePartsT : ∀ {os : List (Nat × TV)} {k k' : List (Nat × List Cl) → Co ρ} (_ : ∀ v, LeC (k v) (k' v)), LeC (closePartsT os k) (closePartsT os k')
  | [], _, _, h => h _
  | (i, o) :: os, _, _, h => by
    simp only [closePartsT]
    exact m_closeCT fun v => m_closePartsT fun vs => h _
theorem m_storesT : ∀ {cs : List Cl} {n : Nm} {p : Pth} {j : Nat} {k k' : Co ρ} (_ : LeC k k'), LeC (storesT n p j cs k) (storesT n p j cs k')
  | [], _, _, _, _, _, h => h
  | c :: cs, n, p, j, k, k', h => by
    simp only [storesT]
    refine m_rdB fun bx => LeC.of fun st => m_getAt fun row => ?_
    split
    · exact .rfl'
    · refine m_putAt fun cs' => ?_
      refine LeC.at ?_ _
      split
      · exact m_kill (m_wrB (m_storesT h))
      · exact m_wrB (m_storesT h)
theorem m_freshT {d : Nat} {b : VB} {k k' : Co ρ} (h : LeC k k') : LeC (freshT d b k) (freshT d b k') := m_killBox (m_wrB h)
theorem m_fillET : ∀ {cs : List (Nat × List Cl)} {r : List ST} {fs : List Fg} {s : Nat} {k k' : V (.sl r) → Option ρ} (_ : ∀ v, LeO (k v) (k' v)), LeO (fillET r fs s cs k) (fillET r fs s cs k')
  | [], _, _, _, _, _, h => h _
  | (i, c) :: cs, _, _, _, _, _, h => by
    simp only [fillET]
    split
    · exact m_mkRow fun e => m_fillET fun l => h _
    · exact .rfl'
theorem m_binT {N : Nat} {P : Program} {t : TypeId} {op : BinOp} {d : Option Nat} {x y : TV} {k k' : Co ρ} (h : LeC k k') : LeC (binT N P t op d x y k) (binT N P t op d x y k') := by
  have hcmp : ∀ kd op a b, LeC (match cmpT kd op a b with
      | some r => outT N d (.c ⟨.bool, .z, r⟩) k
      | none => no 18) (match cmpT kd op a b with
      | some r => outT N d (.c ⟨.bool, .z, r⟩) k'
      | none => no 18) := by
    intro kd op a b
    cases cmpT kd op a b with
    | none => exact .rfl'
    | some r => exact m_outT h
  cases x with
  | c x =>
    obtain ⟨tx, fx, ax⟩ := x
    cases tx with
    | int kx =>
      cases kx with
      | i64 =>
        cases y with
        | c y =>
          obtain ⟨ty, fy, ay⟩ := y
          cases ty with
          | int ky =>
            cases ky with
            | i64 => cases op <;> first | exact m_outT h | exact m_iteC .rfl' (m_outT h) | exact .rfl' | exact hcmp _ _ _ _
            | _ => exact .rfl'
          | _ => exact .rfl'
        | _ => exact .rfl'
      | u8 =>
        cases y with
        | c y =>
          obtain ⟨ty, fy, ay⟩ := y
          cases ty with
          | int ky =>
            cases ky with
            | u8 => cases op <;> first | exact m_outT h | exact .rfl' | exact hcmp _ _ _ _
            | _ => exact .rfl'
          | _ => exact .rfl'
        | _ => exact .rfl'
      | _ => exact .rfl'
    | str =>
      cases y with
      | c y =>
        obtain ⟨ty, fy, ay⟩ := y
        cases ty with
        | str => cases op <;> first | exact m_outT h | exact .rfl' | exact LeC.of fun st => m_scat fun r => (m_outT h).at _
        | _ => exact .rfl'
      | _ => exact .rfl'
    | bool =>
      cases y with
      | c y =>
        obtain ⟨ty, fy, ay⟩ := y
        cases ty with
        | bool =>
          simp only [binT]
          cases P.underlying t with
          | none => exact .rfl'
          | some u => cases u <;> first | exact .rfl' | (cases op <;> first | exact m_outT h | exact .rfl')
        | _ => exact .rfl'
      | _ => exact .rfl'
    | _ => exact .rfl'
  | _ => exact .rfl'
theorem m_appendT {N : Nat} {P : Program} {c : Call} {d : Option Nat} {x y : Operand} {k k' : Co ρ} (h : LeC k k') : LeC (appendT N P c d x y k) (appendT N P c d x y k') := by
  unfold appendT
  cases d with
  | none => exact .rfl'
  | some d =>
    match hat : c.argTypes.toList with
    | [] => exact .rfl'
    | [t0] => exact .rfl'
    | t0 :: t1 :: t2 :: ts => exact .rfl'
    | [t0, t1] =>
      simp only
      cases P.underlying t0 with
      | none => exact .rfl'
      | some ut =>
        cases ut <;> first | exact .rfl' | skip
        cases rowT P t0 with
        | none => exact .rfl'
        | some r =>
          cases Nat.beq t1 t0 with
          | false => exact .rfl'
          | true =>
            refine m_evT fun v => m_evT fun u => m_closeT fun a => m_closeT fun b => ?_
            obtain ⟨ta, fa, xs⟩ := a
            obtain ⟨tb, fb, ys⟩ := b
            cases ta <;> first | exact .rfl' | skip
            cases tb <;> first | exact .rfl' | skip
            rename_i ra rb
            cases fa with
            | nil =>
              cases fb with
              | nil => exact m_freshT (m_wrS h)
              | sl g fs =>
                simp only
                cases Nat.beq rb.length r.length && Nat.beq fs.length r.length with
                | false => exact .rfl'
                | true => exact LeC.of fun st => m_lapp fun l => (m_freshT (m_wrS h)).at _
              | _ => exact .rfl'
            | sl g fs =>
              cases g with
              | own =>
                cases fb with
                | nil =>
                  simp only
                  cases Nat.beq ra.length r.length && Nat.beq fs.length r.length with
                  | false => exact .rfl'
                  | true => exact LeC.of fun st => m_lapp fun l => (m_freshT (m_wrS h)).at _
                | sl g fs' =>
                  simp only
                  cases Fg.beqs fs fs' && (Nat.beq ra.length r.length && Nat.beq fs.length r.length) with
                  | false => exact .rfl'
                  | true => exact LeC.of fun st => m_castL fun zs => m_lapp fun l => (m_freshT (m_wrS h)).at _
                | _ => exact .rfl'
              | _ => cases fb <;> exact .rfl'
            | _ => cases fb <;> exact .rfl'
theorem m_hiT {o : Option Operand} {n : V (.int .i64)} {k k' : TV → Co ρ} (h : ∀ v0, LeC (k v0) (k' v0)) : LeC (hiT o n k) (hiT o n k') := by
  unfold hiT
  repeat (first | with_reducible exact .rfl' | with_reducible exact h | with_reducible exact h _ | with_reducible exact h _ _ | with_reducible exact (h _).at _ | with_reducible exact h.at _ | with_reducible refine m_appendT ?_ | with_reducible refine m_binT ?_ | with_reducible refine m_fillET ?_ | with_reducible refine m_freshT ?_ | with_reducible refine m_storesT ?_ | with_reducible refine m_closePartsT ?_ | with_reducible refine m_closeCT ?_ | with_reducible refine m_closesT ?_ | with_reducible refine m_closeT ?_ | with_reducible refine m_outT ?_ | with_reducible refine m_evPartsT ?_ | with_reducible refine m_evTs ?_ | with_reducible refine m_evT ?_ | with_reducible refine m_rowC ?_ | with_reducible refine m_putAt ?_ | with_reducible refine m_getAt ?_ | with_reducible refine m_mkRow ?_ | with_reducible refine m_toRow ?_ | with_reducible refine m_conv ?_ | with_reducible refine m_lsub ?_ | with_reducible refine m_lrep ?_ | with_reducible refine m_lapp ?_ | with_reducible refine m_lgetN ?_ | with_reducible refine m_lget ?_ | with_reducible refine m_ssub ?_ | with_reducible refine m_sget ?_ | with_reducible refine m_scat ?_ | with_reducible refine m_catS ?_ | with_reducible refine m_rep_ ?_ | with_reducible refine m_app_ ?_ | with_reducible refine m_sub_ ?_ | with_reducible refine m_atS ?_ | with_reducible refine m_atN ?_ | with_reducible refine m_at_ ?_ | with_reducible refine m_castL ?_ | with_reducible refine m_castV ?_ | with_reducible refine m_iteC ?_ ?_ | with_reducible refine m_knowT ?_ | with_reducible refine m_killBox ?_ | with_reducible refine m_kill ?_ | with_reducible refine m_wrB ?_ | with_reducible refine m_wrS ?_ | with_reducible refine m_rdB ?_ | with_reducible refine m_rdS ?_ | with_reducible refine LeC.of fun _ => ?_ | with_reducible intro _ | split | with_reducible refine LeC.at ?_ _)
theorem m_callT {N : Nat} {P : Program} {o : Oper} {c : Call} {k k' : Co ρ} (h : LeC k k') : LeC (opT N P { o with op := .call c } k) (opT N P { o with op := .call c } k') := by
  unfold opT
  simp only
  cases c.callee with
  | value f => exact .rfl'
  | builtin b =>
    match ha : c.args.toList with
    | [] => cases b <;> exact .rfl'
    | [x] =>
      cases b <;> first | exact .rfl' | skip
      simp only
      cases (c.argTypes[0]?).bind P.underlying with
      | none => exact .rfl'
      | some u =>
        cases u <;> first | exact .rfl' | skip
        · refine m_evT fun v => ?_
          cases v <;> first | exact .rfl' | skip
          rename_i b
          obtain ⟨tb, fb, b⟩ := b
          cases tb <;> first | exact .rfl' | exact m_outT h
        · refine m_evT fun v => ?_
          cases v with
          | c b =>
            obtain ⟨tb, fb, b⟩ := b
            cases tb <;> first | exact .rfl' | exact m_outT h
          | ref n p sub =>
            cases sub with
            | some s => exact .rfl'
            | none =>
              refine m_rowC fun row => ?_
              cases row with
              | nil => exact .rfl'
              | cons y ys =>
                obtain ⟨ty, fy, y⟩ := y
                cases ty <;> first | exact .rfl' | skip
                simp only
                cases ownF fy with
                | false => exact .rfl'
                | true => exact m_outT h
          | _ => exact .rfl'
    | [x, y] =>
      cases b <;> first | exact .rfl' | exact m_appendT h | skip
      refine m_evT fun v => m_evT fun u => ?_
      cases v <;> first | exact .rfl' | skip
      rename_i b
      obtain ⟨tb, fb, b⟩ := b
      cases tb <;> first | exact .rfl' | skip
      rename_i kb
      cases kb <;> first | exact .rfl' | skip
      cases u <;> first | exact .rfl' | skip
      rename_i e
      obtain ⟨te, fe, e⟩ := e
      cases te <;> first | exact .rfl' | skip
      rename_i ke
      cases ke <;> first | exact .rfl' | exact m_outT h
    | x :: y :: z :: ws => cases b <;> exact .rfl'
  | _ => exact .rfl'
theorem m_opT {N : Nat} {P : Program} {o : Oper} {k k' : Co ρ} (h : LeC k k') : LeC (opT N P o k) (opT N P o k') := by
  unfold opT
  cases o.op with
  | move x => exact m_evT fun v => m_outT h
  | assign x => exact m_evT fun v => m_outT h
  | pick c a b =>
    refine m_evT fun vc => m_evT fun va => m_evT fun vb => ?_
    cases vc <;> first | exact .rfl' | skip
    rename_i x
    obtain ⟨t, f, x⟩ := x
    cases t <;> first | exact .rfl' | exact m_iteC (m_outT h) (m_outT h)
  | alloc t =>
    simp only
    cases o.dst with
    | none => exact .rfl'
    | some d =>
      cases zerosT P t with
      | none => exact .rfl'
      | some cs => exact m_freshT (m_wrS h)
  | box t x =>
    simp only
    cases o.dst with
    | none => exact .rfl'
    | some d => exact m_evT fun v => m_closeCT fun cs => m_freshT (m_wrS h)
  | build t parts =>
    simp only
    cases buildInfo P t with
    | none => exact .rfl'
    | some b =>
      cases zerosT P t with
      | none => exact .rfl'
      | some cs =>
        refine m_evPartsT fun vs => ?_
        cases fillLT b.2 (cs.map .c) vs with
        | none => exact .rfl'
        | some xs => exact m_outT h
  | buildSlice t len parts =>
    simp only
    cases o.dst with
    | none => exact .rfl'
    | some d =>
      cases rowT P t with
      | none => exact .rfl'
      | some r =>
        simp only
        cases Nat.ble (len * r.length) 16777216 with
        | false => exact .rfl'
        | true =>
          refine m_evPartsT fun vs => m_closePartsT fun cs => ?_
          cases Nat.beq cs.length len with
          | false => exact .rfl'
          | true => exact LeC.of fun st => m_fillET fun l => (m_freshT (m_wrS h)).at _
  | makeSlice t l c =>
    simp only
    cases o.dst with
    | none => exact .rfl'
    | some d =>
      cases rowT P t with
      | none => exact .rfl'
      | some r =>
        simp only
        cases zeroCs (cts r) with
        | none => exact .rfl'
        | some zs =>
          refine m_evT fun v => m_evT fun u => ?_
          cases v <;> first | exact .rfl' | skip
          rename_i x
          obtain ⟨tx, fx, x⟩ := x
          cases tx <;> first | exact .rfl' | skip
          rename_i kx
          cases kx <;> first | exact .rfl' | skip
          cases u <;> first | exact .rfl' | skip
          rename_i y
          obtain ⟨ty, fy, y⟩ := y
          cases ty <;> first | exact .rfl' | skip
          rename_i ky
          cases ky <;> first | exact .rfl' | skip
          exact m_iteC (LeC.of fun st => m_mkRow fun e => m_lrep fun x => (m_freshT (m_wrS h)).at _) .rfl'
  | load t x =>
    refine m_evT fun v => ?_
    cases v <;> first | exact .rfl' | skip
    · refine m_rowC fun row => ?_
      cases isAgg P t with
      | none => exact .rfl'
      | some b =>
        cases b with
        | true =>
          simp only
          cases Nat.ble (P.cellsOf t) row.length with
          | true => exact m_outT h
          | false => exact .rfl'
        | false => cases row <;> first | exact .rfl' | exact m_outT h
    · rename_i cs
      simp only
      cases isAgg P t with
      | none => exact .rfl'
      | some b =>
        cases b with
        | true =>
          simp only
          cases Nat.ble (P.cellsOf t) cs.length with
          | true => exact m_outT h
          | false => exact .rfl'
        | false => cases cs <;> first | exact .rfl' | exact m_outT h
  | store t x y =>
    refine m_evT fun v => ?_
    cases v <;> first | exact .rfl' | skip
    refine m_evT fun u => m_closeCT fun cs => ?_
    cases Nat.beq (P.cellsOf t) cs.length && Nat.blt 0 cs.length with
    | false => exact .rfl'
    | true => exact m_storesT (m_outT h)
  | nilCheck x =>
    refine m_evT fun v => ?_
    cases v <;> first | exact .rfl' | exact m_outT h
  | binOp op t x y i => exact m_evT fun v => m_evT fun u => m_binT h
  | unOp op t x =>
    refine m_evT fun v => ?_
    cases op <;> cases v <;> first | exact .rfl' | (rename_i c; obtain ⟨t, f, c⟩ := c; cases t <;> first | exact .rfl' | exact m_outT h | (rename_i kx; cases kx <;> first | exact .rfl' | exact m_outT h))
  | fieldAddr s x f =>
    simp only
    cases fieldAt P s f with
    | none => exact .rfl'
    | some fl =>
      simp only
      cases Nat.blt 0 (P.cellsOf fl.type) with
      | false => exact .rfl'
      | true =>
        refine m_evT fun v => ?_
        cases v <;> first | exact .rfl' | exact m_outT h
  | field s x f =>
    simp only
    cases fieldAt P s f with
    | none => exact .rfl'
    | some fl =>
      refine m_evT fun v => ?_
      cases v <;> first | exact .rfl' | skip
      rename_i xs
      simp only
      cases isAgg P fl.type with
      | none => exact .rfl'
      | some b =>
        cases b with
        | true =>
          simp only
          cases Nat.ble (fl.offset + P.cellsOf fl.type) xs.length with
          | true => exact m_outT h
          | false => exact .rfl'
        | false =>
          simp only
          cases xs.drop fl.offset <;> first | exact .rfl' | exact m_outT h
  | index t x i =>
    simp only
    cases P.underlying t with
    | none => exact .rfl'
    | some u =>
      cases u <;> first | exact .rfl' | skip
      refine m_evT fun v => m_evT fun w => ?_
      cases v <;> first | exact .rfl' | skip
      rename_i a
      obtain ⟨ta, fa, a⟩ := a
      cases ta <;> first | exact .rfl' | skip
      cases w <;> first | exact .rfl' | skip
      rename_i b
      obtain ⟨tb, fb, b⟩ := b
      cases tb <;> first | exact .rfl' | skip
      rename_i kb
      cases kb <;> first | exact .rfl' | skip
      exact LeC.of fun st => m_sget fun c => (m_outT h).at _
  | extract x i =>
    refine m_evT fun v => ?_
    cases v <;> first | exact .rfl' | skip
    rename_i xs
    simp only
    cases xs.drop i <;> first | exact .rfl' | exact m_outT h
  | indexAddr t x i =>
    simp only
    cases P.underlying t with
    | none => exact .rfl'
    | some u =>
      cases u <;> first | exact .rfl' | skip
      rename_i el
      refine m_evT fun v => m_evT fun w => ?_
      cases v with
      | c a =>
        obtain ⟨ta, fa, a⟩ := a
        cases ta <;> first | exact .rfl' | skip
        cases fa <;> first | exact .rfl' | skip
        cases w <;> first | exact .rfl' | skip
        rename_i r g fs b
        obtain ⟨tb, fb, b⟩ := b
        cases tb <;> first | exact .rfl' | skip
        rename_i kb
        cases kb <;> first | exact .rfl' | skip
        simp only
        cases g.low && (Nat.beq r.length (P.cellsOf el) && Nat.beq fs.length r.length) with
        | false => exact .rfl'
        | true => exact LeC.of fun st => m_lget fun _ e => (m_outT h).at _
      | ref n p sub =>
        cases sub with
        | some s => exact .rfl'
        | none =>
          cases w <;> first | exact .rfl' | skip
          rename_i b
          obtain ⟨tb, fb, b⟩ := b
          cases tb <;> first | exact .rfl' | skip
          rename_i kb
          cases kb <;> first | exact .rfl' | skip
          refine m_rowC fun row => ?_
          cases row with
          | nil => exact .rfl'
          | cons y ys =>
            obtain ⟨ty, fy, y⟩ := y
            cases ty <;> first | exact .rfl' | skip
            rename_i r
            cases fy <;> first | exact .rfl' | skip
            rename_i g fs
            cases g <;> first | exact .rfl' | skip
            simp only
            cases Nat.beq r.length (P.cellsOf el) && Nat.beq fs.length r.length with
            | false => exact .rfl'
            | true => exact LeC.of fun st => m_lget fun m _ => (m_outT h).at _
      | _ => exact .rfl'
  | makeFunc g first caps =>
    simp only
    cases g <;> first | exact .rfl' | skip
    cases first.isEmpty with
    | false => exact .rfl'
    | true => exact m_evTs fun vs => m_outT h
  | slice t x lo hi mx =>
    cases mx with
    | some m => exact .rfl'
    | none =>
      refine m_evT fun v => m_evT fun l => ?_
      cases v with
      | c a =>
        obtain ⟨ta, fa, a⟩ := a
        cases ta with
        | str =>
          simp only
          cases P.underlying t with
          | none => exact .rfl'
          | some u =>
            cases u <;> first | exact .rfl' | skip
            refine m_hiT fun hv => ?_
            cases l <;> first | exact .rfl' | skip
            rename_i b
            obtain ⟨tb, fb, b⟩ := b
            cases tb <;> first | exact .rfl' | skip
            rename_i kb
            cases kb <;> first | exact .rfl' | skip
            cases hv <;> first | exact .rfl' | skip
            rename_i e
            obtain ⟨te, fe, e⟩ := e
            cases te <;> first | exact .rfl' | skip
            rename_i ke
            cases ke <;> first | exact .rfl' | skip
            exact LeC.of fun st => m_ssub fun r => (m_outT h).at _
        | sl r =>
          cases fa <;> first | exact .rfl' | skip
          rename_i g fs
          simp only
          cases rowT P t with
          | none => exact .rfl'
          | some r' =>
            refine m_hiT fun hv => ?_
            cases l <;> first | exact .rfl' | skip
            rename_i b
            obtain ⟨tb, fb, b⟩ := b
            cases tb <;> first | exact .rfl' | skip
            rename_i kb
            cases kb <;> first | exact .rfl' | skip
            cases hv <;> first | exact .rfl' | skip
            rename_i e
            obtain ⟨te, fe, e⟩ := e
            cases te <;> first | exact .rfl' | skip
            rename_i ke
            cases ke <;> first | exact .rfl' | skip
            cases g.low && (Nat.beq r.length r'.length && Nat.beq fs.length r.length) with
            | false => exact .rfl'
            | true => exact LeC.of fun st => m_lsub fun r => (m_outT h).at _
        | _ => exact .rfl'
      | _ => exact .rfl'
  | convert src dst x =>
    simp only
    cases P.underlying src with
    | none => exact .rfl'
    | some u =>
      cases u <;> first | exact .rfl' | skip
      all_goals
        cases P.underlying dst with
        | none => exact .rfl'
        | some w =>
          cases w <;> first | exact .rfl' | skip
          refine m_evT fun v => ?_
          cases v <;> first | exact .rfl' | skip
          rename_i b
          obtain ⟨tb, fb, b⟩ := b
          cases tb <;> first | exact .rfl' | exact m_outT h
  | call c => exact m_callT h
  | _ => exact .rfl'
set_option maxHeartbeats 4000000 in
theorem m_lendZ {t : ST} {f : Fg} {c : Cl} {k k' : Cl → Option ρ} (h : ∀ v0, LeO (k v0) (k' v0)) : LeO (lendZ t f c k) (lendZ t f c k') := by
  unfold lendZ
  repeat (first | with_reducible exact .rfl' | with_reducible exact h | with_reducible exact h _ | with_reducible exact h _ _ | with_reducible exact (h _).at _ | with_reducible exact h.at _ | with_reducible refine m_opT ?_ | with_reducible refine m_callT ?_ | with_reducible refine m_hiT ?_ | with_reducible refine m_appendT ?_ | with_reducible refine m_binT ?_ | with_reducible refine m_fillET ?_ | with_reducible refine m_freshT ?_ | with_reducible refine m_storesT ?_ | with_reducible refine m_closePartsT ?_ | with_reducible refine m_closeCT ?_ | with_reducible refine m_closesT ?_ | with_reducible refine m_closeT ?_ | with_reducible refine m_outT ?_ | with_reducible refine m_evPartsT ?_ | with_reducible refine m_evTs ?_ | with_reducible refine m_evT ?_ | with_reducible refine m_rowC ?_ | with_reducible refine m_putAt ?_ | with_reducible refine m_getAt ?_ | with_reducible refine m_mkRow ?_ | with_reducible refine m_toRow ?_ | with_reducible refine m_conv ?_ | with_reducible refine m_lsub ?_ | with_reducible refine m_lrep ?_ | with_reducible refine m_lapp ?_ | with_reducible refine m_lgetN ?_ | with_reducible refine m_lget ?_ | with_reducible refine m_ssub ?_ | with_reducible refine m_sget ?_ | with_reducible refine m_scat ?_ | with_reducible refine m_catS ?_ | with_reducible refine m_rep_ ?_ | with_reducible refine m_app_ ?_ | with_reducible refine m_sub_ ?_ | with_reducible refine m_atS ?_ | with_reducible refine m_atN ?_ | with_reducible refine m_at_ ?_ | with_reducible refine m_castL ?_ | with_reducible refine m_castV ?_ | with_reducible refine m_iteC ?_ ?_ | with_reducible refine m_knowT ?_ | with_reducible refine m_killBox ?_ | with_reducible refine m_kill ?_ | with_reducible refine m_wrB ?_ | with_reducible refine m_wrS ?_ | with_reducible refine m_rdB ?_ | with_reducible refine m_rdS ?_ | with_reducible refine LeC.of fun _ => ?_ | with_reducible intro _ | split | with_reducible refine LeC.at ?_ _)
theorem m_lendC {t : ST} {f : Fg} {c : Cl} {k k' : Cl → Option ρ} (h : ∀ v0, LeO (k v0) (k' v0)) : LeO (lendC t f c k) (lendC t f c k') := by
  unfold lendC
  repeat (first | with_reducible exact .rfl' | with_reducible exact h | with_reducible exact h _ | with_reducible exact h _ _ | with_reducible exact (h _).at _ | with_reducible exact h.at _ | with_reducible refine m_lendZ ?_ | with_reducible refine m_opT ?_ | with_reducible refine m_callT ?_ | with_reducible refine m_hiT ?_ | with_reducible refine m_appendT ?_ | with_reducible refine m_binT ?_ | with_reducible refine m_fillET ?_ | with_reducible refine m_freshT ?_ | with_reducible refine m_storesT ?_ | with_reducible refine m_closePartsT ?_ | with_reducible refine m_closeCT ?_ | with_reducible refine m_closesT ?_ | with_reducible refine m_closeT ?_ | with_reducible refine m_outT ?_ | with_reducible refine m_evPartsT ?_ | with_reducible refine m_evTs ?_ | with_reducible refine m_evT ?_ | with_reducible refine m_rowC ?_ | with_reducible refine m_putAt ?_ | with_reducible refine m_getAt ?_ | with_reducible refine m_mkRow ?_ | with_reducible refine m_toRow ?_ | with_reducible refine m_conv ?_ | with_reducible refine m_lsub ?_ | with_reducible refine m_lrep ?_ | with_reducible refine m_lapp ?_ | with_reducible refine m_lgetN ?_ | with_reducible refine m_lget ?_ | with_reducible refine m_ssub ?_ | with_reducible refine m_sget ?_ | with_reducible refine m_scat ?_ | with_reducible refine m_catS ?_ | with_reducible refine m_rep_ ?_ | with_reducible refine m_app_ ?_ | with_reducible refine m_sub_ ?_ | with_reducible refine m_atS ?_ | with_reducible refine m_atN ?_ | with_reducible refine m_at_ ?_ | with_reducible refine m_castL ?_ | with_reducible refine m_castV ?_ | with_reducible refine m_iteC ?_ ?_ | with_reducible refine m_knowT ?_ | with_reducible refine m_killBox ?_ | with_reducible refine m_kill ?_ | with_reducible refine m_wrB ?_ | with_reducible refine m_wrS ?_ | with_reducible refine m_rdB ?_ | with_reducible refine m_rdS ?_ | with_reducible refine LeC.of fun _ => ?_ | with_reducible intro _ | split | with_reducible refine LeC.at ?_ _)
end
end Go.Proofs.Ytdlambaphhklpaa.TM
namespace Go.Proofs.Ytdlambaphhklpaa.TM
open Go
def LeR (r r' : Rec) : Prop := ∀ l x z, r l x = some z → r' l x = some z
section
variable (F : Rec → Rec)
def Evals (l : Lb) (x : R l.inS) (z : R l.outS) : Prop :=
  ∀ Q : (l : Lb) → R l.inS → R l.outS → Prop, (∀ r : Rec, (∀ l x z, r l x = some z → Q l x z) → ∀ l x z, F r l x = some z → Q l x z) → Q l x z
theorem Evals.step {r : Rec} (h : ∀ l x z, r l x = some z → Evals F l x z) {l : Lb} {x : R l.inS} {z : R l.outS} (e : F r l x = some z) : Evals F l x z :=
  fun Q hQ => hQ r (fun l x z e => h l x z e Q hQ) l x z e
variable {F}
theorem Evals.one (hm : ∀ r r', LeR r r' → LeR (F r) (F r')) {l : Lb} {x : R l.inS} {z : R l.outS} (h : Evals F l x z) : ∀ z', Evals F l x z' → z' = z := by
  refine (h (fun l x z => Evals F l x z ∧ ∀ z', Evals F l x z' → z' = z) fun r hr l x z e => ⟨Evals.step F (fun l x z e => (hr l x z e).1) e, fun z' h' => ?_⟩).2
  refine (h' (fun l' x' z' => Evals F l' x' z' ∧ ∀ z, F r l' x' = some z → z' = z) fun r' hr' l' x' z' e' => ⟨Evals.step F (fun l x z e => (hr' l x z e).1) e', fun z e => ?_⟩).2 z e
  have e1 := hm r (fun l x => (r l x).or (r' l x)) (fun l x z h => by simp [h]) l' x' z e
  have e2 := hm r' (fun l x => (r l x).or (r' l x)) (fun l x z h => by
    cases h1 : r l x with
    | none => show (r l x).or (r' l x) = some z; rw [h1, h]; rfl
    | some y => show (r l x).or (r' l x) = some z; rw [h1, (hr l x y h1).2 z (hr' l x z h).1]; rfl) l' x' z' e'
  rw [e1] at e2
  exact (Option.some.inj e2).symm
open Classical in
noncomputable def lim (F : Rec → Rec) : Rec := fun l x => if h : ∃ z, Evals F l x z then some h.choose else none
theorem lim_iff (hm : ∀ r r', LeR r r' → LeR (F r) (F r')) {l : Lb} {x : R l.inS} {z : R l.outS} : lim F l x = some z ↔ Evals F l x z := by
  unfold lim
  constructor
  · intro h
    split at h
    · rename_i hz
      rw [← Option.some.inj h]
      exact hz.choose_spec
    · cases h
  · intro h
    rw [dif_pos ⟨z, h⟩]
    exact congrArg some (h.one hm _ (Exists.choose_spec ⟨z, h⟩))
theorem lim_eq (hm : ∀ r r', LeR r r' → LeR (F r) (F r')) (l : Lb) (x : R l.inS) : lim F l x = F (lim F) l x := by
  have key : ∀ z, lim F l x = some z ↔ F (lim F) l x = some z := by
    intro z
    constructor
    · intro h
      refine ((lim_iff hm).1 h (fun l x z => Evals F l x z ∧ F (lim F) l x = some z) fun r hr l x z e => ⟨Evals.step F (fun l x z e => (hr l x z e).1) e, ?_⟩).2
      exact hm r (lim F) (fun l x z e => (lim_iff hm).2 (hr l x z e).1) l x z e
    · intro h
      exact (lim_iff hm).2 (Evals.step F (fun l x z e => (lim_iff hm).1 e) h)
  cases h : lim F l x with
  | some z => exact ((key z).1 h).symm
  | none =>
    cases h' : F (lim F) l x with
    | none => rfl
    | some z => rw [(key z).2 h'] at h; cases h
theorem lim_ind (hm : ∀ r r', LeR r r' → LeR (F r) (F r')) (Q : (l : Lb) → R l.inS → R l.outS → Prop)
    (hQ : ∀ r : Rec, (∀ l x z, r l x = some z → Q l x z) → ∀ l x z, F r l x = some z → Q l x z) {l : Lb} {x : R l.inS} {z : R l.outS} (h : lim F l x = some z) : Q l x z :=
  (lim_iff hm).1 h Q hQ
end
end Go.Proofs.Ytdlambaphhklpaa.TM
namespace Go.Proofs.Ytdlambaphhklpaa.TM
open Go
section
variable {ρ : Type}
theorem m_lendZs : ∀ {r : List (ST × Fg)} {cs : List Cl} {k k' : List Cl → Option ρ} (_ : ∀ v, LeO (k v) (k' v)), LeO (lendZs r cs k) (lendZs r cs k')
  | [], _, _, _, h => h _
  | (t, f) :: r, [], _, _, h => by simp only [lendZs]; exact .rfl'
  | (t, f) :: r, c :: cs, _, _, h => by
    simp only [lendZs]
    exact m_lendZ fun x => m_lendZs fun xs => h _
theorem m_canonOne {N t : Nat} {x : VP} {k k' : Co ρ} (h : LeC k k') : LeC (canonOne N t x k) (canonOne N t x k') := by
  unfold canonOne
  cases firstRef (cellsVP x) with
  | none => exact h
  | some m =>
    refine m_rdS fun v => ?_
    cases takeV x v with
    | some _ => exact h
    | none =>
      simp only
      cases keepT (cellsVP x) (cellsTV v) && (isAggP x == isAggT v) && Nat.beq m.2 0 with
      | false => exact .rfl'
      | true =>
        refine m_closesT fun cs => ?_
        cases allOwn cs with
        | false => exact .rfl'
        | true => exact m_killBox (m_wrB (m_wrS h))
theorem m_canonS {N : Nat} : ∀ {l : List (Nat × VP)} {k k' : Co ρ} (_ : LeC k k'), LeC (canonS N l k) (canonS N l k')
  | [], _, _, h => h
  | (t, x) :: xs, _, _, h => by
    simp only [canonS]
    exact m_canonOne (m_canonS h)
theorem m_lendC' {t : ST} {f : Fg} {x : Cl} {k k' : Cl → Co ρ} (h : ∀ v, LeC (k v) (k' v)) : LeC (fun st => lendC t f x fun y => k y st) (fun st => lendC t f x fun y => k' y st) :=
  LeC.of fun st => m_lendC fun y => (h y).at st
mutual
theorem m_lendT : ∀ {v : TV} {t : ST} {f : Fg} {k k' : Cl → Co ρ} (_ : ∀ v, LeC (k v) (k' v)), LeC (lendT v t f k) (lendT v t f k')
  | .c x, t, f, _, _, h => by simp only [lendT]; exact m_lendC' h
  | .ref n p sub, t, f, _, _, h => by
    cases sub with
    | some s => unfold lendT; exact .rfl'
    | none =>
      cases t <;> first | (unfold lendT; exact .rfl') | skip
      cases f <;> first | (unfold lendT; exact .rfl') | skip
      rename_i g fs
      cases g <;> first | (unfold lendT; exact .rfl') | skip
      unfold lendT
      refine m_rowC fun row => ?_
      cases row with
      | nil => exact .rfl'
      | cons y ys =>
        obtain ⟨ty, fy, y⟩ := y
        cases ty <;> first | exact .rfl' | skip
        simp only
        cases ownF fy with
        | false => exact .rfl'
        | true => exact LeC.of fun st => m_lendZ fun y => (h y).at st
  | .addr n p, t, f, _, _, h => by
    cases t <;> first | (unfold lendT; exact .rfl') | skip
    cases f <;> first | (unfold lendT; exact .rfl') | skip
    rename_i g fs
    cases g <;> first | (unfold lendT; exact .rfl') | skip
    unfold lendT
    exact m_rowC fun row => LeC.of fun st => m_lendZs fun cs => m_mkRow fun x => (h _).at st
  | .raddr cs, t, f, _, _, h => by
    cases t <;> first | (unfold lendT; exact .rfl') | skip
    rename_i r
    cases f <;> first | (unfold lendT; exact .rfl') | skip
    rename_i g fs
    cases g <;> first | (unfold lendT; exact .rfl') | skip
    unfold lendT
    cases Nat.beq r.length cs.length with
    | false => exact .rfl'
    | true => exact LeC.of fun st => m_lendZs fun cs => m_mkRow fun x => (h _).at st
  | .fn g xs, t, f, _, _, h => by
    cases t <;> first | (unfold lendT; exact .rfl') | skip
    rename_i hh r
    cases f <;> first | (unfold lendT; exact .rfl') | skip
    unfold lendT
    cases Nat.beq g hh with
    | false => exact .rfl'
    | true => exact m_lendTs fun cs => LeC.of fun st => m_mkRow fun x => (h _).at st
  | .agg _, t, f, _, _, h => by unfold lendT; exact .rfl'
  | .tup _, t, f, _, _, h => by unfold lendT; exact .rfl'
  | .dead, t, f, _, _, h => by unfold lendT; exact .rfl'
theorem m_lendTs : ∀ {vs : List TV} {r : List (ST × Fg)} {k k' : List Cl → Co ρ} (_ : ∀ v, LeC (k v) (k' v)), LeC (lendTs vs r k) (lendTs vs r k')
  | [], [], _, _, h => by unfold lendTs; exact h _
  | [], _ :: _, _, _, h => by unfold lendTs; exact .rfl'
  | _ :: _, [], _, _, h => by unfold lendTs; exact .rfl'
  | v :: vs, (t, f) :: r, _, _, h => by
    unfold lendTs
    exact m_lendT fun c => m_lendTs fun cs => h _
end
theorem m_argsT : ∀ {vs : List TV} {as : List AP} {k k' : List Cl → List (Option Nm) → Co ρ} (_ : ∀ v w, LeC (k v w) (k' v w)), LeC (argsT vs as k) (argsT vs as k')
  | [], [], _, _, h => by simp only [argsT]; exact h _ _
  | [], _ :: _, _, _, h => by simp only [argsT]; exact .rfl'
  | v :: vs, [], _, _, h => by cases v <;> (unfold argsT; exact .rfl')
  | v :: vs, a :: as, _, _, h => by
    cases a with
    | one t f => unfold argsT; exact m_lendT fun c => m_argsT fun cs mv => h _ _
    | agg r =>
      cases v <;> first | (unfold argsT; exact .rfl') | skip
      unfold argsT
      exact m_lendTs fun c => m_argsT fun cs mv => h _ _
    | ptr r =>
      cases v <;> first | (unfold argsT; exact .rfl') | skip
      rename_i n p
      obtain ⟨c, q⟩ := p
      cases c with
      | succ c => unfold argsT; exact .rfl'
      | zero =>
        cases q with
        | cons a b => unfold argsT; exact .rfl'
        | nil =>
          unfold argsT
          refine m_rdB fun bx => ?_
          cases bx.real && Nat.beq bx.cells.length r.length with
          | false => exact .rfl'
          | true => exact m_argsT fun cs mv => h _ _
    | _ => cases v <;> (unfold argsT; exact .rfl')
theorem m_call_ {r r' : Rec} (hr : LeR r r') {l : Lb} {x : R l.inS} {k k' : R l.outS → Option ρ} (h : ∀ v, LeO (k v) (k' v)) : LeO (call_ r l x k) (call_ r' l x k') := by
  intro z hz
  unfold call_ at hz ⊢
  cases hx : r l x with
  | none => rw [hx] at hz; cases hz
  | some y =>
    rw [hx] at hz
    rw [hr _ _ _ hx]
    exact h y z hz
theorem m_tail_ {r r' : Rec} (hr : LeR r r') {l : Lb} {x : R l.inS} {o : List ST} : LeO (tail_ r l x o) (tail_ r' l x o) := by
  intro z hz
  unfold tail_ at hz ⊢
  by_cases ho : ST.beqs l.outS o = true
  · rw [dif_pos ho] at hz ⊢
    have key : ∀ (o : List ST) (e : l.outS = o) (z : R o), (e ▸ r l x : Res (R o)) = some z → (e ▸ r' l x : Res (R o)) = some z := by
      intro o e z
      cases e
      exact hr _ _ _
    exact key _ _ _ hz
  · rw [dif_neg ho] at hz
    cases hz
end
section
variable {E : En} {r r' : Rec} (hr : LeR r r')
include hr
theorem m_callC {ρ : Type} {dr : Bool} {o : Oper} {k k' : Co ρ} (h : LeC k k') : LeC (callC E r dr o k) (callC E r' dr o k') := by
  unfold callC
  cases o.op with
  | call c =>
    cases o.dst with
    | none => exact .rfl'
    | some d =>
      simp only
      cases c.callee with
      | value fo =>
        refine m_evT fun fv => m_evTs fun vs => ?_
        cases fv with
        | fn g caps =>
          refine LeC.of fun st => ?_
          simp only
          cases pickA g st.b (vs ++ caps) (E.tb g) with
          | none => exact .rfl'
          | some l =>
            refine LeC.at (m_argsT fun cs mv => LeC.of fun st => ?_) _
            cases (Nat.blt d E.N && (nodupM mv && (freeA mv (vs ++ caps) l.args && (Nat.beq l.outs.length mv.length && allRes l.res && (!dr || noMv mv) && (noFzR l || !lendsA? (vs ++ caps) l.args))))) with
            | false => exact .rfl'
            | true => exact m_toRow fun x => m_call_ hr fun y => h.at _
        | _ => exact .rfl'
      | _ => exact .rfl'
  | _ => exact .rfl'
theorem m_jump {q : List Nat} : LeC (jump E r q) (jump E r' q) := by
  refine LeC.of fun st => ?_
  unfold jump
  cases pickQ E.f E.me.i q st (E.tb E.f) with
  | none => exact .rfl'
  | some l =>
    refine LeC.at (m_canonS (LeC.of fun st' => ?_)) st
    cases takeC l st' with
    | none => exact .rfl'
    | some cs =>
      cases apsBeq l.res E.me.res with
      | false => exact .rfl'
      | true =>
        cases ctssBeq l.outs E.me.outs with
        | false => exact .rfl'
        | true =>
          simp only
          cases fitK l.inT cs with
          | false => exact .rfl'
          | true => exact m_toRow fun x => m_tail_ hr
theorem m_one {ρ : Type} {dr : Bool} {o : Oper} {k k' : Co ρ} (h : LeC k k') : LeC (match isCall o with
    | true => callC E r dr o k
    | false => opT E.N E.P o k) (match isCall o with
    | true => callC E r' dr o k'
    | false => opT E.N E.P o k') := by
  cases isCall o with
  | true => exact m_callC hr h
  | false => exact m_opT h
theorem m_opsT {ρ : Type} {dr : Bool} {all : Array Oper} : ∀ {ops : List Oper} {k k' : Co ρ} (_ : LeC k k'), LeC (opsT E r dr all ops k) (opsT E r' dr all ops k')
  | [], _, _, h => h
  | o :: rest, k, k', h => by
    have ih := m_opsT (dr := dr) (all := all) (ops := rest) h
    simp only [opsT]
    cases guardOf all o with
    | none => exact m_one hr ih
    | some g =>
      obtain ⟨d, w⟩ := g
      cases d with
      | none => exact .rfl'
      | some d =>
        refine m_rdS fun v => ?_
        cases v <;> first | exact .rfl' | skip
        rename_i b
        obtain ⟨tb, fb, b⟩ := b
        cases tb <;> first | exact .rfl' | skip
        exact m_iteC (m_knowT (m_one hr ih)) (m_knowT (m_outT ih))
theorem m_drawT {ρ : Type} {all : Array Oper} : ∀ {ops : List Oper} {acc : List (List Ft)} {k k' : Co ρ} (_ : LeC k k'), LeC (drawT E r all ops acc k) (drawT E r' all ops acc k')
  | [], acc, k, k', h => by
    simp only [drawT]
    refine LeC.of fun st => ?_
    cases ncAll all acc.reverse 0 acc.reverse && afterOk 0 all.toList with
    | true => exact h.at _
    | false => exact .rfl'
  | o :: rest, acc, k, k', h => by
    simp only [drawT]
    exact LeC.of fun st => LeC.at (m_opsT hr (LeC.of fun st' => LeC.at (m_drawT h) st')) _
theorem m_runT : ∀ n (first down : Bool) (q : List Nat), LeC (runT E r n first down q) (runT E r' n first down q)
  | 0, _, _, _ => .rfl'
  | n + 1, first, true, q => by
    simp only [runT]
    cases codeAt E.body q.reverse with
    | none => exact .rfl'
    | some node =>
      cases node with
      | skip => exact m_runT n _ _ _
      | seq _ _ => exact m_runT n _ _ _
      | block _ _ => exact m_runT n _ _ _
      | loop _ => exact m_runT n _ _ _
      | cond t _ _ =>
        cases t <;> first | exact .rfl' | skip
        refine m_rdS fun v => ?_
        cases v <;> first | exact .rfl' | skip
        rename_i b
        obtain ⟨tb, fb, b⟩ := b
        cases tb <;> first | exact .rfl' | skip
        exact m_iteC (m_knowT (m_runT n _ _ _)) (m_knowT (m_runT n _ _ _))
      | exit id =>
        simp only
        cases upTo E.body id q with
        | none => exact .rfl'
        | some p => exact m_runT n _ _ _
      | region id ops d =>
        cases d with
        | false =>
          simp only
          cases !first && isCut E.me.i q (E.tb E.f) with
          | true => exact m_jump hr
          | false => exact m_opsT hr (m_runT n _ _ _)
        | true =>
          simp only
          cases !first && isCut E.me.i q (E.tb E.f) with
          | true => exact m_jump hr
          | false => exact m_drawT hr (m_runT n _ _ _)
      | _ => exact .rfl'
  | n + 1, first, false, q => by
    match q with
    | [] => exact .rfl'
    | 0 :: p =>
      simp only [runT]
      cases codeAt E.body p.reverse with
      | none => exact .rfl'
      | some node => cases node <;> first | exact m_runT n _ _ _ | exact .rfl'
    | 1 :: p =>
      simp only [runT]
      cases codeAt E.body p.reverse with
      | none => exact .rfl'
      | some node => cases node <;> first | exact m_runT n _ _ _ | exact .rfl'
    | (_ + 2) :: p => exact .rfl'
end
theorem stepF_mono (P : Program) (tb : Nat → List Lb) (r r' : Rec) (hr : LeR r r') : LeR (stepF P tb r) (stepF P tb r') := by
  intro l x
  show LeO _ _
  unfold stepF
  cases P.funcs[l.f]? with
  | none => exact .rfl'
  | some fn =>
    simp only
    cases fn.body with
    | none => exact .rfl'
    | some c =>
      simp only
      cases entryOk l fn.ntmps with
      | false => exact .rfl'
      | true => exact LeC.at (m_runT hr _ _ _ _) _
noncomputable def evL (P : Program) (tb : Nat → List Lb) : Rec := lim (stepF P tb)
theorem evL_eq (P : Program) (tb : Nat → List Lb) (l : Lb) (x : R l.inS) : evL P tb l x = stepF P tb (evL P tb) l x := lim_eq (stepF_mono P tb) l x
end Go.Proofs.Ytdlambaphhklpaa.TM
namespace Go.Proofs.Ytdlambaphhklpaa.TM
open Go
mutual
theorem inT_rel {Q : Nm → Pth → Nat → Prop} : ∀ (t : ST) (f : Fg) (x : V t), RelV Q (inT t f x) (inLV (encT t f x))
  | .int k, f, x => by simp only [inT, encT, inLV, RelV, Cl.enc]
  | .bool, f, x => by simp only [inT, encT, inLV, RelV, Cl.enc]
  | .str, f, x => by simp only [inT, encT, inLV, RelV, Cl.enc]
  | .hole, f, x => by simp only [inT, RelV]
  | .sl r, f, x => by
    simp only [inT, RelV, Cl.enc]
    cases f <;> simp only [encT, inLV]
  | .pt r, f, x => by
    cases f with
    | pt g fs =>
      cases g with
      | own => simp only [inT, RelV]
      | _ => simp only [inT, encT, inLV, RelV]; exact congrArg LV.raddr (encs_cellsOf r fs x).symm
    | _ => simp only [inT, RelV]
  | .fn g r, f, x => by
    cases f with
    | fn fs =>
      simp only [inT, encT, inLV, RelV]
      exact ⟨_, rfl, inTs_rel r fs x⟩
    | _ => simp only [inT, RelV]
theorem inTs_rel {Q : Nm → Pth → Nat → Prop} : ∀ (r : List ST) (fs : List Fg) (x : R r), RelVs Q (inTs r fs x) (inLVs (encR r fs x))
  | [], _, _ => by simp only [inTs, encR, inLVs, RelVs]
  | t :: r, f :: fs, x => by
    simp only [inTs, encR, inLVs, RelVs]
    exact ⟨inT_rel t f _, inTs_rel r fs _⟩
  | _ :: _, [], _ => by simp only [inTs, encR, inLVs, RelVs]
end
theorem inC_rel {Q : Nm → Pth → Nat → Prop} (c : Cl) : RelV Q (inC c) (inLV c.enc) := inT_rel _ _ _
theorem inCs_rel {Q : Nm → Pth → Nat → Prop} : ∀ cs : List Cl, RelVs Q (cs.map inC) (inLVs (encs cs))
  | [] => by simp only [List.map_nil, encs, inLVs, RelVs]
  | c :: cs => by
    simp only [List.map_cons, encs, inLVs, RelVs]
    exact ⟨inC_rel c, inCs_rel cs⟩
theorem lv_rel {b : Nm → Box} {i : Nat} {cs : List Cl} (a : AP) (hb : (b (i, 1)).cells = (a.arg (encs cs)).cells) : RelV (Qs b) (a.lv i cs) ((a.arg (encs cs)).lv i) := by
  cases a with
  | one t f =>
    cases cs with
    | nil => simp only [AP.lv, RelV]
    | cons c cs => exact inC_rel c
  | agg r => simp only [AP.lv, AP.arg, Arg.lv, RelV]; exact ⟨_, rfl, inCs_rel cs⟩
  | ptr r => simp only [AP.lv, AP.arg, Arg.lv, RelV]; rfl
  | own t f =>
    cases cs with
    | nil => simp only [AP.lv, RelV]
    | cons c cs =>
      refine seenT_rel (row := []) ?_
      rw [hb]
      rfl
  | owns r =>
    simp only [AP.lv, AP.arg, Arg.lv, RelV]
    exact ⟨_, rfl, seensT_rel (p := ⟨0, []⟩) _ 0 (row := []) (by rw [List.append_nil]; show rowAt (b (i, 1)).cells _ = _; rw [hb]; rfl)⟩
theorem entryS_rel {b : Nm → Box} : ∀ (as : List AP) (cs : List Cl) (i t : Nat), (∀ j c, (argsL as (encs cs))[j]? = some c → (b (i + j, 1)).cells = c.cells) →
    RelV (Qs b) (lookS (entryS i as cs) t) (match (if i ≤ t then (argsL as (encs cs))[t - i]? else none) with
      | some c => c.lv t
      | none => .dead)
  | [], cs, i, t, _ => by simp only [entryS, lookS, RelV]
  | a :: as, cs, i, t, hb => by
    simp only [entryS, lookS]
    by_cases e : i = t
    · subst e
      have h0 := hb 0 _ (by simp only [argsL]; rfl)
      simp only [Nat.beq_refl, argsL, Nat.le_refl, if_true, Nat.sub_self, List.getElem?_cons_zero]
      rw [encs_take] at h0 ⊢
      exact lv_rel a h0
    · have he : Nat.beq i t = false := by
        cases hh : Nat.beq i t with
        | false => rfl
        | true => exact absurd (Nat.eq_of_beq_eq_true hh) e
      rw [he]
      have ih := entryS_rel as (cs.drop a.len) (i + 1) t fun j c hj => by
        have := hb (j + 1) c (by simp only [argsL, List.getElem?_cons_succ]; rw [encs_drop]; exact hj)
        rw [show i + 1 + j = i + (j + 1) by omega]
        exact this
      simp only [argsL, encs_drop]
      by_cases hl : i + 1 ≤ t
      · rw [if_pos hl] at ih
        rw [if_pos (by omega), show t - i = (t - (i + 1)) + 1 by omega, List.getElem?_cons_succ]
        exact ih
      · rw [if_neg hl] at ih
        rw [if_neg (by omega)]
        exact ih
theorem entryB_rel : ∀ (as : List AP) (cs : List Cl) (i : Nat) (n : Nm) (x : VB), (as.flatMap AP.cts).length = cs.length → lookB (entryB i as cs) n = some x → n.2 = 1 ∧ i ≤ n.1 ∧ ∃ c, (argsL as (encs cs))[n.1 - i]? = some c ∧ c.real = x.real ∧ c.cells = encs x.cells
  | [], cs, i, n, x, _, h => by cases h
  | a :: as, cs, i, n, x, hl, h => by
    have hla : a.cts.length = a.len := by cases a <;> rfl
    simp only [List.flatMap_cons, List.length_append, hla] at hl
    simp only [entryB, lookB] at h
    split at h
    · rename_i hn
      cases h
      unfold nmEq at hn
      simp only [Bool.and_eq_true] at hn
      have h1 := Nat.eq_of_beq_eq_true hn.1
      have h2 := Nat.eq_of_beq_eq_true hn.2
      refine ⟨h2.symm, Nat.le_of_eq h1, a.arg (encs (cs.take a.len)), by rw [← (show i = n.1 from h1)]; simp [argsL, encs_take], ?_⟩
      cases a with
      | own t f =>
        cases cs with
        | nil => simp [AP.len] at hl
        | cons c cs => exact ⟨rfl, rfl⟩
      | _ => exact ⟨rfl, rfl⟩
    · obtain ⟨h1, h2, c, h3, h4⟩ := entryB_rel as (cs.drop a.len) (i + 1) n x (by rw [List.length_drop]; omega) h
      refine ⟨h1, by omega, c, ?_, h4⟩
      rw [show n.1 - i = (n.1 - (i + 1)) + 1 by omega]
      simp only [argsL, List.getElem?_cons_succ, encs_drop]
      exact h3
theorem entry_rel {l : Lb} (x : R l.inS) (hq : l.q = none) : Rel (l.start x) (entry (argsL l.args (encs (ofRow l.inT x)))) := by
  unfold Lb.start
  rw [hq]
  have hlen : (l.args.flatMap AP.cts).length = (ofRow l.inT x).length := by
    have := congrArg List.length (ofRow_cts l.inT x)
    rw [List.length_map] at this
    rw [this]
    unfold Lb.inT
    rw [hq]
  constructor
  · intro t
    have := entryS_rel (b := (entry (argsL l.args (encs (ofRow l.inT x)))).b) l.args (ofRow l.inT x) 0 t fun j c hj => by
      simp only [entry, Nat.zero_add, if_true, hj]
    simp only [Nat.zero_le, if_true, Nat.sub_zero] at this
    exact this
  · intro n y h
    obtain ⟨h1, h2, c, h3, h4, h5⟩ := entryB_rel _ _ _ _ _ hlen h
    simp only [Nat.sub_zero] at h3
    simp only [entry, h1, if_true, h3]
    exact ⟨h4, h5⟩
def goodP (P : Program) : Bool := P.follows .mixedOrders && P.funcs.all fun fn => !(fn.name == "runtime.NumGoroutine")
theorem stepF_right {P : Program} {tb : Nat → List Lb} (hP : goodP P = true) {r : Rec} (hr : Right P r) : Right P (stepF P tb r) := by
  intro l x z h
  simp only [goodP, Bool.and_eq_true, Array.all_eq_true] at hP
  obtain ⟨hm, hn⟩ := hP
  unfold stepF at h
  cases hf : P.funcs[l.f]? with
  | none => rw [hf] at h; cases h
  | some fn =>
    rw [hf] at h
    simp only at h
    cases hb : fn.body with
    | none => rw [hb] at h; cases h
    | some c =>
      rw [hb] at h
      simp only at h
      cases ho : entryOk l fn.ntmps with
      | false => rw [ho] at h; cases h
      | true =>
        rw [ho] at h
        simp only at h
        unfold J
        cases hq : l.q with
        | none =>
          rw [hq] at h
          unfold entryOk at ho
          rw [hq] at ho
          have hle : ∀ (as : List AP) (ts : List T), (argsL as ts).length = as.length := by
            intro as
            induction as with
            | nil => intro ts; rfl
            | cons a as ih => intro ts; simp [argsL, ih]
          obtain ⟨hi, he⟩ := Array.getElem?_eq_some_iff.1 hf
          have hname := hn l.f hi
          rw [he] at hname
          refine fun_intro hf hb (by simpa using hname) (by rw [hle]; exact Nat.le_of_ble_eq_true ho) fun C hCP hCN => ?_
          have := (runT_good (C := C) (E := ⟨P, fn.ntmps, l.f, c, fn.results.toList, tb, l⟩) (fn := fn) hr hCP hCN hm hf hb rfl rfl 4000).1 true [] _ _ c h (entry_rel x hq) (by simp [codeAt])
          exact this
        | some q =>
          rw [hq] at h
          intro C fn' c' node st hf' hb' hnode hCP hCN R
          rw [hf] at hf'
          cases hf'
          rw [hb] at hb'
          cases hb'
          exact (runT_good (C := C) (E := ⟨P, fn.ntmps, l.f, c, fn.results.toList, tb, l⟩) (fn := fn) hr hCP hCN hm hf hb rfl rfl 4000).1 true q _ _ node h R hnode
theorem evL_right {P : Program} (tb : Nat → List Lb) (hP : goodP P = true) : Right P (evL P tb) := fun _ _ _ h =>
  lim_ind (stepF_mono P tb) (J P) (fun _ hr => stepF_right hP hr) h
end Go.Proofs.Ytdlambaphhklpaa.TM
namespace Go.Proofs.Ytdlambaphhklpaa.TM
open Go Go.RowKit Go.ChangeShapes Go.WideShapes
mutual
def Ty.sts : Ty → List ST
  | .int => [.int .i64]
  | .u8 => [.int .u8]
  | .bool => [.bool]
  | .str => [.str]
  | .sl e => [.sl e.sts]
  | .st fs => Ty.stss fs
def Ty.stss : List Ty → List ST
  | [] => []
  | f :: fs => f.sts ++ Ty.stss fs
end
mutual
def Ty.fgs : Ty → List Fg
  | .sl e => [.sl .fz e.fgs]
  | .st fs => Ty.fgss fs
  | _ => [.z]
def Ty.fgss : List Ty → List Fg
  | [] => []
  | f :: fs => f.fgs ++ Ty.fgss fs
end
mutual
def okV : (t : ST) → V t → Prop
  | .int .i64, n => -9223372036854775808 ≤ (show Int from n) ∧ (show Int from n) ≤ 9223372036854775807
  | .int .u8, n => 0 ≤ (show Int from n) ∧ (show Int from n) ≤ 255
  | .str, l => List.length (α := UInt8) l ≤ maxLen
  | .sl r, l => List.length (α := R r) l ≤ maxLen ∧ ∀ e ∈ lis r l, okR r e
  | _, _ => True
def okR : (r : List ST) → R r → Prop
  | [], _ => True
  | [t], x => okV t x
  | t :: u :: r, x => okV t x.1 ∧ okR (u :: r) x.2
end
theorem okR_one {t : ST} {x : V t} (h : okV t x) : okR [t] x := by simp only [okR]; exact h
theorem okR_nil {x : R []} : okR [] x := by simp only [okR]
theorem okR_cons {t : ST} : ∀ {r : List ST} {x : V t} {y : R r}, okV t x → okR r y → okR (t :: r) (consR t r x y)
  | [], _, _, h, _ => by rw [okR]; exact h
  | _ :: _, _, _, h, k => by rw [okR]; exact ⟨h, k⟩
def appR : (a b : List ST) → R a → R b → R (a ++ b)
  | [], _, _, y => y
  | t :: a, b, x, y => consR t (a ++ b) (headR t a x) (appR a b (tailR t a x) y)
theorem okR_head {t : ST} : ∀ {r : List ST} {x : R (t :: r)}, okR (t :: r) x → okV t (headR t r x) ∧ okR r (tailR t r x)
  | [], x, h => by rw [okR] at h; exact ⟨h, by rw [okR]; trivial⟩
  | _ :: _, x, h => by rw [okR] at h; exact h
theorem okR_app : ∀ (a b : List ST) {x : R a} {y : R b}, okR a x → okR b y → okR (a ++ b) (appR a b x y)
  | [], _, _, _, _, k => k
  | _ :: a, b, _, _, h, k => okR_cons (okR_head h).1 (okR_app a b (okR_head h).2 k)
theorem encR_app : ∀ (a b : List ST) (fa fb : List Fg) (x : R a) (y : R b), fa.length = a.length → encR (a ++ b) (fa ++ fb) (appR a b x y) = encR a fa x ++ encR b fb y
  | [], _, [], _, _, _, _ => rfl
  | t :: a, b, f :: fa, fb, x, y, h => by
    simp only [List.cons_append, encR, appR, head_cons, tail_cons]
    rw [encR_app a b fa fb _ y (by simpa using h)]
  | [], _, _ :: _, _, _, _, h => by simp at h
  | _ :: _, _, [], _, _, _, h => by simp at h
mutual
theorem Ty.len_fgs : ∀ y : Ty, y.fgs.length = y.sts.length
  | .int => rfl
  | .u8 => rfl
  | .bool => rfl
  | .str => rfl
  | .sl _ => rfl
  | .st fs => by simp only [Ty.fgs, Ty.sts]; exact Ty.len_fgss fs
theorem Ty.len_fgss : ∀ ys : List Ty, (Ty.fgss ys).length = (Ty.stss ys).length
  | [] => rfl
  | f :: fs => by simp only [Ty.fgss, Ty.stss, List.length_append, Ty.len_fgs f, Ty.len_fgss fs]
end
theorem listEx {α β : Type} {p : α → β → Prop} : ∀ (l : List α), (∀ x ∈ l, ∃ y, p x y) → ∃ m : List β, m.length = l.length ∧ ∀ (i : Nat) x y, l[i]? = some x → m[i]? = some y → p x y
  | [], _ => ⟨[], rfl, fun i x y h => by simp at h⟩
  | a :: l, h => by
    obtain ⟨y, hy⟩ := h a (by simp)
    obtain ⟨m, hm, k⟩ := listEx l fun x hx => h x (by simp [hx])
    refine ⟨y :: m, by simp [hm], fun i x z h1 h2 => ?_⟩
    cases i with
    | zero =>
      simp only [List.getElem?_cons_zero, Option.some.injEq] at h1 h2
      rw [← h1, ← h2]
      exact hy
    | succ i => exact k i x z (by simpa using h1) (by simpa using h2)
mutual
theorem shape_enc : ∀ (y : Ty) {ts : List T}, shape y ts → ∃ x : R y.sts, encR y.sts y.fgs x = ts ∧ okR y.sts x
  | .int, ts, h => by rw [shape] at h; obtain ⟨n, rfl, h1⟩ := h; exact ⟨n, rfl, okR_one (t := .int .i64) (by simp only [okV]; exact h1)⟩
  | .u8, ts, h => by rw [shape] at h; obtain ⟨n, rfl, h1⟩ := h; exact ⟨n, rfl, okR_one (t := .int .u8) (by simp only [okV]; exact h1)⟩
  | .bool, ts, h => by rw [shape] at h; obtain ⟨n, rfl⟩ := h; exact ⟨n, rfl, okR_one (t := .bool) (by simp only [okV])⟩
  | .str, ts, h => by
    rw [shape] at h
    obtain ⟨s, rfl, h1⟩ := h
    refine ⟨s.data.toList, ?_, okR_one (t := .str) (by simp only [okV]; simpa using h1)⟩
    simp only [Ty.sts, Ty.fgs, encR, encT, headR]
  | .sl e, ts, h => by
    rw [shape] at h
    obtain ⟨es, rfl, h1, h2⟩ := h
    obtain ⟨m, hm, k⟩ := listEx (p := fun (t : List T) (x : R e.sts) => encR e.sts e.fgs x = t ∧ okR e.sts x) es fun x hx => shape_enc e (h2 x hx)
    refine ⟨(show List (R e.sts) from m), ?_, ?_⟩
    · simp only [Ty.sts, Ty.fgs, encR, encT, headR, lis]
      congr 2
      refine List.ext_getElem? fun i => ?_
      rw [List.getElem?_map]
      cases h3 : es[i]? with
      | none =>
        have h4 : (show List (R e.sts) from m)[i]? = none := by
          rw [List.getElem?_eq_none_iff] at h3 ⊢
          exact Nat.le_trans (Nat.le_of_eq hm) h3
        rw [h4]
        rfl
      | some t =>
        have hlt : i < m.length := by have := (List.getElem?_eq_some_iff.1 h3).1; omega
        have h4 : (show List (R e.sts) from m)[i]? = some m[i] := List.getElem?_eq_getElem hlt
        rw [h4, Option.map_some, (k i t _ h3 h4).1]
    · refine okR_one (t := .sl e.sts) ?_
      simp only [okV]
      refine ⟨by show m.length ≤ _; omega, fun x hx => ?_⟩
      obtain ⟨i, hi⟩ := List.mem_iff_getElem?.1 hx
      have hlt : i < es.length := by have := (List.getElem?_eq_some_iff.1 hi).1; simp only [lis] at this; omega
      exact (k i _ x (List.getElem?_eq_getElem hlt) hi).2
  | .st fs, ts, h => by rw [shape] at h; exact shapes_enc fs h
theorem shapes_enc : ∀ (ys : List Ty) {ts : List T}, shapes ys ts → ∃ x : R (Ty.stss ys), encR (Ty.stss ys) (Ty.fgss ys) x = ts ∧ okR (Ty.stss ys) x
  | [], ts, h => by rw [shapes] at h; subst h; exact ⟨(), rfl, okR_nil⟩
  | f :: fs, ts, h => by
    rw [shapes] at h
    obtain ⟨a, b, rfl, h1, h2⟩ := h
    obtain ⟨x, h3, h4⟩ := shape_enc f h1
    obtain ⟨y, h5, h6⟩ := shapes_enc fs h2
    refine ⟨appR _ _ x y, ?_, okR_app _ _ h4 h6⟩
    have := encR_app f.sts (Ty.stss fs) f.fgs (Ty.fgss fs) x y (Ty.len_fgs f)
    rw [h3, h5] at this
    exact this
end
def Ty.ap (y : Ty) : AP := match y with
  | .st fs => .agg (zipF (Ty.stss fs) (Ty.fgss fs))
  | .int => .one (.int .i64) .z
  | .u8 => .one (.int .u8) .z
  | .bool => .one .bool .z
  | .str => .one .str .z
  | .sl e => .one (.sl e.sts) (.sl .fz e.fgs)
theorem zipF_fst : ∀ (ts : List ST) (fs : List Fg), fs.length = ts.length → (zipF ts fs).map (·.1) = ts ∧ (zipF ts fs).map (·.2) = fs
  | [], [], _ => ⟨rfl, rfl⟩
  | t :: ts, f :: fs, h => by
    obtain ⟨h1, h2⟩ := zipF_fst ts fs (by simpa using h)
    simp only [zipF, List.map_cons, h1, h2]
    exact ⟨trivial, trivial⟩
  | [], _ :: _, h => by simp at h
  | _ :: _, [], h => by simp at h
theorem Ty.ap_cts (y : Ty) : (y.ap.cts).map (·.1) = y.sts ∧ (y.ap.cts).map (·.2) = y.fgs := by
  cases y with
  | st fs => exact zipF_fst _ _ (Ty.len_fgss fs)
  | _ => exact ⟨rfl, rfl⟩
end Go.Proofs.Ytdlambaphhklpaa.TM
namespace Go.Proofs.Ytdlambaphhklpaa.TM
open Go Go.RowKit Go.ChangeShapes Go.WideShapes
theorem Cl.ext' {c : Cl} {t : ST} {f : Fg} (h : (c.t, c.f) = (t, f)) : ∃ x : V t, c = ⟨t, f, x⟩ := by
  obtain ⟨t', f', x⟩ := c
  simp only [Prod.mk.injEq] at h
  obtain ⟨rfl, rfl⟩ := h
  exact ⟨x, rfl⟩
theorem ofRow_ex : ∀ (r : List (ST × Fg)) (cs : List Cl), cs.map (fun c => (c.t, c.f)) = r → (∀ c ∈ cs, okV c.t c.x) → ∃ x : R (cts r), ofRow r x = cs ∧ okR (cts r) x
  | [], [], _, _ => ⟨(), rfl, okR_nil⟩
  | (t, f) :: r, c :: cs, h, k => by
    rw [List.map_cons, List.cons.injEq] at h
    obtain ⟨x, rfl⟩ := Cl.ext' h.1
    obtain ⟨y, hy, ho⟩ := ofRow_ex r cs h.2 fun c hc => k c (by simp [hc])
    refine ⟨consR t (cts r) x y, ?_, okR_cons (k ⟨t, f, x⟩ (by simp)) ho⟩
    show (⟨t, f, headR t (cts r) (consR t (cts r) x y)⟩ : Cl) :: ofRow r (tailR t (cts r) (consR t (cts r) x y)) = _
    rw [head_cons, tail_cons, hy]
  | [], _ :: _, h, _ => by simp at h
  | _ :: _, [], h, _ => by simp at h
theorem cells_okR : ∀ (r : List ST) (fs : List Fg) (x : R r), fs.length = r.length → okR r x → ∀ c ∈ cellsOf r fs x, okV c.t c.x
  | [], _, _, _, _ => fun c hc => by simp [cellsOf] at hc
  | t :: r, f :: fs, x, hl, h => fun c hc => by
    rw [cellsOf, List.mem_cons] at hc
    rcases hc with rfl | hc
    · exact (okR_head h).1
    · exact cells_okR r fs _ (by simpa using hl) (okR_head h).2 c hc
  | _ :: _, [], _, hl, _ => by simp at hl
theorem cells_cts : ∀ (r : List ST) (fs : List Fg) (x : R r), fs.length = r.length → (cellsOf r fs x).map (fun c => (c.t, c.f)) = zipF r fs
  | [], [], _, _ => rfl
  | t :: r, f :: fs, x, hl => by rw [cellsOf, List.map_cons, cells_cts r fs _ (by simpa using hl), zipF]
  | [], _ :: _, _, hl => by simp at hl
  | _ :: _, [], _, hl => by simp at hl
theorem Ty.ap_zip (y : Ty) : y.ap.cts = zipF y.sts y.fgs := by
  cases y with
  | st fs => rfl
  | _ => rfl
theorem arg_cells (y : Ty) {ts : List T} (h : shape y ts) : ∃ cs : List Cl, cs.map (fun c => (c.t, c.f)) = y.ap.cts ∧ encs cs = ts ∧ ∀ c ∈ cs, okV c.t c.x := by
  obtain ⟨x, h1, h2⟩ := shape_enc y h
  exact ⟨cellsOf y.sts y.fgs x, by rw [cells_cts _ _ _ y.len_fgs, Ty.ap_zip], by rw [encs_cellsOf, h1], cells_okR _ _ _ y.len_fgs h2⟩
section
variable {H : Type} {enc : TypeId × Value → H} {P : Program} {W : World}
def tysOf (P : Program) : List Ty → List TypeId → Bool
  | [], [] => true
  | y :: ys, t :: ts => tyIs P y t && tysOf P ys ts
  | _, _ => false
theorem given_of {y : Ty} {t : TypeId} {b0 : Nat} {r : Reach} {v : Value} {ts : List T} (ht : tyIs P y t = true) (hv : Value.okWide P W r b0 t v) (hs : shape y ts) (hr : RepL (allFz W) W noLab noWhere 0 ts v.cells.toList) (hl : v.cells.toList.length = y.size) : (y.ap.arg ts).given0 W v := by
  cases y with
  | st fs =>
    rw [tyIs] at ht
    split at ht
    · rename_i fields hu
      unfold Value.okWide at hv
      rw [hu] at hv
      obtain ⟨cs, rfl, h1, _⟩ := hv
      refine ⟨cs, rfl, ?_, hr⟩
      have := shape_length _ hs
      simp only [Value.cells, Array.length_toList] at hl
      omega
    · cases ht
  | int =>
    rw [tyIs] at ht
    split at ht
    · rename_i hu
      obtain ⟨n, rfl⟩ := okWide_int hu hv
      rw [shape] at hs
      obtain ⟨m, rfl, _⟩ := hs
      simp only [Value.cells, RepL] at hr
      exact hr.1
    · cases ht
  | u8 =>
    rw [tyIs] at ht
    split at ht
    · rename_i hu
      obtain ⟨n, rfl⟩ := okWide_int hu hv
      rw [shape] at hs
      obtain ⟨m, rfl, _⟩ := hs
      simp only [Value.cells, RepL] at hr
      exact hr.1
    · cases ht
  | bool =>
    rw [tyIs] at ht
    split at ht
    · rename_i hu
      obtain ⟨n, rfl⟩ := okWide_bool hu hv
      rw [shape] at hs
      obtain ⟨m, rfl⟩ := hs
      simp only [Value.cells, RepL] at hr
      exact hr.1
    · cases ht
  | str =>
    rw [tyIs] at ht
    split at ht
    · rename_i hu
      obtain ⟨n, rfl⟩ := okWide_string hu hv
      rw [shape] at hs
      obtain ⟨m, rfl, _⟩ := hs
      simp only [Value.cells, RepL] at hr
      exact hr.1
    · cases ht
  | sl e =>
    rw [tyIs] at ht
    split at ht
    · rename_i hu
      obtain ⟨a, len, cap, rfl⟩ := okWide_slice hu hv
      rw [shape] at hs
      obtain ⟨m, rfl, _⟩ := hs
      simp only [Value.cells, RepL] at hr
      exact RepC.move (fun f b hz => ⟨hz, rfl⟩) _ (fun b r hb => by simp [noLab] at hb) hr.1
    · cases ht
theorem args_open {r : Reach} {b0 base : Nat} {spare : Nat → Bool} {held : Bool} : ∀ (ys : List Ty) {ts : List TypeId} {vs : List Value} {ds : List (DataW H)} {ps : List MemPlace},
    tysOf P ys ts = true → DataW.TrodAll enc P W base spare held ts vs ds ps → (∀ (j : Nat) t v, ts[j]? = some t → vs[j]? = some v → Value.okWide P W r b0 t v) →
    vs.length = ys.length ∧ ∃ cs : List Cl, cs.map (fun c => (c.t, c.f)) = (ys.map Ty.ap).flatMap AP.cts ∧ (∀ c ∈ cs, okV c.t c.x) ∧
      ∀ (i : Nat) (c : Arg) (v : Value), (argsL (ys.map Ty.ap) (encs cs))[i]? = some c → vs[i]? = some v → c.given0 W v
  | [], [], vs, ds, ps, _, h, _ => by
    obtain ⟨rfl, _, _⟩ := trodAll_nil h
    exact ⟨rfl, [], rfl, fun c hc => by simp at hc, fun i c v hc => by simp [argsL] at hc⟩
  | [], _ :: _, _, _, _, ht, _, _ => by simp [tysOf] at ht
  | _ :: _, [], _, _, _, ht, _, _ => by simp [tysOf] at ht
  | y :: ys, t :: ts, vs, ds, ps, ht, h, hv => by
    simp only [tysOf, Bool.and_eq_true] at ht
    obtain ⟨v, vs', d, ds', p, q, rfl, rfl, rfl, h0, h1⟩ := trodAll_cons h
    obtain ⟨n, hn⟩ := h0
    obtain ⟨tr, k1, k2, k3⟩ := trod_rep (Z := allFz W) (w := W) (fun b hb => Or.inl hb) y ht.1 hn
    obtain ⟨cs, c1, c2, c3⟩ := arg_cells y k1
    obtain ⟨e1, cs', e2, e3, e4⟩ := args_open ys ht.2 h1 fun j t v hj hv' => hv (j + 1) t v (by simpa using hj) (by simpa using hv')
    have hlen : cs.length = y.ap.len := by
      have := congrArg List.length c1
      rw [List.length_map] at this
      rw [this]
      cases y <;> rfl
    refine ⟨by simp [e1], cs ++ cs', by rw [List.map_append, c1, e2]; rfl, fun c hc => (List.mem_append.1 hc).elim (c3 c) (e3 c), fun i c v' hc hv' => ?_⟩
    simp only [List.map_cons, argsL] at hc
    have hte : (encs (cs ++ cs')).take y.ap.len = encs cs := by
      unfold encs
      rw [List.map_append, List.take_append_of_le_length (by simp [hlen]), ← hlen, List.take_of_length_le (by simp)]
    have hde : (encs (cs ++ cs')).drop y.ap.len = encs cs' := by
      unfold encs
      rw [List.map_append, List.drop_append_of_le_length (by simp [hlen]), ← hlen, List.drop_of_length_le (by simp), List.nil_append]
    rw [hte, hde] at hc
    cases i with
    | zero =>
      simp only [List.getElem?_cons_zero, Option.some.injEq] at hc hv'
      subst hc
      subst hv'
      rw [c2]
      exact given_of ht.1 (hv 0 t v rfl rfl) k1 k2 k3
    | succ i => exact e4 i c v' (by simpa using hc) (by simpa using hv')
theorem trodAll_len {base : Nat} {spare : Nat → Bool} {held : Bool} : ∀ {ts : List TypeId} {vs : List Value} {ds : List (DataW H)} {ps : List MemPlace}, DataW.TrodAll enc P W base spare held ts vs ds ps → ds.length = ts.length
  | [], _, _, _, h => by obtain ⟨_, rfl, _⟩ := trodAll_nil h; rfl
  | t :: ts, _, _, _, h => by
    obtain ⟨v, vs', d, ds', p, q, rfl, rfl, rfl, _, h1⟩ := trodAll_cons h
    simp [trodAll_len h1]
theorem fun_outs {f : FuncId} {args : List Arg} {outs : List (List T)} {res : List Arg} (F : Fun P f args outs res) : Fun P f args [] res := by
  refine ⟨F.1, fun C L us h1 h2 h3 h4 h5 h6 h7 => (F.2 C L us h1 h2 h3 h4 h5 h6 h7).mono fun e w' he => ?_⟩
  cases e with
  | returned v =>
    obtain ⟨N, G, st, hs, a, vs, s, _, h⟩ := he
    exact ⟨N, G, st, hs, a, vs, s, trivial, h⟩
  | _ => exact he
theorem argsL_length : ∀ (as : List AP) (ts : List T), (argsL as ts).length = as.length
  | [], _ => rfl
  | a :: as, ts => by simp [argsL, argsL_length as]
theorem law_calls {r : Reach} {b0 base : Nat} {spare : Nat → Bool} {held : Bool} {rec : Rec} (hJ : Right P rec) {ys : List Ty} {ts : List TypeId} {args : Array Value} {ds : List (DataW H)} {ps : List MemPlace}
    (hy : tysOf P ys ts = true) (h : DataW.TrodAll enc P W base spare held ts args.toList ds ps) (hv : ∀ (j : Nat) t v, ts[j]? = some t → args.toList[j]? = some v → Value.okWide P W r b0 t v)
    {l : Lb} (hq : l.q = none) (ha : l.args = ys.map Ty.ap) {z : R l.outS} (hz : l.resT (l.cells z) = [.one (.v (.bool true))]) (hp : ∀ x : R l.inS, okR l.inS x → rec l x = some z) :
    Calls P l.f args W (fun e w' => e = .returned (.bool true) ∧ Below W.heap.size W w') := by
  obtain ⟨h1, cs, h2, h3, h4⟩ := args_open ys hy h hv
  have hin : l.inT = (ys.map Ty.ap).flatMap AP.cts := by
    unfold Lb.inT
    rw [hq, ha]
  obtain ⟨x, hx, hok⟩ := ofRow_ex l.inT cs (by rw [hin]; exact h2) h3
  have hc := hJ l x z (hp x hok)
  unfold J at hc
  rw [hq] at hc
  simp only at hc
  rw [hz, hx, ha] at hc
  exact calls_of_fun (fun_outs hc) (by rw [argsL_length, h1, List.length_map]) h4
theorem trodAll_again (hl : laidOutB P = true) {W' : World} (hb : Below W.heap.size W W') : ∀ {ts : List TypeId} {vs : List Value} {ds : List (DataW H)} {ps : List MemPlace}, ts.all (fun t => P.readableRec t && decide (t < P.types.size)) = true →
    DataW.TrodAll enc P W 0 (fun _ => true) true ts vs ds ps → (∀ x ∈ ps, x.block < W.heap.size) → DataW.TrodAll enc P W' 0 (fun b => decide (b < W.heap.size)) true ts vs ds ps
  | [], vs, ds, ps, _, h, _ => by obtain ⟨rfl, rfl, rfl⟩ := trodAll_nil h; exact trodAll_mk0
  | t :: ts, vs, ds, ps, ht, h, hlt => by
    simp only [List.all_cons, Bool.and_eq_true, decide_eq_true_eq] at ht
    obtain ⟨v, vs', d, ds', p, q, rfl, rfl, rfl, h0, h1⟩ := trodAll_cons h
    exact trodAll_cons_mk (Below.trod hl ht.1.1 ht.1.2 h0 hb fun x hx => hlt x (by simp [hx])) (trodAll_again hl hb (by simpa using ht.2) h1 fun x hx => hlt x (by simp [hx]))
theorem law_post {rec : Rec} (hJ : Right P rec) {f : Nat} {fn : Func} {s : ChangeSpec} {apart : Bool} {base : Nat} (hvars : s.vars = []) {args : Array Value} {ds gs : List (DataW H)} {before : List MemPlace}
    (hval : ∀ (j : Nat) t v, fn.params[j]? = some t → args[j]? = some v → Value.okWide P W .any base t v) (hW : DataW.Whole enc P fn.params.toList s.vars apart W args.toList ds gs before)
    {ys : List Ty} (hy : tysOf P ys fn.params.toList = true) (hl : laidOutB P = true) (ht : fn.params.toList.all (fun t => P.readableRec t && decide (t < P.types.size)) = true)
    {tb : TypeId} (hr : fn.resultTypes = #[tb]) (hb : P.underlying tb = some .bool) (hs : ∀ ds : List (DataW H), ds.length = fn.params.size → s.fn H ds = { results := [.lit (.bool true)], args := ds })
    {l : Lb} (hf : l.f = f) (hq : l.q = none) (ha : l.args = ys.map Ty.ap) {z : R l.outS} (hz : l.resT (l.cells z) = [.one (.v (.bool true))]) (hp : ∀ x : R l.inS, okR l.inS x → rec l x = some z) :
    Calls P f args W (fun e W' => ∃ v, e = .returned v ∧ s.post enc P fn apart true false false W args v W') := by
  subst hf
  have hW' := hW
  obtain ⟨p, q, hA, hV, rfl, hfz, hnd⟩ := hW
  rw [hvars] at hV
  obtain ⟨rfl, rfl⟩ := trodVars_none hV
  have hln := trodAll_len hA
  refine (law_calls hJ hy hA (fun j t v hj hv => hval j t v (by simpa using hj) (by simpa using hv)) hq ha hz hp).mono fun e W' ⟨he, bel⟩ => ?_
  subst he
  have e1 : s.fn H (ds ++ []) = { results := [.lit (.bool true)], args := ds } := by
    rw [List.append_nil]
    exact hs ds (by simpa using hln)
  refine ⟨_, rfl, ds, [], p ++ [], [], p, [], hW', ?_, ?_, ?_, bel.frame _, fun h => by cases h⟩
  · rw [e1, hr]
    exact trodAll_mk1 (shut_bool hb _)
  · rw [e1]
    exact trodAll_again hl bel ht hA fun x hx => hA.lt x (by simpa using hx)
  · rw [e1, hvars]
    rfl
end
end Go.Proofs.Ytdlambaphhklpaa.TM
namespace Go.Proofs.Ytdlambaphhklpaa.TM
def lookTb : List (Nat × List Lb) → Nat → List Lb
  | [], _ => []
  | (f, ls) :: r, g => match Nat.beq f g with
    | true => ls
    | false => lookTb r g
end Go.Proofs.Ytdlambaphhklpaa.TM
