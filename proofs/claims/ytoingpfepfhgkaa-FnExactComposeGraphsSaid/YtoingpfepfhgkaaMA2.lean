/- Part 3 of a machine that runs the functions of a program over plain values, and of the proof that its runs are runs of the program. No condition. -/
import Derived.Test.YtoingpfepfhgkaaMA1
namespace Go.Proofs.Ytoingpfepfhgkaa.TM
open Go
structure Pth where
  c0 : Nat
  r : List (X × Nat)
def Pth.add (o : Nat) (p : Pth) : Pth := match p.r with
  | [] => ⟨p.c0 + o, []⟩
  | r => ⟨p.c0, go r⟩
where go : List (X × Nat) → List (X × Nat)
  | [] => []
  | [(i, c)] => [(i, c + o)]
  | x :: y :: r => x :: go (y :: r)
inductive TV where
  | c (x : Cl)
  | ref (n : Nm) (p : Pth) (sub : Option (X × X))
  | addr (n : Nm) (p : Pth)
  | raddr (cs : List Cl)
  | agg (xs : List TV)
  | tup (xs : List TV)
  | fn (g : Nat) (caps : List TV)
  | va (xs : List TV)
  | dead
structure VB where
  real : Bool
  cells : List Cl
inductive Ft where
  | rS (t : Nat) (v : TV)
  | rX (t i : Nat) (v : TV)
  | rB (n : Nm)
  | wS (t : Nat) (v : TV)
  | wB (n : Nm)
  | kl (n : Nm)
  | gn (d : Nat)
  | km (n : Nm)
structure VS where
  s : List (Nat × TV)
  b : List (Nm × VB)
  lg : List Ft
def lookS : List (Nat × TV) → Nat → TV
  | [], _ => .dead
  | (u, v) :: l, t => match Nat.beq u t with
    | true => v
    | false => lookS l t
def nmEq (n m : Nm) : Bool := Nat.beq n.1 m.1 && Nat.beq n.2 m.2
def lookB : List (Nm × VB) → Nm → Option VB
  | [], _ => none
  | (m, v) :: l, n => match nmEq m n with
    | true => some v
    | false => lookB l n
section
variable {ρ : Type}
abbrev Co (ρ : Type) := VS → Res ρ
def no {ρ : Type} (code : Nat) : Co ρ := fun _ => fail code
def rdS (t : Nat) (k : TV → Co ρ) : Co ρ := fun st => match lookS st.s t with
  | v => k v ⟨st.s, st.b, .rS t v :: st.lg⟩
def rdX (t i : Nat) (k : TV → Co ρ) : Co ρ := fun st => match lookS st.s t with
  | .tup xs => match xs.drop i with
    | y :: _ => k y ⟨st.s, st.b, .rX t i y :: st.lg⟩
    | [] => fail 66
  | _ => fail 67
def rdB (n : Nm) (k : VB → Co ρ) : Co ρ := fun st => match lookB st.b n with
  | some x => k x ⟨st.s, st.b, .rB n :: st.lg⟩
  | none => fail 1
def wrS (N t : Nat) (v : TV) (k : Co ρ) : Co ρ := fun st => match Nat.blt t N with
  | true => k ⟨(t, v) :: st.s, st.b, .wS t v :: st.lg⟩
  | false => fail 2
def wrB (n : Nm) (x : VB) (k : Co ρ) : Co ρ := fun st => k ⟨st.s, (n, x) :: st.b, .wB n :: st.lg⟩
mutual
def calmT (fr fa : Nm → Pth → Bool) : TV → Bool
  | .ref m p none => fr m p
  | .ref _ _ (some _) => false
  | .addr m p => fa m p
  | .agg xs => calmTs fr fa xs
  | .tup xs => calmTs fr fa xs
  | .fn _ xs => calmTs fr fa xs
  | .va xs => calmTs fr fa xs
  | .dead => false
  | _ => true
def calmTs (fr fa : Nm → Pth → Bool) : List TV → Bool
  | [] => true
  | x :: xs => calmT fr fa x && calmTs fr fa xs
end
def leads (p q : Pth) : Bool := match p.r, q.r with
  | [], [] => Nat.beq p.c0 q.c0
  | [], _ :: _ => Nat.beq p.c0 q.c0
  | _ :: _, _ => Nat.beq p.c0 q.c0 && Nat.ble p.r.length q.r.length
mutual
def killT (n : Nm) (p : Pth) : TV → TV
  | .ref m q sub => match nmEq m n && leads p q with
    | true => .dead
    | false => .ref m q sub
  | .addr m q => match nmEq m n && (leads p q && Nat.blt p.r.length q.r.length) with
    | true => .dead
    | false => .addr m q
  | .agg xs => .agg (killTs n p xs)
  | .tup xs => .tup (killTs n p xs)
  | .fn g xs => .fn g (killTs n p xs)
  | .va xs => .va (killTs n p xs)
  | x => x
def killTs (n : Nm) (p : Pth) : List TV → List TV
  | [] => []
  | x :: xs => killT n p x :: killTs n p xs
end
def killS (f : TV → TV) : List (Nat × TV) → List (Nat × TV)
  | [] => []
  | (t, v) :: l => (t, f v) :: killS f l
def kill (n : Nm) (p : Pth) (k : Co ρ) : Co ρ := fun st => k ⟨killS (killT n p) st.s, st.b, .kl n :: st.lg⟩
mutual
def killA (n : Nm) : TV → TV
  | .ref m q sub => match nmEq m n with
    | true => .dead
    | false => .ref m q sub
  | .addr m q => match nmEq m n with
    | true => .dead
    | false => .addr m q
  | .agg xs => .agg (killAs n xs)
  | .tup xs => .tup (killAs n xs)
  | .fn g xs => .fn g (killAs n xs)
  | .va xs => .va (killAs n xs)
  | x => x
def killAs (n : Nm) : List TV → List TV
  | [] => []
  | x :: xs => killA n x :: killAs n xs
end
def killBox (n : Nm) (k : Co ρ) : Co ρ := fun st => k ⟨killS (killA n) st.s, st.b, .kl n :: st.lg⟩
def iteC (c : V .bool) (x y : Co ρ) : Co ρ := fun st => ite_ c (x st) (y st)
def conv (t : ST) (f : Fg) (c : Cl) (k : V t → Res ρ) : Res ρ := match Fg.beq c.f f with
  | true => castV c.t t c.x k
  | false => match c.t, c.f, t, f with
    | .sl _, .nil, .sl r, .sl .own _ => k (lnil r)
    | _, _, _, _ => fail 3
def cts (r : List (ST × Fg)) : List ST := r.map (·.1)
def toRow : (r : List (ST × Fg)) → List Cl → (R (cts r) → Res ρ) → Res ρ
  | [], [], k => k emptyR
  | (t, f) :: r, c :: cs, k => conv t f c fun a => toRow r cs fun b => k (consR t (cts r) a b)
  | _, _, _ => fail 4
def ofRow : (r : List (ST × Fg)) → R (cts r) → List Cl
  | [], _ => []
  | (t, f) :: r, x => ⟨t, f, headR t (cts r) x⟩ :: ofRow r (tailR t (cts r) x)
def fgs (r : List (ST × Fg)) : List Fg := r.map (·.2)
def zipF : List ST → List Fg → List (ST × Fg)
  | t :: ts, f :: fs => (t, f) :: zipF ts fs
  | _, _ => []
def cellsOf : (r : List ST) → List Fg → R r → List Cl
  | [], _, _ => []
  | t :: ts, f :: fs, x => ⟨t, f, headR t ts x⟩ :: cellsOf ts fs (tailR t ts x)
  | _ :: _, [], _ => []
def mkRow : (r : List ST) → List Fg → List Cl → (R r → Res ρ) → Res ρ
  | [], [], [], k => k emptyR
  | t :: r, f :: fs, c :: cs, k => conv t f c fun a => mkRow r fs cs fun b => k (consR t r a b)
  | _, _, _, _ => fail 5
def getAt : List Cl → Nat → List (X × Nat) → (List Cl → Res ρ) → Res ρ
  | cs, c, [], k => k (cs.drop c)
  | cs, c, (i, c') :: r, k => match cs.drop c with
    | ⟨.sl row, .sl .own fs, l⟩ :: _ => lgetN row l i fun e => getAt (cellsOf row fs e) c' r k
    | _ => fail 6
def putAt : List Cl → Nat → List (X × Nat) → Cl → (List Cl → Res ρ) → Res ρ
  | cs, c, [], x, k => match Nat.blt c cs.length with
    | true => k (cs.set c x)
    | false => fail 7
  | cs, c, (i, c') :: r, x, k => match cs.drop c with
    | ⟨.sl row, .sl .own fs, l⟩ :: _ => lgetN row l i fun e => putAt (cellsOf row fs e) c' r x fun cs' => mkRow row fs cs' fun e' => k (cs.set c ⟨.sl row, .sl .own fs, lsetN row l i e'⟩)
    | _ => fail 8
def rowC (n : Nm) (p : Pth) (k : List Cl → Co ρ) : Co ρ := rdB n fun bx st => getAt bx.cells p.c0 p.r fun row => k row st
def ofConst1 : Value → TV
  | .int k n => .c ⟨.int k, .z, iLit k n⟩
  | .bool x => .c ⟨.bool, .z, bLit x⟩
  | .string l => .c ⟨.str, .z, sLit l.data.toList⟩
  | .slice none 0 0 => .c ⟨.sl [], .nil, lnil []⟩
  | _ => .dead
def ofConstT : Value → TV
  | .agg cs => match cs.toList.all (·.oneCell') with
    | true => .agg (cs.toList.map ofConst1)
    | false => .dead
  | x => ofConst1 x
def evT (x : Operand) (k : TV → Co ρ) : Co ρ := match x with
  | .tmp t => rdS t k
  | .const v => k (ofConstT v)
  | .func f => k (.fn f [])
  | .global _ => no 9
def evTs : List Operand → (List TV → Co ρ) → Co ρ
  | [], k => k []
  | x :: xs, k => evT x fun v => evTs xs fun vs => k (v :: vs)
def evPartsT : List (Nat × Operand) → (List (Nat × TV) → Co ρ) → Co ρ
  | [], k => k []
  | (i, x) :: xs, k => evT x fun v => evPartsT xs fun vs => k ((i, v) :: vs)
def outT (N : Nat) (d : Option Nat) (v : TV) (k : Co ρ) : Co ρ := match d with
  | some t => wrS N t v k
  | none => k
def ownF : Fg → Bool
  | .nil => true
  | .sl .own _ => true
  | _ => false
def Cl.own (c : Cl) : Bool := match c.t with
  | .sl _ => match c.f with
    | .sl .nw _ => false
    | .sl .fz _ => false
    | _ => true
  | _ => false
def solid : ST → Fg → Bool
  | .hole, _ => false
  | .pt _, .pt _ _ => true
  | .pt _, _ => false
  | .fn _ _, .fn _ => true
  | .fn _ _, _ => false
  | _, _ => true
def closeT (v : TV) (k : Cl → Co ρ) : Co ρ := match v with
  | .c x => match solid x.t x.f with
    | false => no 10
    | true => k x
  | .ref n ⟨c, []⟩ sub => rdB n fun bx => match bx.cells.drop c with
    | ⟨.sl row, f, l⟩ :: _ => match ownF f with
      | true => match sub with
        | none => wrB n ⟨bx.real, bx.cells.set c ⟨.hole, .z, emptyR⟩⟩ (kill n ⟨c, []⟩ (k ⟨.sl row, f, l⟩))
        | some _ => no 11
      | false => no 12
    | _ => no 13
  | .fn g [] => k ⟨.fn g [], .fn [], emptyR⟩
  | _ => no 14
def closesT : List TV → (List Cl → Co ρ) → Co ρ
  | [], k => k []
  | x :: xs, k => closeT x fun c => closesT xs fun cs => k (c :: cs)
def closeCT : TV → (List Cl → Co ρ) → Co ρ
  | .agg xs, k => closesT xs k
  | x, k => closeT x fun c => k [c]
def closePartsT : List (Nat × TV) → (List (Nat × List Cl) → Co ρ) → Co ρ
  | [], k => k []
  | (i, x) :: xs, k => closeCT x fun c => closePartsT xs fun cs => k ((i, c) :: cs)
def seenT (n : Nm) (p : Pth) (x : Cl) : TV := match x.own with
  | true => .ref n p none
  | false => match x.t, x.f, x.x with
    | .pt _, .pt .own _, _ => .dead
    | .pt r, .pt _ fs, y => .raddr (cellsOf r fs y)
    | .pt _, _, _ => .dead
    | .fn g [], .fn _, y => .c ⟨.fn g [], .fn [], y⟩
    | .fn _ _, _, _ => .dead
    | .hole, _, _ => .dead
    | _, _, _ => .c x
def seensT (n : Nm) (p : Pth) : Nat → List Cl → List TV
  | _, [] => []
  | j, x :: xs => seenT n (p.add j) x :: seensT n p (j + 1) xs
def storesT (n : Nm) (p : Pth) : Nat → List Cl → Co ρ → Co ρ
  | _, [], k => k
  | j, x :: xs, k => rdB n fun bx st => getAt bx.cells (p.add j).c0 (p.add j).r fun row => match row with
    | [] => fail 15
    | old :: _ => putAt bx.cells (p.add j).c0 (p.add j).r x fun cs =>
      (match old.own with
      | true => kill n (p.add j) (wrB n ⟨bx.real, cs⟩ (storesT n p (j + 1) xs k))
      | false => wrB n ⟨bx.real, cs⟩ (storesT n p (j + 1) xs k)) st
def freshT (d : Nat) (x : VB) (k : Co ρ) : Co ρ := killBox (d, 0) (wrB (d, 0) x k)
def zeroC (t : ST) : Option Cl := match t with
  | .int k => some ⟨.int k, .z, iLit k 0⟩
  | .bool => some ⟨.bool, .z, bLit false⟩
  | .str => some ⟨.str, .z, sLit []⟩
  | .sl r => some ⟨.sl r, .nil, lnil r⟩
  | _ => none
def zeroCs : List ST → Option (List Cl)
  | [] => some []
  | t :: ts => match zeroC t, zeroCs ts with
    | some c, some cs => some (c :: cs)
    | _, _ => none
def zeroOk : ST → T → Bool
  | .int k, .v (.int l n) => decide (k = l) && decide (n = 0)
  | .bool, .v (.bool false) => true
  | .str, .v (.string s) => s.data.toList.isEmpty
  | .sl _, .sl .own [] => true
  | _, _ => false
def zeroOks : List ST → List T → Bool
  | [], [] => true
  | t :: ts, x :: xs => zeroOk t x && zeroOks ts xs
  | _, _ => false
def tyDepth : Nat := 24
def zerosT (P : Program) (t : TypeId) : Option (List Cl) := match zeroT P t, stOf P tyDepth t with
  | some z, some r => match zeroOks (cts r) z with
    | true => zeroCs (cts r)
    | false => none
  | _, _ => none
def rowT (P : Program) (t : TypeId) : Option (List (ST × Fg)) := match rowInfo P t, P.underlying t with
  | some z, some (.slice e) => match stOf P tyDepth e with
    | some r => match zeroOks (cts r) z with
      | true => some r
      | false => none
    | none => none
  | _, _ => none
def cellsTV : TV → List TV
  | .agg xs => xs
  | x => [x]
def deadT : TV → Bool
  | .dead => true
  | _ => false
def fillLT (fs : List (Nat × Nat)) : List TV → List (Nat × TV) → Option (List TV)
  | cs, [] => some cs
  | cs, (i, x) :: rest => match fs[i]? with
    | some (o, sz) => match Nat.beq (cellsTV x).length sz && (Nat.ble (o + sz) cs.length && !deadT x) with
      | true => fillLT fs (cs.take o ++ cellsTV x ++ cs.drop (o + sz)) rest
      | false => none
    | none => none
def fillET (r : List ST) (fs : List Fg) : Nat → List (Nat × List Cl) → (V (.sl r) → Res ρ) → Res ρ
  | _, [], k => k (lnil r)
  | s, (i, c) :: rest, k => match Nat.beq i s with
    | true => mkRow r fs c fun e => fillET r fs (s + 1) rest fun l => k (lcons r e l)
    | false => fail 16
def ownN (d : Fg) : Fg → Fg
  | .nil => d
  | f => f
def ownNs : List Fg → List Fg → List Fg
  | d :: ds, f :: fs => ownN d f :: ownNs ds fs
  | _, fs => fs
def partF (r : List (ST × Fg)) (cs : List (Nat × List Cl)) : List Fg := match cs with
  | (_, c) :: _ => ownNs (fgs r) (c.map (·.f))
  | [] => fgs r
def partN (r : List (ST × Fg)) (cs : List (Nat × List Cl)) : Fg := match cs with
  | [] => .nil
  | _ :: _ => .sl .own (partF r cs)
def cmpT (k : IntKind) (op : BinOp) (a b : V (.int k)) : Option (V .bool) := match op with
  | .eql => some (ieq k a b) | .neq => some (bnot (ieq k a b)) | .lss => some (ilt k a b) | .leq => some (ile k a b) | .gtr => some (ilt k b a) | .geq => some (ile k b a)
  | _ => none
def bitT (k : IntKind) (op : BinOp) (a b : V (.int k)) : Option (V (.int k)) := match op with
  | .and => some (iand k a b)
  | .or => some (ior k a b)
  | .xor => some (ixor k a b)
  | _ => none
def intT (N : Nat) (op : BinOp) (d : Option Nat) (l : IntKind) (a b : V (.int l)) (k : Co ρ) : Co ρ := match op with
  | .add => outT N d (.c ⟨.int l, .z, iadd l a b⟩) k
  | .sub => outT N d (.c ⟨.int l, .z, isub l a b⟩) k
  | .mul => outT N d (.c ⟨.int l, .z, imul l a b⟩) k
  | .quo => iteC (ieq l b (iLit l 0)) (no 17) (outT N d (.c ⟨.int l, .z, iquo l a b⟩) k)
  | .rem => iteC (ieq l b (iLit l 0)) (no 17) (outT N d (.c ⟨.int l, .z, irem l a b⟩) k)
  | op => match bitT l op a b, cmpT l op a b with
    | some r, _ => outT N d (.c ⟨.int l, .z, r⟩) k
    | none, some r => outT N d (.c ⟨.bool, .z, r⟩) k
    | none, none => no 18
def flat1T (d : Option TypeDesc) (x y : TV) : Option (V .bool) := match d, x, y with
  | some .bool, .c ⟨.bool, _, a⟩, .c ⟨.bool, _, b⟩ => some (beqv a b)
  | some (.int _), .c ⟨.int k, _, a⟩, .c ⟨.int l, _, b⟩ => match decide (k = l) with
    | true => some (ieq k a (icast k l b))
    | false => none
  | some .string, .c ⟨.str, _, a⟩, .c ⟨.str, _, b⟩ => some (seqv a b)
  | _, _, _ => none
def nthT : List TV → Nat → Option TV
  | [], _ => none
  | x :: _, 0 => some x
  | _ :: xs, n + 1 => nthT xs n
def eqFT (P : Program) : List Field → List TV → List TV → Option (V .bool)
  | [], _, _ => some (bLit true)
  | f :: fs, xs, ys => match f.name == "_", nthT xs f.offset, nthT ys f.offset with
    | false, some x, some y => match fs, flat1T (P.underlying f.type) x y, eqFT P fs xs ys with
      | [], some r, some _ => some r
      | _ :: _, some r, some s => some (band r s)
      | _, _, _ => none
    | _, _, _ => none
def eqST (P : Program) (t : TypeId) (xs ys : List TV) : Option (V .bool) := match P.underlying t with
  | some (.struct fs) => match P.stoodInHeld t || P.eqGuardType P.depth t with
    | false => eqFT P fs.toList xs ys
    | true => none
  | _ => none
def binT (N : Nat) (P : Program) (t : TypeId) (op : BinOp) (d : Option Nat) (x y : TV) (k : Co ρ) : Co ρ := match x, y with
  | .c ⟨.int l, _, a⟩, .c ⟨.int m, _, b⟩ => match op with
    | .shl => iteC (ilt m b (iLit m 0)) (no 17) (outT N d (.c ⟨.int l, .z, ishl l m a b⟩) k)
    | .shr => iteC (ilt m b (iLit m 0)) (no 17) (outT N d (.c ⟨.int l, .z, ishr l m a b⟩) k)
    | op => match decide (l = m) with
      | true => intT N op d l a (icast l m b) k
      | false => no 18
  | .c ⟨.str, _, a⟩, .c ⟨.str, _, b⟩ => match op with
    | .eql => outT N d (.c ⟨.bool, .z, seqv a b⟩) k
    | .neq => outT N d (.c ⟨.bool, .z, bnot (seqv a b)⟩) k
    | .lss => outT N d (.c ⟨.bool, .z, sltv a b⟩) k
    | .geq => outT N d (.c ⟨.bool, .z, bnot (sltv a b)⟩) k
    | .add => fun st => scat a b fun r => outT N d (.c ⟨.str, .z, r⟩) k st
    | _ => no 19
  | .c ⟨.bool, _, a⟩, .c ⟨.bool, _, b⟩ => match P.underlying t with
    | some .bool => match op with
      | .eql => outT N d (.c ⟨.bool, .z, beqv a b⟩) k
      | .neq => outT N d (.c ⟨.bool, .z, bnot (beqv a b)⟩) k
      | _ => no 20
    | _ => no 20
  | .agg xs, .agg ys => match eqST P t xs ys, op with
    | some r, .eql => outT N d (.c ⟨.bool, .z, r⟩) k
    | some r, .neq => outT N d (.c ⟨.bool, .z, bnot r⟩) k
    | _, _ => no 21
  | _, _ => no 21
def sameOp : Operand → Operand → Bool
  | .tmp t, .tmp u => Nat.beq t u
  | _, _ => false
def ownBytes (r : List ST) (f : Fg) (l : V (.sl r)) : Option (Fg × V (.sl [.int .u8])) := match r, f, l with
  | _, .nil, _ => some (.z, lnil [.int .u8])
  | [.int .u8], .sl .own [f], l => some (f, l)
  | _, _, _ => none
def appendS (N : Nat) (P : Program) (t1 : TypeId) (r : List (ST × Fg)) (d : Nat) (x y : Operand) (k : Co ρ) : Co ρ := match P.underlying t1, r with
  | some .string, [_] => evT x fun v => evT y fun u => closeT v fun a => match u with
    | .c ⟨.str, _, s⟩ => match a with
      | ⟨.sl ra, fa, la⟩ => match ownBytes ra fa la with
        | some (f, xs) => fun st => lapp [.int .u8] xs (sbytes s) fun l => freshT d ⟨false, [⟨.sl [.int .u8], .sl .own [f], l⟩]⟩ (wrS N d (.ref (d, 0) ⟨0, []⟩ none) k) st
        | none => no 220
      | _ => no 220
    | _ => no 221
  | _, _ => no 222
def appendT (N : Nat) (P : Program) (c : Call) (dst : Option Nat) (x y : Operand) (k : Co ρ) : Co ρ := match dst, c.argTypes.toList with
  | some d, [t0, t1] => match P.underlying t0, rowT P t0, Nat.beq t1 t0 with
    | some (.slice _), some r, true =>
      evT x fun v => evT y fun u => closeT v fun a => closeT u fun b => match a, b with
        | ⟨.sl ra, fa, xs⟩, ⟨.sl rb, fb, ys⟩ => match fa, fb with
            | .nil, .nil => freshT d ⟨false, [⟨.sl ra, .nil, xs⟩]⟩ (wrS N d (.ref (d, 0) ⟨0, []⟩ none) k)
            | .nil, .sl _ fs => match Nat.beq rb.length r.length && Nat.beq fs.length r.length with
              | true => fun st => lapp rb (lnil rb) ys fun l => freshT d ⟨false, [⟨.sl rb, .sl .own fs, l⟩]⟩ (wrS N d (.ref (d, 0) ⟨0, []⟩ none) k) st
              | false => no 24
            | .sl .own fs, .nil => match Nat.beq ra.length r.length && Nat.beq fs.length r.length with
              | true => fun st => lapp ra xs (lnil ra) fun l => freshT d ⟨false, [⟨.sl ra, .sl .own fs, l⟩]⟩ (wrS N d (.ref (d, 0) ⟨0, []⟩ none) k) st
              | false => no 24
            | .sl .own fs, .sl _ fs' => match Fg.beqs fs fs' && (Nat.beq ra.length r.length && Nat.beq fs.length r.length) with
              | true => fun st => castL rb ra ys fun zs => lapp ra xs zs fun l => freshT d ⟨false, [⟨.sl ra, .sl .own fs, l⟩]⟩ (wrS N d (.ref (d, 0) ⟨0, []⟩ none) k) st
              | false => no 22
            | _, _ => no 23
        | _, _ => no 25
    | some (.slice _), some r, false => appendS N P t1 r d x y k
    | _, _, _ => no 26
  | _, _ => no 27
def lenC (r : List ST) (f : Fg) (l : V (.sl r)) : V (.int .i64) := match f with
  | .sl _ _ => llen r l
  | _ => iLit .i64 0
def bytesC (r : List ST) (f : Fg) (l : V (.sl r)) (k : V .str → Co ρ) : Co ρ := match r, f, l with
  | _, .nil, _ => k (sLit [])
  | [.int .u8], .sl _ [_], l => k (bstr l)
  | _, _, _ => no 219
def hiT (hi : Option Operand) (n : V (.int .i64)) (k : TV → Co ρ) : Co ρ := match hi with
  | some h => evT h k
  | none => k (.c ⟨.int .i64, .z, n⟩)
def opT (N : Nat) (P : Program) (o : Oper) (k : Co ρ) : Co ρ := match o.op with
  | .move x => evT x fun v => outT N o.dst v k
  | .assign x => evT x fun v => outT N o.dst v k
  | .pick c a b => evT c fun vc => evT a fun va => evT b fun vb => match vc with
    | .c ⟨.bool, _, r⟩ => iteC r (outT N o.dst va k) (outT N o.dst vb k)
    | _ => no 30
  | .alloc t => match o.dst, zerosT P t with
    | some d, some cs => freshT d ⟨true, cs⟩ (wrS N d (.addr (d, 0) ⟨0, []⟩) k)
    | _, _ => no 31
  | .box _ x => match o.dst with
    | some d => evT x fun v => closeCT v fun cs => freshT d ⟨true, cs⟩ (wrS N d (.addr (d, 0) ⟨0, []⟩) k)
    | none => no 32
  | .build t parts => match buildInfo P t, zerosT P t with
    | some (_, fs), some cs => evPartsT parts.toList fun vs => match fillLT fs (cs.map .c) vs with
      | some xs => outT N o.dst (.agg xs) k
      | none => no 33
    | _, _ => no 34
  | .buildSlice t len parts => match o.dst, rowT P t with
    | some d, some r => match Nat.ble (len * r.length) 16777216 with
      | true => evPartsT parts.toList fun vs => closePartsT vs fun cs => match Nat.beq cs.length len with
        | true => fun st => fillET (cts r) (partF r cs) 0 cs fun l => freshT d ⟨false, [⟨.sl (cts r), partN r cs, l⟩]⟩ (wrS N d (.ref (d, 0) ⟨0, []⟩ none) k) st
        | false => no 35
      | false => no 35
    | _, _ => no 36
  | .makeSlice t l c => match o.dst, rowT P t with
    | some d, some r => match zeroCs (cts r) with
      | some zs => evT l fun v => evT c fun u => match v, u with
        | .c ⟨.int .i64, _, n⟩, .c ⟨.int .i64, _, m⟩ => iteC (match sameOp l c with
            | true => bLit true
            | false => ieq .i64 m n) (fun st => mkRow (cts r) (fgs r) zs fun e => lrep (cts r) n e fun x => freshT d ⟨false, [⟨.sl (cts r), .sl .own (fgs r), x⟩]⟩ (wrS N d (.ref (d, 0) ⟨0, []⟩ none) k) st) (no 37)
        | _, _ => no 38
      | none => no 39
    | _, _ => no 39
  | .load t x => evT x fun v => match v with
    | .addr n p => rowC n p fun row => match isAgg P t with
      | some true => match Nat.ble (P.cellsOf t) row.length with
        | true => outT N o.dst (.agg (seensT n p 0 (row.take (P.cellsOf t)))) k
        | false => no 40
      | some false => match row with
        | y :: _ => outT N o.dst (seenT n (p.add 0) y) k
        | [] => no 41
      | none => no 42
    | .raddr cs => match isAgg P t with
      | some true => match Nat.ble (P.cellsOf t) cs.length with
        | true => outT N o.dst (.agg ((cs.take (P.cellsOf t)).map .c)) k
        | false => no 43
      | some false => match cs with
        | y :: _ => outT N o.dst (.c y) k
        | [] => no 44
      | none => no 45
    | .va xs => match isAgg P t with
      | some true => match Nat.ble (P.cellsOf t) xs.length with
        | true => outT N o.dst (.agg (xs.take (P.cellsOf t))) k
        | false => no 43
      | some false => match xs with
        | y :: _ => outT N o.dst y k
        | [] => no 44
      | none => no 45
    | _ => no 46
  | .store t x y => evT x fun v => match v with
    | .addr n p => evT y fun u => closeCT u fun cs => match Nat.beq (P.cellsOf t) cs.length && Nat.blt 0 cs.length with
      | true => storesT n p 0 cs (outT N o.dst .dead k)
      | false => no 47
    | _ => no 48
  | .nilCheck x => evT x fun v => match v with
    | .addr n p => outT N o.dst (.addr n p) k
    | .raddr cs => outT N o.dst (.raddr cs) k
    | _ => no 49
  | .binOp op t x y _ => evT x fun v => evT y fun u => binT N P t op o.dst v u k
  | .unOp op _ x => evT x fun v => match op, v with
    | .not, .c ⟨.bool, _, r⟩ => outT N o.dst (.c ⟨.bool, .z, bnot r⟩) k
    | .neg, .c ⟨.int .i64, _, n⟩ => outT N o.dst (.c ⟨.int .i64, .z, ineg .i64 n⟩) k
    | _, _ => no 50
  | .fieldAddr s x f => match fieldAt P s f with
    | some fl => match Nat.blt 0 (P.cellsOf fl.type) with
      | true => evT x fun v => match v with
        | .addr n p => outT N o.dst (.addr n (p.add fl.offset)) k
        | .raddr cs => outT N o.dst (.raddr (cs.drop fl.offset)) k
        | .va xs => outT N o.dst (.va (xs.drop fl.offset)) k
        | _ => no 51
      | false => no 52
    | none => no 53
  | .field s x f => match fieldAt P s f with
    | some fl => evT x fun v => match v with
      | .agg xs => match isAgg P fl.type with
        | some true => match Nat.ble (fl.offset + P.cellsOf fl.type) xs.length with
          | true => outT N o.dst (.agg ((xs.drop fl.offset).take (P.cellsOf fl.type))) k
          | false => no 54
        | some false => match xs.drop fl.offset with
          | y :: _ => outT N o.dst y k
          | [] => no 55
        | none => no 56
      | _ => no 57
    | none => no 58
  | .indexAddr t x i => match P.underlying t with
    | some (.slice el) => evT x fun v => evT i fun w => match v, w with
      | .c ⟨.sl r, .sl f fs, l⟩, .c ⟨.int .i64, _, j⟩ => match f.low && (Nat.beq r.length (P.cellsOf el) && Nat.beq fs.length r.length) with
        | true => fun st => lget r l j fun _ e => outT N o.dst (.raddr (cellsOf r fs e)) k st
        | false => no 59
      | .ref n p none, .c ⟨.int .i64, _, j⟩ => rowC n p fun row => match row with
        | ⟨.sl r, .sl .own fs, l⟩ :: _ => match Nat.beq r.length (P.cellsOf el) && Nat.beq fs.length r.length with
          | true => fun st => lget r l j fun m _ => outT N o.dst (.addr n ⟨p.c0, p.r ++ [(m, 0)]⟩) k st
          | false => no 60
        | _ => no 61
      | _, _ => no 62
    | _ => no 63
  | .index t x i => match P.underlying t with
    | some .string => evT x fun v => evT i fun w => match v, w with
      | .c ⟨.str, _, l⟩, .c ⟨.int kk, _, j⟩ => fun st => sget l (icast .i64 kk j) fun c => outT N o.dst (.c ⟨.int .u8, .z, c⟩) k st
      | _, _ => no 64
    | _ => no 65
  | .extract x i => match x with
    | .tmp t => rdX t i fun y => outT N o.dst y k
    | _ => no 67
  | .makeFunc g first caps => match g, first.isEmpty with
    | .func g, true => evTs caps.toList fun vs => outT N o.dst (.fn g vs) k
    | _, _ => no 68
  | .slice t x lo hi none => evT x fun v => evT (lo.getD (.const (.int .i64 0))) fun l => match v with
    | .c ⟨.str, _, a⟩ => match P.underlying t with
      | some .string => hiT hi (slen a) fun h => match l, h with
        | .c ⟨.int .i64, _, i⟩, .c ⟨.int .i64, _, j⟩ => fun st => ssub a i j fun r => outT N o.dst (.c ⟨.str, .z, r⟩) k st
        | _, _ => no 69
      | _ => no 70
    | .c ⟨.sl r, .sl f fs, a⟩ => match rowT P t with
      | some r' => hiT hi (llen r a) fun h => match l, h, f.low && (Nat.beq r.length r'.length && Nat.beq fs.length r.length) with
        | .c ⟨.int .i64, _, i⟩, .c ⟨.int .i64, _, j⟩, true => fun st => lsub r a i j fun y => outT N o.dst (.c ⟨.sl r, .sl f fs, y⟩) k st
        | _, _, _ => no 71
      | none => no 72
    | _ => no 73
  | .convert src dst x => match P.underlying src, P.underlying dst with
    | some (.int _), some (.int k') => evT x fun v => match v with
      | .c ⟨.int k0, _, n⟩ => outT N o.dst (.c ⟨.int k', .z, iconv k0 k' n⟩) k
      | _ => no 74
    | some .string, some .string => evT x fun v => match v with
      | .c ⟨.str, _, l⟩ => outT N o.dst (.c ⟨.str, .z, l⟩) k
      | _ => no 75
    | some (.slice e), some .string => match P.underlying e with
      | some (.int .u8) => evT x fun v => match v with
        | .c ⟨.sl r, f, l⟩ => bytesC r f l fun s => outT N o.dst (.c ⟨.str, .z, s⟩) k
        | .ref n p none => rowC n p fun row => match row with
          | ⟨.sl r, f, l⟩ :: _ => match ownF f with
            | true => bytesC r f l fun s => outT N o.dst (.c ⟨.str, .z, s⟩) k
            | false => no 215
          | _ => no 216
        | _ => no 217
      | _ => no 218
    | _, _ => no 76
  | .call c => match c.callee, c.args.toList with
    | .builtin .len, [x] => match (c.argTypes[0]?).bind P.underlying with
      | some .string => evT x fun v => match v with
        | .c ⟨.str, _, l⟩ => outT N o.dst (.c ⟨.int .i64, .z, slen l⟩) k
        | _ => no 77
      | some (.slice _) => evT x fun v => match v with
        | .c ⟨.sl r, f, l⟩ => outT N o.dst (.c ⟨.int .i64, .z, lenC r f l⟩) k
        | .ref n p none => rowC n p fun row => match row with
          | ⟨.sl r, f, l⟩ :: _ => match ownF f with
            | true => outT N o.dst (.c ⟨.int .i64, .z, lenC r f l⟩) k
            | false => no 78
          | _ => no 78
        | _ => no 79
      | _ => no 80
    | .builtin .max, [x, y] => evT x fun v => evT y fun u => match v, u with
      | .c ⟨.int .i64, _, a⟩, .c ⟨.int .i64, _, e⟩ => outT N o.dst (.c ⟨.int .i64, .z, imax a e⟩) k
      | _, _ => no 81
    | .builtin .append, [x, y] => appendT N P c o.dst x y k
    | _, _ => no 82
  | _ => no 83
def needA (_ : Nat) (_ : List TV) (_ : List (Nm × VB)) : Res ρ := fail 200
def needQ (_ : List Nat) (_ : VS) : Res ρ := fail 201
end
end Go.Proofs.Ytoingpfepfhgkaa.TM
namespace Go.Proofs.Ytoingpfepfhgkaa.TM
open Go
mutual
def inT : (t : ST) → Fg → V t → TV
  | .pt _, .pt .own _, _ => .dead
  | .pt r, .pt _ fs, x => .raddr (cellsOf r fs x)
  | .pt _, _, _ => .dead
  | .fn g r, .fn fs, x => .fn g (inTs r fs x)
  | .fn _ _, _, _ => .dead
  | .hole, _, _ => .dead
  | .int k, f, x => .c ⟨.int k, f, x⟩
  | .bool, f, x => .c ⟨.bool, f, x⟩
  | .str, f, x => .c ⟨.str, f, x⟩
  | .sl r, f, x => .c ⟨.sl r, f, x⟩
def inTs : (r : List ST) → List Fg → R r → List TV
  | [], _, _ => []
  | t :: r, f :: fs, x => inT t f (headR t r x) :: inTs r fs (tailR t r x)
  | _ :: _, [], _ => []
end
def inC (c : Cl) : TV := inT c.t c.f c.x
def AP.len : AP → Nat
  | .one _ _ => 1
  | .agg r => r.length
  | .ptr r => r.length
  | .own _ _ => 1
  | .owns r => r.length
def AP.lv (i : Nat) (cs : List Cl) : AP → TV
  | .one _ _ => match cs with
    | c :: _ => inC c
    | [] => .dead
  | .agg _ => .agg (cs.map inC)
  | .ptr _ => .addr (i, 1) ⟨0, []⟩
  | .own _ _ => match cs with
    | c :: _ => seenT (i, 1) ⟨0, []⟩ c
    | [] => .dead
  | .owns _ => .agg (seensT (i, 1) ⟨0, []⟩ 0 cs)
def AP.bx (cs : List Cl) : AP → VB
  | .one _ _ => ⟨false, []⟩
  | .agg _ => ⟨false, []⟩
  | .ptr _ => ⟨true, cs⟩
  | .own _ _ => ⟨false, cs⟩
  | .owns _ => ⟨false, cs⟩
def entryS : Nat → List AP → List Cl → List (Nat × TV)
  | _, [], _ => []
  | i, a :: as, cs => (i, a.lv i (cs.take a.len)) :: entryS (i + 1) as (cs.drop a.len)
def entryB : Nat → List AP → List Cl → List (Nm × VB)
  | _, [], _ => []
  | i, a :: as, cs => ((i, 1), a.bx (cs.take a.len)) :: entryB (i + 1) as (cs.drop a.len)
mutual
def VP.fill : VP → List Cl → TV
  | .c _ _, cs => match cs with
    | z :: _ => .c z
    | [] => .dead
  | .ref n c0, _ => .ref n ⟨c0, []⟩ none
  | .addr n c0, _ => .addr n ⟨c0, []⟩
  | .raddr r, cs => .raddr (cs.take r.length)
  | .agg xs, cs => .agg (VP.fills xs cs)
  | .tup xs, cs => .tup (VP.fills xs cs)
  | .fn g xs, cs => .fn g (VP.fills xs cs)
def VP.fills : List VP → List Cl → List TV
  | [], _ => []
  | x :: xs, cs => x.fill cs :: VP.fills xs (cs.drop x.cts.length)
end
def cutS : List (Nat × VP) → List Cl → List (Nat × TV)
  | [], _ => []
  | (t, x) :: xs, cs => (t, x.fill cs) :: cutS xs (cs.drop x.cts.length)
def cutB : List (Nm × Bool × List (ST × Fg)) → List Cl → List (Nm × VB)
  | [], _ => []
  | (n, real, r) :: xs, cs => (n, ⟨real, cs.take r.length⟩) :: cutB xs (cs.drop r.length)
def Lb.start (l : Lb) (x : R l.inS) : VS := match l.q with
  | none => ⟨entryS 0 l.args (ofRow l.inT x), entryB 0 l.args (ofRow l.inT x), []⟩
  | some _ => ⟨cutS l.slots (ofRow l.inT x), cutB l.boxes ((ofRow l.inT x).drop (VP.ctss (l.slots.map (·.2))).length), []⟩
section
variable {ρ : Type}
mutual
def okF : ST → Fg → Bool
  | .int _, f => Fg.beq f .z
  | .bool, f => Fg.beq f .z
  | .str, f => Fg.beq f .z
  | .sl r, .sl _ fs => okFs r fs
  | .pt r, .pt _ fs => okFs r fs
  | .fn _ r, .fn fs => okFs r fs
  | _, _ => false
def okFs : List ST → List Fg → Bool
  | [], [] => true
  | t :: r, f :: fs => okF t f && okFs r fs
  | _, _ => false
end
def lendZ (t : ST) (f : Fg) (c : Cl) (k : Cl → Res ρ) : Res ρ := match okF c.t c.f && Fg.beq c.f.frz f with
  | true => castV c.t t c.x fun x => k ⟨t, f, x⟩
  | false => match c.t, c.f, t, f with
    | .sl _, .nil, .sl r, .sl .fz fs => k ⟨.sl r, .sl .fz fs, lnil r⟩
    | _, _, _, _ => fail 100
def lendC (t : ST) (f : Fg) (c : Cl) (k : Cl → Res ρ) : Res ρ := match Fg.beq c.f f with
  | true => castV c.t t c.x fun x => k ⟨t, f, x⟩
  | false => lendZ t f c k
def lendZs : List (ST × Fg) → List Cl → (List Cl → Res ρ) → Res ρ
  | [], _, k => k []
  | (t, f) :: r, c :: cs, k => lendZ t f c fun x => lendZs r cs fun xs => k (x :: xs)
  | _, _, _ => fail 101
mutual
def lendT : TV → ST → Fg → (Cl → Co ρ) → Co ρ
  | .c x, t, f, k => fun st => lendC t f x fun y => k y st
  | .ref n p none, .sl r, .sl .fz fs, k => rowC n p fun row => match row with
    | ⟨.sl r', g, l⟩ :: _ => match ownF g with
      | true => fun st => lendZ (.sl r) (.sl .fz fs) ⟨.sl r', g, l⟩ fun y => k y st
      | false => no 102
    | _ => no 103
  | .addr n p, .pt r, .pt .fz fs, k => rowC n p fun row st => lendZs (zipF r fs) row fun cs => mkRow r fs cs fun x => k ⟨.pt r, .pt .fz fs, x⟩ st
  | .raddr cs, .pt r, .pt .fz fs, k => match Nat.beq r.length cs.length with
    | true => fun st => lendZs (zipF r fs) cs fun cs => mkRow r fs cs fun x => k ⟨.pt r, .pt .fz fs, x⟩ st
    | false => no 109
  | .fn g xs, .fn h r, .fn fs, k => match Nat.beq g h with
    | true => lendTs xs (zipF r fs) fun cs st => mkRow r fs cs fun x => k ⟨.fn h r, .fn fs, x⟩ st
    | false => no 104
  | _, _, _, _ => no 105
def lendTs : List TV → List (ST × Fg) → (List Cl → Co ρ) → Co ρ
  | [], [], k => k []
  | v :: vs, (t, f) :: r, k => lendT v t f fun c => lendTs vs r fun cs => k (c :: cs)
  | _, _, _ => no 106
end
def argsT : List TV → List AP → (List Cl → List (Option Nm) → Co ρ) → Co ρ
  | [], [], k => k [] []
  | v :: vs, .one t f :: as, k => lendT v t f fun c => argsT vs as fun cs mv => k (c :: cs) (none :: mv)
  | .agg xs :: vs, .agg r :: as, k => lendTs xs r fun cs => argsT vs as fun cs' mv => k (cs ++ cs') (none :: mv)
  | .addr n ⟨0, []⟩ :: vs, .ptr r :: as, k => rdB n fun bx => match bx.real && Nat.beq bx.cells.length r.length with
    | true => argsT vs as fun cs mv => k (bx.cells ++ cs) (some n :: mv)
    | false => no 107
  | _, _, _ => no 108
def inM (n : Nm) : List (Option Nm) → Bool
  | [] => false
  | none :: l => inM n l
  | some m :: l => nmEq n m || inM n l
def nodupM : List (Option Nm) → Bool
  | [] => true
  | none :: l => nodupM l
  | some n :: l => go n l && nodupM l
where go (n : Nm) : List (Option Nm) → Bool
  | [] => true
  | none :: l => go n l
  | some m :: l => !nmEq n m && go n l
def noFzR (l : Lb) : Bool := Fg.noFzs (l.outT.map (·.2))
mutual
def lends? : TV → Bool
  | .ref _ _ _ => true
  | .addr _ _ => true
  | .agg xs => lendss? xs
  | .fn _ xs => lendss? xs
  | .va xs => lendss? xs
  | _ => false
def lendss? : List TV → Bool
  | [] => false
  | x :: xs => lends? x || lendss? xs
end
def lendsA? : List TV → List AP → Bool
  | _ :: vs, .ptr _ :: as => lendsA? vs as
  | v :: vs, _ :: as => lends? v || lendsA? vs as
  | _, _ => false
mutual
def freeT (mv : List (Option Nm)) : TV → Bool
  | .ref n _ _ => !inM n mv
  | .addr n _ => !inM n mv
  | .agg xs => freeTs mv xs
  | .tup xs => freeTs mv xs
  | .fn _ xs => freeTs mv xs
  | .va xs => freeTs mv xs
  | _ => true
def freeTs (mv : List (Option Nm)) : List TV → Bool
  | [] => true
  | x :: xs => freeT mv x && freeTs mv xs
end
def freeA (mv : List (Option Nm)) : List TV → List AP → Bool
  | _ :: vs, .ptr _ :: as => freeA mv vs as
  | v :: vs, _ :: as => freeT mv v && freeA mv vs as
  | _, _ => true
def goneN (d : Nat) (m : Nm) : Bool := Nat.beq m.1 d && Nat.ble 2 m.2
mutual
def callK (d : Nat) (mv : List (Option Nm)) : TV → TV
  | .ref m q sub => match goneN d m || inM m mv with
    | true => .dead
    | false => .ref m q sub
  | .addr m q => match goneN d m || (inM m mv && !q.r.isEmpty) with
    | true => .dead
    | false => .addr m q
  | .agg xs => .agg (callKs d mv xs)
  | .tup xs => .tup (callKs d mv xs)
  | .fn g xs => .fn g (callKs d mv xs)
  | .va xs => .va (callKs d mv xs)
  | x => x
def callKs (d : Nat) (mv : List (Option Nm)) : List TV → List TV
  | [] => []
  | x :: xs => callK d mv x :: callKs d mv xs
end
def resTV (d j : Nat) (cs : List Cl) : AP → TV
  | .one _ _ => match cs with
    | c :: _ => seenT (d, j) ⟨0, []⟩ c
    | [] => .dead
  | .agg _ => .agg (seensT (d, j) ⟨0, []⟩ 0 cs)
  | .ptr _ => .addr (d, j) ⟨0, []⟩
  | _ => .dead
def AP.isRes : AP → Bool
  | .one _ _ => true
  | .agg _ => true
  | .ptr _ => true
  | _ => false
def allRes : List AP → Bool
  | [] => true
  | a :: as => a.isRes && allRes as
def AP.isPtr : AP → Bool
  | .ptr _ => true
  | _ => false
def resTVs (d : Nat) : Nat → List AP → List Cl → List TV
  | _, [], _ => []
  | j, a :: as, cs => resTV d j (cs.take a.len) a :: resTVs d (j + 1) as (cs.drop a.len)
def resBs (d : Nat) : Nat → List AP → List Cl → List (Nm × VB)
  | _, [], _ => []
  | j, a :: as, cs => ((d, j), ⟨a.isPtr, cs.take a.len⟩) :: resBs d (j + 1) as (cs.drop a.len)
def tupT : List TV → TV
  | [v] => v
  | vs => .tup vs
def dropB (d : Nat) : List (Nm × VB) → List (Nm × VB)
  | [] => []
  | (n, x) :: l => match goneN d n with
    | true => dropB d l
    | false => (n, x) :: dropB d l
def backB : List (Option Nm) → List (List (ST × Fg)) → List Cl → List (Nm × VB) → List (Nm × VB)
  | some n :: mv, o :: os, cs, l => backB mv os (cs.drop o.length) (match lookB l n with
    | some x => (n, ⟨x.real, cs.take o.length⟩) :: l
    | none => l)
  | none :: mv, o :: os, cs, l => backB mv os (cs.drop o.length) l
  | _, _, _, l => l
def outLen (l : Lb) : Nat := (l.outs.flatMap id).length
def wBs? (d : Nat) : Nat → List AP → List Ft
  | _, [] => []
  | j, _ :: as => .wB (d, j) :: wBs? d (j + 1) as
def mvF : List (Option Nm) → List Ft
  | [] => []
  | none :: mv => mvF mv
  | some n :: mv => .wB n :: .km n :: mvF mv
def afterT (l : Lb) (d : Nat) (mv : List (Option Nm)) (cs : List Cl) (st : VS) : VS :=
  ⟨(d, tupT (resTVs d 2 l.res (cs.drop (outLen l)))) :: killS (callK d mv) st.s,
   resBs d 2 l.res (cs.drop (outLen l)) ++ dropB d (backB mv l.outs (cs.take (outLen l)) st.b),
   .wS d (tupT (resTVs d 2 l.res (cs.drop (outLen l)))) :: (wBs? d 2 l.res ++ (mvF mv ++ (.gn d :: st.lg)))⟩
structure En where
  P : Program
  N : Nat
  f : Nat
  body : Code
  rs : List ResultVar
  tb : Nat → List Lb
  me : Lb
def tyAt : List (ST × Fg) → Nat → List (X × Nat) → List (ST × Fg)
  | r, c, [] => r.drop c
  | r, c, (_, c') :: p => match r.drop c with
    | (.sl row, .sl _ fs) :: _ => tyAt (zipF row fs) c' p
    | _ => []
def ctB (bs : List (Nm × VB)) (n : Nm) (p : Pth) : List (ST × Fg) := match lookB bs n with
  | some x => tyAt (x.cells.map fun c => (c.t, c.f)) p.c0 p.r
  | none => []
def fitC (t : ST) (f : Fg) (u : ST) (g : Fg) : Bool := match u, g with
  | .sl _, .nil => match t, f with
    | .sl _, .sl .fz _ => true
    | .sl _, .nil => true
    | _, _ => false
  | _, _ => ST.beq t u && (Fg.beq g f || okF u g && Fg.beq g.frz f)
def fitCs : List (ST × Fg) → List (ST × Fg) → Bool
  | [], _ => true
  | (t, f) :: r, (u, g) :: q => fitC t f u g && fitCs r q
  | _, _ => false
mutual
def fitT (bs : List (Nm × VB)) : TV → ST → Fg → Bool
  | .c x, t, f => fitC t f x.t x.f
  | .ref n p none, .sl r, .sl .fz fs => match ctB bs n p with
    | (u, g) :: _ => fitC (.sl r) (.sl .fz fs) u g
    | [] => false
  | .addr n p, .pt r, .pt .fz fs => fitCs (zipF r fs) (ctB bs n p)
  | .raddr cs, .pt r, .pt .fz fs => fitCs (zipF r fs) (cs.map fun c => (c.t, c.f))
  | .fn g xs, .fn h r, .fn fs => Nat.beq g h && fitTs bs xs (zipF r fs)
  | _, _, _ => false
def fitTs (bs : List (Nm × VB)) : List TV → List (ST × Fg) → Bool
  | [], [] => true
  | v :: vs, (t, f) :: r => fitT bs v t f && fitTs bs vs r
  | _, _ => false
end
def fitO (bs : List (Nm × VB)) (v : TV) (t : ST) (f : Fg) : Bool := match v with
  | .c x => fitW t f x.t x.f
  | .ref n p none => match ctB bs n p with
    | (u, g) :: _ => fitW t f u g
    | [] => false
  | _ => false
where fitW (t : ST) (f : Fg) (u : ST) (g : Fg) : Bool := match t, f, u, g with
  | .sl _, .sl .own _, .sl _, .nil => true
  | _, _, _, _ => ST.beq t u && Fg.beq f g
def fitOs (bs : List (Nm × VB)) : List TV → List (ST × Fg) → Bool
  | [], [] => true
  | v :: vs, (t, f) :: r => fitO bs v t f && fitOs bs vs r
  | _, _ => false
def fitA (bs : List (Nm × VB)) : List TV → List AP → Bool
  | [], [] => true
  | v :: vs, .one t f :: as => fitT bs v t f && fitA bs vs as
  | .agg xs :: vs, .agg r :: as => fitTs bs xs r && fitA bs vs as
  | .addr _ ⟨0, []⟩ :: vs, .ptr _ :: as => fitA bs vs as
  | v :: vs, .own t f :: as => fitO bs v t f && fitA bs vs as
  | .agg xs :: vs, .owns r :: as => fitOs bs xs r && fitA bs vs as
  | _, _ => false
def isEntry (l : Lb) : Bool := match l.q with
  | none => true
  | some _ => false
def pickA (g : Nat) (bs : List (Nm × VB)) (vs : List TV) : List Lb → Option Lb
  | [] => none
  | l :: ls => match isEntry l && (Nat.beq l.f g && fitA bs vs l.args) with
    | true => some l
    | false => pickA g bs vs ls
def notG (d : Nat) : List (Option Nm) → Bool
  | [] => true
  | none :: l => notG d l
  | some n :: l => !goneN d n && notG d l
def callC (E : En) (rec : Rec) (dr : Bool) (o : Oper) (k : Co ρ) : Co ρ := match o.op, o.dst with
  | .call c, some d => match c.callee with
    | .value fo => evT fo fun fv => evTs c.args.toList fun vs => match fv with
      | .fn g caps => fun st => match pickA g st.b (vs ++ caps) (E.tb g) with
        | some l => (argsT (vs ++ caps) l.args fun cs mv st => match Nat.blt d E.N && (nodupM mv && (freeA mv (vs ++ caps) l.args && (Nat.beq l.outs.length mv.length && allRes l.res && (!dr || notG d mv) && (noFzR l || !lendsA? (vs ++ caps) l.args)))) with
          | true => toRow l.inT cs fun x => call_ rec l x fun y => k (afterT l d mv (ofRow l.outT y) st)
          | false => fail 110) st
        | none => needA g (vs ++ caps) st.b
      | _ => no 111
    | _ => no 112
  | _, _ => no 113
def partO (v : TV) (t : ST) (f : Fg) (k : Cl → Co ρ) : Co ρ := match v with
  | .c x => match solid x.t x.f with
    | true => fun st => conv t f x fun a => k ⟨t, f, a⟩ st
    | false => no 201
  | .ref n p none => rowC n p fun row => match row with
    | ⟨.sl r, g, l⟩ :: _ => match ownF g with
      | true => fun st => conv t f ⟨.sl r, g, l⟩ fun a => k ⟨t, f, a⟩ st
      | false => no 202
    | _ => no 203
  | _ => no 204
def partsO : List TV → List (ST × Fg) → (List Cl → Co ρ) → Co ρ
  | [], [], k => k []
  | v :: vs, (t, f) :: r, k => partO v t f fun c => partsO vs r fun cs => k (c :: cs)
  | _, _, _ => no 205
def argsO : List TV → List AP → (List Cl → Co ρ) → Co ρ
  | [], [], k => k []
  | .c x :: vs, .one t f :: as, k => fun st => lendC t f x fun c => argsO vs as (fun cs => k (c :: cs)) st
  | .agg xs :: vs, .owns r :: as, k => partsO xs r fun cs => argsO vs as fun cs' => k (cs ++ cs')
  | .agg _ :: _, .own _ _ :: _, _ => no 206
  | v :: vs, .own t f :: as, k => partO v t f fun c => argsO vs as fun cs => k (c :: cs)
  | _, _, _ => no 207
def ownAt : Nat → List TV → List AP → Option (Nat × TV)
  | i, v :: _, .own _ _ :: _ => some (i, v)
  | i, v :: _, .owns _ :: _ => some (i, v)
  | i, _ :: vs, _ :: as => ownAt (i + 1) vs as
  | _, _, _ => none
def ownN? : List AP → Nat
  | [] => 0
  | .own _ _ :: as => ownN? as + 1
  | .owns _ :: as => ownN? as + 1
  | _ :: as => ownN? as
def apart1 (n : Nm) (p : Pth) : List TV → Bool
  | [] => true
  | .ref m q none :: vs => (!nmEq n m || (p.r.isEmpty && (q.r.isEmpty && !Nat.beq p.c0 q.c0))) && apart1 n p vs
  | .c _ :: vs => apart1 n p vs
  | _ => false
def apartT (d : Nat) (nb : Nm) : List TV → Bool
  | [] => true
  | .ref n p none :: vs => (!nmEq n nb && !goneN d n) && (apart1 n p vs && apartT d nb vs)
  | .c _ :: vs => apartT d nb vs
  | _ => false
def backO : List TV → List Cl → Bool
  | [], [] => true
  | .ref _ _ _ :: vs, c :: cs => c.own && backO vs cs
  | _ :: vs, _ :: cs => backO vs cs
  | _, _ => false
def putsT : List TV → List Cl → Co ρ → Co ρ
  | .ref n p none :: vs, c :: cs, k => rdB n fun bx st => putAt bx.cells p.c0 p.r c fun cs' => kill n p (wrB n ⟨bx.real, cs'⟩ (putsT vs cs k)) st
  | _ :: vs, _ :: cs, k => putsT vs cs k
  | _, _, k => k
def outsO (i0 : Nat) : Nat → List (List (ST × Fg)) → Bool
  | _, [] => true
  | i, o :: os => (Nat.beq i i0 || o.isEmpty) && outsO i0 (i + 1) os
def mvO (nb : Nm) (i0 : Nat) : Nat → List (List (ST × Fg)) → List (Option Nm)
  | _, [] => []
  | i, _ :: os => (match Nat.beq i i0 with
    | true => some nb
    | false => none) :: mvO nb i0 (i + 1) os
def freshNb (nb : Nm) (k : Co ρ) : Co ρ := killBox nb (wrB nb ⟨false, []⟩ k)
def inPs (n : Nm) (p : Pth) : List TV → Bool
  | [] => false
  | .ref m q none :: vs => (p.r.isEmpty && (q.r.isEmpty && (nmEq n m && Nat.beq p.c0 q.c0))) || inPs n p vs
  | _ :: vs => inPs n p vs
mutual
def stayT (ps : List TV) : TV → TV → TV
  | .ref n p none, v1 => match inPs n p ps with
    | true => .ref n p none
    | false => v1
  | .agg xs, v1 => match v1 with
    | .agg ys => .agg (stayTs ps xs ys)
    | _ => .dead
  | .va xs, v1 => match v1 with
    | .va ys => .va (stayTs ps xs ys)
    | _ => .dead
  | .dead, _ => .dead
  | .ref _ _ (some _), _ => .dead
  | .c _, v1 => v1
  | .addr _ _, v1 => v1
  | .raddr _, v1 => v1
  | .tup _, v1 => v1
  | .fn _ _, v1 => v1
def stayTs (ps : List TV) : List TV → List TV → List TV
  | [], ys => ys
  | x :: xs, ys => match ys with
    | y :: ys => stayT ps x y :: stayTs ps xs ys
    | [] => []
end
def stayS (ps : List TV) (s1 : List (Nat × TV)) : List (Nat × TV) → List (Nat × TV)
  | [] => []
  | (t, v) :: l => (t, stayT ps v (lookS s1 t)) :: stayS ps s1 l
def callO (E : En) (rec : Rec) (o : Oper) (k : Co ρ) : Co ρ := match o.op, o.dst with
  | .call c, some d => match c.callee with
    | .value fo => evT fo fun fv => evTs c.args.toList fun vs => match fv with
      | .fn g caps => fun st => match pickA g st.b (vs ++ caps) (E.tb g) with
        | some l => match Nat.beq (ownN? l.args) 1, ownAt 0 (vs ++ caps) l.args with
          | true, some (i0, v0) => (argsO (vs ++ caps) l.args fun cs st0 => match Nat.blt d E.N && (apartT d (E.N + E.N, 0) (cellsTV v0) && (Nat.beq l.outs.length l.args.length && (outsO i0 0 l.outs && (allRes l.res && nodupM (mvO (E.N + E.N, 0) i0 0 l.outs))))) with
            | true => toRow l.inT cs fun x => call_ rec l x fun y => match backO (cellsTV v0) ((ofRow l.outT y).take (outLen l)) with
              | true => putsT (cellsTV v0) ((ofRow l.outT y).take (outLen l)) (freshNb (E.N + E.N, 0) fun st => freshNb (E.N + E.N, 0) (fun st => k ⟨(d, lookS st.s d) :: stayS (cellsTV v0) st.s st0.s, st.b, st.lg⟩) (afterT l d (mvO (E.N + E.N, 0) i0 0 l.outs) (ofRow l.outT y) st)) st0
              | false => fail 208
            | false => fail 209) st
          | _, _ => fail 210
        | none => needA g (vs ++ caps) st.b
      | _ => no 111
    | _ => no 112
  | _, _ => no 113
def peek (st : VS) : Operand → TV
  | .tmp t => lookS st.s t
  | .const v => ofConstT v
  | .func f => .fn f []
  | .global _ => .dead
def ownL? (E : En) (o : Oper) (st : VS) : Bool := match o.op with
  | .call c => match c.callee with
    | .value fo => match peek st fo with
      | .fn g caps => match pickA g st.b (c.args.toList.map (peek st) ++ caps) (E.tb g) with
        | some l => !Nat.beq (ownN? l.args) 0
        | none => false
      | _ => false
    | _ => false
  | _ => false
def callX (E : En) (rec : Rec) (dr : Bool) (o : Oper) (k : Co ρ) : Co ρ := fun st => match !dr && ownL? E o st with
  | true => callO E rec o k st
  | false => callC E rec dr o k st
mutual
def takeV : VP → TV → Option (List Cl)
  | .c _ _, .c x => some [x]
  | .ref n c0, .ref m ⟨c, []⟩ none => match nmEq n m && Nat.beq c0 c with
    | true => some []
    | false => none
  | .addr n c0, .addr m ⟨c, []⟩ => match nmEq n m && Nat.beq c0 c with
    | true => some []
    | false => none
  | .raddr r, .raddr cs => match Nat.beq r.length cs.length with
    | true => some cs
    | false => none
  | .agg xs, .agg vs => takeVs xs vs
  | .tup xs, .tup vs => takeVs xs vs
  | .fn g xs, .fn h vs => match Nat.beq g h with
    | true => takeVs xs vs
    | false => none
  | _, _ => none
def takeVs : List VP → List TV → Option (List Cl)
  | [], [] => some []
  | x :: xs, v :: vs => match takeV x v, takeVs xs vs with
    | some a, some b => some (a ++ b)
    | _, _ => none
  | _, _ => none
end
def cellsVP : VP → List VP
  | .agg xs => xs
  | x => [x]
def isAggP : VP → Bool
  | .agg _ => true
  | _ => false
def isAggT : TV → Bool
  | .agg _ => true
  | _ => false
def firstRef : List VP → Option Nm
  | [] => none
  | .ref m _ :: _ => some m
  | _ :: xs => firstRef xs
def refTs : List VP → List TV → List TV
  | .ref _ _ :: xs, v :: vs => v :: refTs xs vs
  | _ :: xs, _ :: vs => refTs xs vs
  | _, _ => []
def fillTs (m : Nm) : Nat → List VP → List TV → List TV
  | k, .ref _ _ :: xs, _ :: vs => .ref m ⟨k, []⟩ none :: fillTs m (k + 1) xs vs
  | k, _ :: xs, v :: vs => v :: fillTs m k xs vs
  | _, _, _ => []
def keepT : List VP → List TV → Bool
  | [], [] => true
  | .ref _ _ :: xs, _ :: vs => keepT xs vs
  | _ :: xs, .c _ :: vs => keepT xs vs
  | _, _ => false
def aggIf (b : Bool) (vs : List TV) : TV := match b, vs with
  | true, vs => .agg vs
  | false, [v] => v
  | false, _ => .dead
def allOwn : List Cl → Bool
  | [] => true
  | c :: cs => c.own && allOwn cs
def canonOne (N t : Nat) (x : VP) (k : Co ρ) : Co ρ := match firstRef (cellsVP x) with
  | none => k
  | some m => rdS t fun v => match takeV x v with
    | some _ => k
    | none => match keepT (cellsVP x) (cellsTV v) && (isAggP x == isAggT v) && Nat.beq m.2 0 with
      | true => closesT (refTs (cellsVP x) (cellsTV v)) fun cs => match allOwn cs with
        | true => killBox m (wrB m ⟨false, cs⟩ (wrS N t (aggIf (isAggT v) (fillTs m 0 (cellsVP x) (cellsTV v))) k))
        | false => no 122
      | false => no 123
def canonS (N : Nat) : List (Nat × VP) → Co ρ → Co ρ
  | [], k => k
  | (t, x) :: xs, k => canonOne N t x (canonS N xs k)
def takeB : List (Nm × Bool × List (ST × Fg)) → VS → Option (List Cl)
  | [], _ => some []
  | (n, real, r) :: xs, st => match lookB st.b n, takeB xs st with
    | some x, some b => match Nat.beq x.cells.length r.length && (x.real == real) with
      | true => some (x.cells ++ b)
      | false => none
    | _, _ => none
def takeC (l : Lb) (st : VS) : Option (List Cl) := match takeVs (l.slots.map (·.2)) (l.slots.map fun x => lookS st.s x.1), takeB l.boxes st with
  | some a, some b => some (a ++ b)
  | _, _ => none
mutual
def fitV : VP → TV → Bool
  | .c t f, .c x => ST.beq t x.t && Fg.beq f x.f
  | .ref _ _, .ref _ ⟨_, []⟩ none => true
  | .ref _ _, .c x => ownF x.f
  | .addr n c0, .addr m ⟨c, []⟩ => nmEq n m && Nat.beq c0 c
  | .raddr _, .raddr _ => true
  | .agg xs, .agg vs => fitVs xs vs
  | .tup xs, .tup vs => fitVs xs vs
  | .fn g xs, .fn h vs => Nat.beq g h && fitVs xs vs
  | _, _ => false
def fitVs : List VP → List TV → Bool
  | [], [] => true
  | x :: xs, v :: vs => fitV x v && fitVs xs vs
  | _, _ => false
end
def pathEq : List Nat → List Nat → Bool
  | [], [] => true
  | x :: xs, y :: ys => Nat.beq x y && pathEq xs ys
  | _, _ => false
def pickQ (f i : Nat) (q : List Nat) (st : VS) : List Lb → Option Lb
  | [] => none
  | l :: ls => match l.q with
    | some p => match Nat.beq l.i i && Nat.beq l.f f && (pathEq p q && fitVs (l.slots.map (·.2)) (l.slots.map fun x => lookS st.s x.1)) with
      | true => some l
      | false => pickQ f i q st ls
    | none => pickQ f i q st ls
def isCut (i : Nat) (q : List Nat) : List Lb → Bool
  | [] => false
  | l :: ls => match l.q with
    | some p => Nat.beq l.i i && pathEq p q || isCut i q ls
    | none => isCut i q ls
def fitK : List (ST × Fg) → List Cl → Bool
  | [], [] => true
  | (t, f) :: r, c :: cs => (ST.beq c.t t && Fg.beq c.f f || (match c.f, t, f with
    | .nil, .sl _, .sl .own _ => true
    | _, _, _ => false)) && fitK r cs
  | _, _ => false
def jump (E : En) (rec : Rec) (q : List Nat) (st : VS) : Res (R E.me.outS) := match pickQ E.f E.me.i q st (E.tb E.f) with
  | some l => canonS E.N l.slots (fun st' => match takeC l st', apsBeq l.res E.me.res, ctssBeq l.outs E.me.outs with
    | some cs, true, true => match fitK l.inT cs with
      | true => toRow l.inT cs fun x => tail_ rec l x E.me.outS
      | false => needQ q st
    | _, _, _ => fail 121) st
  | none => needQ q st
def flatCs : List Cl → Bool
  | [] => true
  | c :: cs => (match c.t with
    | .int _ => true
    | .bool => true
    | .str => true
    | .sl _ => true
    | _ => false) && flatCs cs
def lowC (z : Bool) (c : Cl) : TV := .c ⟨c.t, c.f.lw z, c.x⟩
def lowCs (z : Bool) : List Cl → List TV
  | [] => []
  | c :: cs => lowC z c :: lowCs z cs
def frzCells (n : Nm) (z : Bool) (k : Co ρ) : Nat → Nat → Co ρ
  | 0, _ => k
  | m + 1, c => rdB n fun bx => match bx.cells.drop c with
    | ⟨.sl r, .sl .own fs, l⟩ :: _ => kill n ⟨c, []⟩ (wrB n ⟨bx.real, bx.cells.set c ⟨.sl r, (Fg.sl .own fs).lw z, l⟩⟩ (frzCells n z k m (c + 1)))
    | ⟨.sl r, .nil, _⟩ :: _ => kill n ⟨c, []⟩ (wrB n ⟨bx.real, bx.cells.set c ⟨.sl r, (Fg.sl .own (ST.owns0 r)).lw z, lnil r⟩⟩ (frzCells n z k m (c + 1)))
    | _ => frzCells n z k m (c + 1)
def frzOne (N t : Nat) (z : Bool) (k : Co ρ) : Co ρ := rdS t fun v => match v with
  | .addr n ⟨0, []⟩ => rdB n fun bx => frzCells n z k bx.cells.length 0
  | v => closesT (cellsTV v) fun cs => match flatCs cs with
    | true => wrS N t (aggIf (isAggT v) (lowCs z cs)) k
    | false => no 301
def fixL (N : Nat) : List (Nat × Bool) → Co ρ → Co ρ
  | [], k => k
  | (t, z) :: l, k => frzOne N t z (fixL N l k)
def boolEq : Bool → Bool → Bool
  | true, b => b
  | false, b => !b
def fxAt (d : Nat) (aft : Bool) : List (Nat × Bool × Nat × Bool) → List (Nat × Bool)
  | [] => []
  | (e, a, t, z) :: l => match Nat.beq e d && boolEq a aft with
    | true => (t, z) :: fxAt d aft l
    | false => fxAt d aft l
def fxOf (fx : List (Nat × Bool × Nat × Bool)) (aft : Bool) : Option Nat → List (Nat × Bool)
  | some d => fxAt d aft fx
  | none => []
def fxAll (fx : List (Nat × Bool × Nat × Bool)) (aft : Bool) : List Oper → List (Nat × Bool)
  | [] => []
  | o :: l => fxOf fx aft o.dst ++ fxAll fx aft l
def finT (P : Program) (r : ResultVar) (k : TV → Co ρ) : Co ρ := match r with
  | .tmp t => rdS t k
  | .cell a t => rdS a fun v => match v with
    | .addr n p => rowC n p fun row => match isAgg P t with
      | some true => match Nat.ble (P.cellsOf t) row.length with
        | true => k (.agg (seensT n p 0 (row.take (P.cellsOf t))))
        | false => no 130
      | some false => match row with
        | y :: _ => k (seenT n (p.add 0) y)
        | [] => no 131
      | none => no 132
    | _ => no 133
def finTs (P : Program) : List ResultVar → (List TV → Co ρ) → Co ρ
  | [], k => k []
  | r :: rs, k => finT P r fun v => finTs P rs fun vs => k (v :: vs)
def outsC (bs : List (Nm × VB)) : Nat → List (List (ST × Fg)) → Option (List Cl)
  | _, [] => some []
  | i, o :: os => match lookB bs (i, 1), outsC bs (i + 1) os with
    | some x, some b => match Nat.beq x.cells.length o.length with
      | true => some (x.cells ++ b)
      | false => none
    | _, _ => none
def fitRes : List TV → List AP → Bool
  | [], [] => true
  | .agg xs :: vs, .agg r :: as => Nat.beq xs.length r.length && fitRes vs as
  | .agg _ :: _, _ => false
  | .dead :: _, _ => false
  | _ :: vs, .one _ _ :: as => fitRes vs as
  | _, _ => false
def endR (l : Lb) (_ : List TV) (os cs : List Cl) : Res (R l.outS) := toRow l.outT (os ++ cs) ret
def endL (E : En) (vs : List TV) : Co (R E.me.outS) := match fitRes vs E.me.res with
  | true => closesT (vs.flatMap cellsTV) fun cs st => match outsC st.b 0 E.me.outs with
    | some os => endR E.me vs os cs
    | none => fail 140
  | false => no 141
def endP (E : En) (n : Nm) : Co (R E.me.outS) := rdB n fun bx st => match bx.real && !Nat.beq n.2 1, outsC st.b 0 E.me.outs with
  | true, some os => endR E.me [] os bx.cells
  | _, _ => fail 142
def ptrRes : List AP → Bool
  | [.ptr _] => true
  | _ => false
def endC (E : En) : Co (R E.me.outS) := fixL E.N (fxAt 999999 false E.me.fx) (finTs E.P E.rs fun vs => match ptrRes E.me.res, vs with
  | true, [.addr n ⟨0, []⟩] => endP E n
  | _, vs => endL E vs)
def knowT (t : Nat) (x : Bool) (k : Co ρ) : Co ρ := fun st => k ⟨(t, .c ⟨.bool, .z, bLit x⟩) :: st.s, st.b, st.lg⟩
def nilOp (P : Program) (o : Oper) : Option (Operand × Bool × Nat) := match o.op, o.dst with
  | .binOp op t x (.const (.slice none 0 0)) _, some d => match P.underlying t, op with
    | some (.slice _), .eql => some (x, false, d)
    | some (.slice _), .neq => some (x, true, d)
    | _, _ => none
  | _, _ => none
noncomputable def nilC (N : Nat) (z : Operand × Bool × Nat) (k : Co ρ) : Co ρ := evT z.1 fun v => match v with
  | .c ⟨.sl r, f, l⟩ => iteC (ilt .i64 (iLit .i64 0) (lenC r f l)) (outT N (some z.2.2) (.c ⟨.bool, .z, bLit z.2.1⟩) k)
      (fun st => both_ (outT N (some z.2.2) (.c ⟨.bool, .z, bLit false⟩) k st) (outT N (some z.2.2) (.c ⟨.bool, .z, bLit true⟩) k st))
  | _ => no 21
def ownsAt : Nat → List AP → Bool
  | 0, .owns _ :: _ => true
  | i + 1, _ :: as => ownsAt i as
  | _, _ => false
def vboxOp (E : En) (o : Oper) : Option (Nat × Nat) := match o.op, o.dst with
  | .box _ (.tmp i), some d => match ownsAt i E.me.args with
    | true => some (i, d)
    | false => none
  | _, _ => none
def vboxC (N : Nat) (z : Nat × Nat) (k : Co ρ) : Co ρ := rdS z.1 fun v => match v with
  | .agg xs => outT N (some z.2) (.va xs) k
  | _ => no 302
def op0 (E : En) (dr : Bool) (o : Oper) (k : Co ρ) : Co ρ := match dr, vboxOp E o with
  | false, some z => vboxC E.N z k
  | _, _ => opT E.N E.P o k
noncomputable def op1 (E : En) (dr : Bool) (o : Oper) (k : Co ρ) : Co ρ := match dr, nilOp E.P o with
  | false, some z => nilC E.N z k
  | _, _ => op0 E dr o k
noncomputable def oneT (E : En) (rec : Rec) (dr : Bool) (all : Array Oper) (o : Oper) (k : Co ρ) : Co ρ := match guardOf all o with
    | none => match isCall o with
      | true => callX E rec dr o k
      | false => op1 E dr o k
    | some (some d, w) => rdS d fun v => match v with
      | .c ⟨.bool, _, r⟩ => iteC (match w with
          | true => r
          | false => bnot r)
        (knowT d w (match isCall o with
          | true => callX E rec dr o k
          | false => op1 E dr o k))
        (knowT d (!w) (outT E.N o.dst (.tup []) k))
      | .tup [] => outT E.N o.dst (.tup []) k
      | _ => no 150
    | some (none, _) => no 151
noncomputable def opsT (E : En) (rec : Rec) (dr : Bool) (fx : List (Nat × Bool × Nat × Bool)) (all : Array Oper) : List Oper → Co ρ → Co ρ
  | [], k => k
  | o :: rest, k => fixL E.N (fxOf fx false o.dst) (oneT E rec dr all o (fixL E.N (fxOf fx true o.dst) (opsT E rec dr fx all rest k)))
def calmN (n : Nm) (v : TV) : Bool := calmT (fun m _ => !nmEq m n) (fun m _ => !nmEq m n) v
def calmG (d : Nat) (v : TV) : Bool := calmT (fun m _ => !goneN d m) (fun m _ => !goneN d m) v
def calmK (n : Nm) (v : TV) : Bool := calmT (fun m _ => !nmEq m n) (fun m p => !nmEq m n || p.r.isEmpty) v
def Ft.nc : Ft → Ft → Bool
  | .rS t _, .wS u _ => !Nat.beq t u
  | .rX t _ _, .wS u _ => !Nat.beq t u
  | .wS t _, .rX u _ _ => !Nat.beq t u
  | .rX _ _ v, .kl n => calmN n v
  | .kl n, .rX _ _ v => calmN n v
  | .rX _ _ v, .gn d => calmG d v
  | .gn d, .rX _ _ v => calmG d v
  | .wS t _, .rS u _ => !Nat.beq t u
  | .wS t _, .wS u _ => !Nat.beq t u
  | .rS _ v, .kl n => calmN n v
  | .kl n, .rS _ v => calmN n v
  | .wS _ v, .kl n => calmN n v
  | .kl n, .wS _ v => calmN n v
  | .rB n, .wB m => !nmEq n m
  | .wB n, .rB m => !nmEq n m
  | .wB n, .wB m => !nmEq n m
  | .rS _ v, .gn d => calmG d v
  | .gn d, .rS _ v => calmG d v
  | .wS _ v, .gn d => calmG d v
  | .gn d, .wS _ v => calmG d v
  | .rS _ v, .km n => calmK n v
  | .km n, .rS _ v => calmK n v
  | .rX _ _ v, .km n => calmK n v
  | .km n, .rX _ _ v => calmK n v
  | .wS _ v, .km n => calmK n v
  | .km n, .wS _ v => calmK n v
  | .rB n, .gn d => !goneN d n
  | .gn d, .rB n => !goneN d n
  | .wB n, .gn d => !goneN d n
  | .gn d, .wB n => !goneN d n
  | _, _ => true
def ncL (x : Ft) : List Ft → Bool
  | [] => true
  | y :: l => x.nc y && ncL x l
def ncLL : List Ft → List Ft → Bool
  | [], _ => true
  | x :: l, l' => ncL x l' && ncLL l l'
def ncOne (ops : Array Oper) (i : Nat) (l : List Ft) : List (Nat × List Ft) → Bool
  | [] => true
  | (j, l') :: ls => (anc ops j ops.size i || ncLL l' l) && ncOne ops i l ls
def ncAll (ops : Array Oper) : List (Nat × List Ft) → Bool
  | [] => true
  | (i, l) :: ls => ncOne ops i l ls && ncAll ops ls
def memN (i : Nat) : List Nat → Bool
  | [] => false
  | j :: l => Nat.beq i j || memN i l
def delN (i : Nat) : List Nat → List Nat
  | [] => []
  | j :: l => match Nat.beq i j with
    | true => l
    | false => j :: delN i l
def bindsB (e : Edge) : Bool := match e.ground with
  | .textOnly _ => false
  | .gcOnly _ => false
  | _ => true
def noneN (left : List Nat) : List Edge → Bool
  | [] => true
  | e :: es => (!bindsB e || !memN e.on left) && noneN left es
def readyN (ops : Array Oper) (left : List Nat) : List Nat → Option Nat
  | [] => none
  | i :: l => match ops[i]? with
    | some o => match noneN left o.after.toList with
      | true => some i
      | false => readyN ops left l
    | none => none
def topo (ops : Array Oper) : Nat → List Nat → List Nat
  | 0, _ => []
  | n + 1, left => match readyN ops left left with
    | some i => i :: topo ops n (delN i left)
    | none => []
def edgesOk (n i : Nat) (rest : List Nat) : List Edge → Bool
  | [] => true
  | e :: es => (!bindsB e || (Nat.blt e.on n && (!Nat.beq e.on i && !memN e.on rest))) && edgesOk n i rest es
def ordOk (ops : Array Oper) : List Nat → Bool
  | [] => true
  | i :: rest => (Nat.blt i ops.size && !memN i rest) && (match ops[i]? with
    | some o => edgesOk ops.size i rest o.after.toList
    | none => false) && ordOk ops rest
def coverN (ord : List Nat) : Nat → Bool
  | 0 => true
  | n + 1 => memN n ord && coverN ord n
noncomputable def drawT (E : En) (rec : Rec) (all : Array Oper) : List Nat → List (Nat × List Ft) → Co ρ → Co ρ
  | [], acc, k => fun st => match ncAll all acc && (ordOk all (acc.reverse.map (·.1)) && (coverN (acc.map (·.1)) all.size && Nat.beq acc.length all.size)) with
    | true => k ⟨st.s, st.b, []⟩
    | false => fail 152
  | i :: rest, acc, k => fun st => match all[i]? with
    | some o => opsT E rec true [] all [o] (fun st' => drawT E rec all rest ((i, st'.lg) :: acc) k st') ⟨st.s, st.b, []⟩
    | none => fail 153
def natsTo : Nat → List Nat → List Nat
  | 0, l => l
  | n + 1, l => natsTo n (n :: l)
def upTo (body : Code) (id : Nat) : List Nat → Option (List Nat)
  | [] => none
  | _ :: q => match codeAt body q.reverse with
    | some (.block i _) => match Nat.beq i id with
      | true => some q
      | false => upTo body id q
    | _ => upTo body id q
noncomputable def runT (E : En) (rec : Rec) : Nat → Bool → Bool → List Nat → Co (R E.me.outS)
  | 0, _, _, _ => no 160
  | n + 1, first, true, q => match codeAt E.body q.reverse with
    | some .skip => runT E rec n false false q
    | some .ret => endC E
    | some (.seq _ _) => runT E rec n false true (0 :: q)
    | some (.block _ _) => runT E rec n false true (0 :: q)
    | some (.loop _) => runT E rec n false true (0 :: q)
    | some (.cond (.tmp t) _ _) => rdS t fun v => match v with
      | .c ⟨.bool, _, r⟩ => iteC r (knowT t true (runT E rec n false true (0 :: q))) (knowT t false (runT E rec n false true (1 :: q)))
      | _ => no 161
    | some (.cond (.const (.bool true)) _ _) => runT E rec n false true (0 :: q)
    | some (.cond (.const (.bool false)) _ _) => runT E rec n false true (1 :: q)
    | some (.exit id) => match upTo E.body id q with
      | some p => runT E rec n false false p
      | none => no 162
    | some (.region _ ops false) => match !first && isCut E.me.i q (E.tb E.f) with
      | true => jump E rec q
      | false => opsT E rec false E.me.fx ops ops.toList (runT E rec n false false q)
    | some (.region _ ops true) => match !first && isCut E.me.i q (E.tb E.f) with
      | true => jump E rec q
      | false => fixL E.N (fxAll E.me.fx false ops.toList) (drawT E rec ops (topo ops ops.size (natsTo ops.size [])) [] (fixL E.N (fxAll E.me.fx true ops.toList) (runT E rec n false false q)))
    | _ => no 163
  | n + 1, _, false, q => match q with
    | [] => endC E
    | 0 :: p => match codeAt E.body p.reverse with
      | some (.seq _ _) => runT E rec n false true (1 :: p)
      | some (.block _ _) => runT E rec n false false p
      | some (.loop _) => runT E rec n false true (0 :: p)
      | some (.cond _ _ _) => runT E rec n false false p
      | _ => no 164
    | 1 :: p => match codeAt E.body p.reverse with
      | some (.seq _ _) => runT E rec n false false p
      | some (.cond _ _ _) => runT E rec n false false p
      | _ => no 165
    | _ => no 166
end
def envOf (P : Program) (tb : Nat → List Lb) (l : Lb) : Option En := match P.funcs[l.f]? with
  | some fn => match fn.body with
    | some c => some ⟨P, fn.ntmps, l.f, c, fn.results.toList, tb, l⟩
    | none => none
  | none => none
def entryOk (l : Lb) (N : Nat) : Bool := match l.q with
  | none => Nat.ble l.args.length N
  | some _ => true
noncomputable def stepF (P : Program) (tb : Nat → List Lb) (rec : Rec) (l : Lb) (x : R l.inS) : Res (R l.outS) := match P.funcs[l.f]? with
  | some fn => match fn.body with
    | some c => match entryOk l fn.ntmps with
      | true => (runT ⟨P, fn.ntmps, l.f, c, fn.results.toList, tb, l⟩ rec 4000 true true (match l.q with
        | none => []
        | some q => q)) (l.start x)
      | false => fail 172
    | none => fail 170
  | none => fail 171
end Go.Proofs.Ytoingpfepfhgkaa.TM
namespace Go.Proofs.Ytoingpfepfhgkaa.TM
open Go
def lis (row : List ST) (l : V (.sl row)) : List (R row) := l
mutual
def encT : (t : ST) → Fg → V t → T
  | .int k, _, n => .v (.int k n)
  | .bool, _, x => .v (.bool x)
  | .str, _, l => .v (.string ⟨List.toArray (α := UInt8) l⟩)
  | .sl row, .sl f fs, l => .sl f ((lis row l).map fun e => encR row fs e)
  | .sl _, _, _ => .sl .own []
  | .pt row, .pt f fs, x => .pt f (encR row fs x)
  | .pt _, _, _ => .hole
  | .fn g caps, .fn fs, x => .fn (.func g) (encR caps fs x)
  | .fn _ _, _, _ => .hole
  | .hole, _, _ => .hole
def encR : (r : List ST) → List Fg → R r → List T
  | [], _, _ => []
  | t :: r, f :: fs, x => encT t f (headR t r x) :: encR r fs (tailR t r x)
  | _ :: _, [], _ => []
end
def Cl.enc (c : Cl) : T := encT c.t c.f c.x
def encs (cs : List Cl) : List T := cs.map Cl.enc
theorem encs_cellsOf : ∀ (r : List ST) (fs : List Fg) (x : R r), encs (cellsOf r fs x) = encR r fs x
  | [], _, _ => by simp [cellsOf, encR, encs]
  | t :: r, f :: fs, x => by
    have := encs_cellsOf r fs (tailR t r x)
    simp only [encs] at this
    simp [cellsOf, encR, encs, this, Cl.enc]
  | _ :: _, [], _ => by simp [cellsOf, encR, encs]
theorem head_cons (t : ST) : ∀ (r : List ST) (a : V t) (b : R r), headR t r (consR t r a b) = a
  | [], _, _ => rfl
  | _ :: _, _, _ => rfl
theorem tail_cons (t : ST) : ∀ (r : List ST) (a : V t) (b : R r), tailR t r (consR t r a b) = b
  | [], _, _ => rfl
  | _ :: _, _, _ => rfl
def pthL (p : Pth) : List Nat := p.c0 :: p.r.flatMap fun x => [x.1, x.2]
mutual
def RelV (Q : Nm → Pth → Nat → Prop) : TV → LV → Prop
  | .c x, v => v = .t x.enc
  | .ref n p none, v => ∃ hi, v = .ref n (pthL p) 0 hi ∧ Q n p hi
  | .ref n p (some (lo, hi)), v => v = .ref n (pthL p) lo hi ∧ lo ≤ hi ∧ ∃ L, hi ≤ L ∧ Q n p L
  | .addr n p, v => v = .addr n (pthL p)
  | .raddr cs, v => v = .raddr (encs cs)
  | .agg xs, v => ∃ vs, v = .agg vs ∧ RelVs Q xs vs
  | .tup xs, v => ∃ vs, v = .tup vs ∧ RelVs Q xs vs
  | .fn g xs, v => ∃ vs, v = .fn (.func g) vs ∧ RelVs Q xs vs
  | .va xs, v => ∃ vs, v = .va vs ∧ RelVs Q xs vs
  | .dead, _ => True
def RelVs (Q : Nm → Pth → Nat → Prop) : List TV → List LV → Prop
  | [], vs => vs = []
  | _ :: _, [] => False
  | x :: xs, v :: vs => RelV Q x v ∧ RelVs Q xs vs
end
def Qs (b : Nm → Box) (n : Nm) (p : Pth) (hi : Nat) : Prop := ∃ es r, rowAt (b n).cells (pthL p) = some (.sl .own es :: r) ∧ hi = es.length
def Qw (b : Nm → Box) (n : Nm) (p : Pth) (hi : Nat) : Prop := ∀ es r, rowAt (b n).cells (pthL p) = some (.sl .own es :: r) → hi = es.length
def Qt (_ : Nm) (_ : Pth) (_ : Nat) : Prop := True
theorem Qs.w {b : Nm → Box} {n : Nm} {p : Pth} {hi : Nat} (h : Qs b n p hi) : Qw b n p hi := by
  obtain ⟨es, r, h1, h2⟩ := h
  intro es' r' h'
  rw [h1] at h'
  cases h'
  exact h2
structure Rel (vs : VS) (st : St) : Prop where
  s : ∀ t, RelV (Qs st.b) (lookS vs.s t) (st.s t)
  b : ∀ n x, lookB vs.b n = some x → (st.b n).real = x.real ∧ (st.b n).cells = encs x.cells
theorem Rel.lg {vs : VS} {st : St} (R : Rel vs st) (lg : List Ft) : Rel ⟨vs.s, vs.b, lg⟩ st := ⟨R.s, R.b⟩
mutual
theorem RelV.mono {Q Q' : Nm → Pth → Nat → Prop} (hq : ∀ n p hi, Q n p hi → Q' n p hi) : ∀ (v : TV) (lv : LV), RelV Q v lv → RelV Q' v lv
  | .c x, lv, h => by simp only [RelV] at *; exact h
  | .ref m q none, lv, h => by
    simp only [RelV] at *
    obtain ⟨hi, h1, h2⟩ := h
    exact ⟨hi, h1, hq _ _ _ h2⟩
  | .ref m q (some (lo, hi)), lv, h => by
    simp only [RelV] at *
    obtain ⟨h1, h2, L, h3, h4⟩ := h
    exact ⟨h1, h2, L, h3, hq _ _ _ h4⟩
  | .addr m q, lv, h => by simp only [RelV] at *; exact h
  | .raddr cs, lv, h => by simp only [RelV] at *; exact h
  | .agg xs, lv, h => by
    simp only [RelV] at *
    obtain ⟨vs, h1, h2⟩ := h
    exact ⟨vs, h1, RelVs.mono hq xs vs h2⟩
  | .tup xs, lv, h => by
    simp only [RelV] at *
    obtain ⟨vs, h1, h2⟩ := h
    exact ⟨vs, h1, RelVs.mono hq xs vs h2⟩
  | .va xs, lv, h => by
    simp only [RelV] at *
    obtain ⟨vs, h1, h2⟩ := h
    exact ⟨vs, h1, RelVs.mono hq xs vs h2⟩
  | .fn g xs, lv, h => by
    simp only [RelV] at *
    obtain ⟨vs, h1, h2⟩ := h
    exact ⟨vs, h1, RelVs.mono hq xs vs h2⟩
  | .dead, lv, h => by simp only [RelV]
theorem RelVs.mono {Q Q' : Nm → Pth → Nat → Prop} (hq : ∀ n p hi, Q n p hi → Q' n p hi) : ∀ (xs : List TV) (vs : List LV), RelVs Q xs vs → RelVs Q' xs vs
  | [], vs, h => by simp only [RelVs] at *; exact h
  | x :: xs, [], h => by simp only [RelVs] at h
  | x :: xs, v :: vs, h => by
    simp only [RelVs] at *
    exact ⟨RelV.mono hq x v h.1, RelVs.mono hq xs vs h.2⟩
end
theorem RelV.w {b : Nm → Box} {v : TV} {lv : LV} (h : RelV (Qs b) v lv) : RelV (Qw b) v lv := RelV.mono (fun _ _ _ h => h.w) v lv h
theorem RelVs.w {b : Nm → Box} {v : List TV} {lv : List LV} (h : RelVs (Qs b) v lv) : RelVs (Qw b) v lv := RelVs.mono (fun _ _ _ h => h.w) v lv h
theorem RelV.t {Q : Nm → Pth → Nat → Prop} {v : TV} {lv : LV} (h : RelV Q v lv) : RelV Qt v lv := RelV.mono (fun _ _ _ _ => trivial) v lv h
def Cov : Ft → Ac → Prop
  | .rS t v, .rS u lv => t = u ∧ RelV Qt v lv
  | .rX t i v, .rX u j lv => t = u ∧ i = j ∧ RelV Qt v lv
  | .rB n, .rB m _ => n = m
  | .wS t v, .wS u lv => t = u ∧ RelV Qt v lv
  | .wB n, .wB m _ => n = m
  | .kl n, .kl m _ => n = m
  | .gn d, .gn e => d = e
  | .km n, .km m => n = m
  | _, _ => False
def Covers (l : List Ac) (lg lg' : List Ft) : Prop := ∃ d, lg' = d ++ lg ∧ ∀ a ∈ l, ∃ f ∈ d, Cov f a
theorem nm_eq {n m : Nm} : nmEq n m = true ↔ n = m := by
  obtain ⟨a, b⟩ := n
  obtain ⟨c, d⟩ := m
  simp [nmEq]
theorem Covers.nil {lg : List Ft} : Covers [] lg lg := ⟨[], rfl, by simp⟩
theorem Covers.trans {l1 l2 : List Ac} {a b c : List Ft} (h1 : Covers l1 a b) (h2 : Covers l2 b c) : Covers (l1 ++ l2) a c := by
  obtain ⟨d1, rfl, h1⟩ := h1
  obtain ⟨d2, rfl, h2⟩ := h2
  refine ⟨d2 ++ d1, by simp, fun x hx => ?_⟩
  rcases List.mem_append.1 hx with hx | hx
  · obtain ⟨f, hf, hc⟩ := h1 x hx
    exact ⟨f, by simp [hf], hc⟩
  · obtain ⟨f, hf, hc⟩ := h2 x hx
    exact ⟨f, by simp [hf], hc⟩
theorem Covers.one {a : Ac} {f : Ft} {lg : List Ft} (h : Cov f a) : Covers [a] lg (f :: lg) := ⟨[f], rfl, by
  intro x hx
  simp at hx
  subst hx
  exact ⟨f, by simp, h⟩⟩
structure Go1 {γ : Type} (N : Nat) (vs : VS) (st : St) (m : M γ) (vs' : VS) (st' : St) (m' : M γ) : Prop where
  rel : Rel vs' st'
  run : ∃ l, m.runT N st = (m'.runT N st').map (fun (a, s, l') => (a, s, l ++ l')) ∧ Covers l vs.lg vs'.lg
section
variable {γ : Type} {N : Nat} {vs vs' vs'' : VS} {st st' st'' : St} {m m' m'' : M γ}
theorem Go1.refl (h : Rel vs st) : Go1 N vs st m vs st m := ⟨h, [], by simp, .nil⟩
theorem Go1.skip {d : List Ft} (h : Rel vs' st) (hd : vs'.lg = d ++ vs.lg) : Go1 N vs st m vs' st m := ⟨h, [], by simp, d, hd, by simp⟩
theorem Go1.trans (h1 : Go1 N vs st m vs' st' m') (h2 : Go1 N vs' st' m' vs'' st'' m'') : Go1 N vs st m vs'' st'' m'' := by
  obtain ⟨_, l1, e1, c1⟩ := h1
  obtain ⟨r2, l2, e2, c2⟩ := h2
  refine ⟨r2, l1 ++ l2, ?_, c1.trans c2⟩
  rw [e1, e2]
  cases m''.runT N st'' <;> simp
theorem go_rdS {t : Nat} {k : LV → M γ} (h : Rel vs st) : Go1 N vs st (.rdS t k) ⟨vs.s, vs.b, .rS t (lookS vs.s t) :: vs.lg⟩ st (k (st.s t)) :=
  ⟨⟨h.s, h.b⟩, [.rS t (st.s t)], by simp only [M.runT]; cases (k (st.s t)).runT N st <;> rfl, .one (f := .rS t (lookS vs.s t)) ⟨rfl, (h.s t).t⟩⟩
theorem go_rdB {n : Nm} {k : Box → M γ} (h : Rel vs st) : Go1 N vs st (.rdB n k) ⟨vs.s, vs.b, .rB n :: vs.lg⟩ st (k (st.b n)) :=
  ⟨⟨h.s, h.b⟩, [.rB n (st.b n)], by simp only [M.runT]; cases (k (st.b n)).runT N st <;> rfl, .one (f := .rB n) rfl⟩
theorem go_wrS {t : Nat} {v : TV} {lv : LV} (h : Rel vs st) (ht : t < N) (hv : RelV (Qs st.b) v lv) :
    Go1 N vs st (.wrS t lv m) ⟨(t, v) :: vs.s, vs.b, .wS t v :: vs.lg⟩ ⟨fun u => if u = t then lv else st.s u, st.b⟩ m := by
  refine ⟨⟨fun u => ?_, h.b⟩, [.wS t lv], ?_, .one (f := .wS t v) ⟨rfl, hv.t⟩⟩
  · simp only [lookS]
    by_cases hu : u = t
    · subst hu
      simp [hv]
    · have : Nat.beq t u = false := by
        cases hb : Nat.beq t u with
        | false => rfl
        | true => exact absurd (Nat.eq_of_beq_eq_true hb).symm hu
      simp only [this, if_neg hu]
      exact h.s u
  · simp only [M.runT, ht, if_true]
    cases m.runT N _ <;> rfl
end
theorem pthL_prefix {p q : Pth} (h : pthL p <+: pthL q) : p.c0 = q.c0 ∧ p.r.length ≤ q.r.length := by
  have hl := h.length_le
  have e : ∀ l : List (X × Nat), (l.flatMap fun x => [x.1, x.2]).length = 2 * l.length := by
    intro l
    induction l with
    | nil => rfl
    | cons x l ih => simp [List.flatMap_cons, ih]; omega
  simp only [pthL, List.length_cons, e] at hl
  refine ⟨?_, by omega⟩
  obtain ⟨t, ht⟩ := h
  simp [pthL] at ht
  exact ht.1
theorem leads_of {p q : Pth} (h : pthL p <+: pthL q) : leads p q = true := by
  obtain ⟨h1, h2⟩ := pthL_prefix h
  unfold leads
  split
  · simp [h1]
  · simp [h1]
  · simp only [Bool.and_eq_true, Nat.beq_eq, h1, true_and]
    exact Nat.ble_eq_true_of_le h2
theorem pthL_len (p : Pth) : (pthL p).length = 1 + 2 * p.r.length := by
  have e : ∀ l : List (X × Nat), (l.flatMap fun x => [x.1, x.2]).length = 2 * l.length := by
    intro l
    induction l with
    | nil => rfl
    | cons x l ih => simp [List.flatMap_cons, ih]; omega
  simp only [pthL, List.length_cons, e]
  omega
mutual
theorem RelV.kill {Q : Nm → Pth → Nat → Prop} (n : Nm) (p : Pth) : ∀ (v : TV) (lv : LV), RelV Q v lv → RelV (fun m q hi => Q m q hi ∧ ¬ (m = n ∧ pthL p <+: pthL q)) (killT n p v) (killV n (pthL p) lv)
  | .c x, lv, h => by simp only [RelV] at h; subst h; simp only [killT, killV, RelV]
  | .ref m q none, lv, h => by
    simp only [RelV] at h
    obtain ⟨hi, rfl, h⟩ := h
    rw [killT, killV]
    split
    · simp only [RelV]
    · rename_i hc
      have hn : ¬ (m = n ∧ pthL p <+: pthL q) := by
        rintro ⟨h1, h2⟩
        rw [nm_eq.2 h1, leads_of h2] at hc
        cases hc
      rw [if_neg (fun h => hn ⟨h.1, List.isPrefixOf_iff_prefix.1 h.2⟩)]
      simp only [RelV]
      exact ⟨hi, rfl, h, hn⟩
  | .ref m q (some (lo, hi)), lv, h => by
    simp only [RelV] at h
    obtain ⟨rfl, h2, L, h3, h4⟩ := h
    rw [killT, killV]
    split
    · simp only [RelV]
    · rename_i hc
      have hn : ¬ (m = n ∧ pthL p <+: pthL q) := by
        rintro ⟨h1, h2⟩
        rw [nm_eq.2 h1, leads_of h2] at hc
        cases hc
      rw [if_neg (fun h => hn ⟨h.1, List.isPrefixOf_iff_prefix.1 h.2⟩)]
      simp only [RelV]
      exact ⟨trivial, h2, L, h3, h4, hn⟩
  | .addr m q, lv, h => by
    simp only [RelV] at h
    subst h
    rw [killT, killV]
    split
    · simp only [RelV]
    · rename_i hc
      rw [if_neg]
      · simp only [RelV]
      rintro ⟨h1, h2, h3⟩
      rw [pthL_len, pthL_len] at h3
      have : Nat.blt p.r.length q.r.length = true := by
        simp only [Nat.blt_eq]; omega
      rw [nm_eq.2 h1, leads_of (List.isPrefixOf_iff_prefix.1 h2), this] at hc
      cases hc
  | .raddr cs, lv, h => by
    simp only [RelV] at h
    subst h
    simp only [killT, killV, RelV]
  | .agg xs, lv, h => by
    simp only [RelV] at h
    obtain ⟨vs, rfl, h⟩ := h
    simp only [killT, killV, RelV]
    exact ⟨_, rfl, RelVs.kill n p xs vs h⟩
  | .tup xs, lv, h => by
    simp only [RelV] at h
    obtain ⟨vs, rfl, h⟩ := h
    simp only [killT, killV, RelV]
    exact ⟨_, rfl, RelVs.kill n p xs vs h⟩
  | .va xs, lv, h => by
    simp only [RelV] at h
    obtain ⟨vs, rfl, h⟩ := h
    simp only [killT, killV, RelV]
    exact ⟨_, rfl, RelVs.kill n p xs vs h⟩
  | .fn g xs, lv, h => by
    simp only [RelV] at h
    obtain ⟨vs, rfl, h⟩ := h
    simp only [killT, killV, RelV]
    exact ⟨_, rfl, RelVs.kill n p xs vs h⟩
  | .dead, lv, h => by simp only [killT, RelV]
theorem RelVs.kill {Q : Nm → Pth → Nat → Prop} (n : Nm) (p : Pth) : ∀ (xs : List TV) (vs : List LV), RelVs Q xs vs → RelVs (fun m q hi => Q m q hi ∧ ¬ (m = n ∧ pthL p <+: pthL q)) (killTs n p xs) (killVs n (pthL p) vs)
  | [], vs, h => by simp only [RelVs] at h; subst h; simp only [killTs, killVs, RelVs]
  | x :: xs, [], h => by simp only [RelVs] at h
  | x :: xs, v :: vs, h => by
    simp only [RelVs] at h
    simp only [killTs, killVs, RelVs]
    exact ⟨RelV.kill n p x v h.1, RelVs.kill n p xs vs h.2⟩
end
mutual
theorem RelV.killA {Q : Nm → Pth → Nat → Prop} (n : Nm) : ∀ (v : TV) (lv : LV), RelV Q v lv → RelV (fun m q hi => Q m q hi ∧ m ≠ n) (Go.Proofs.Ytoingpfepfhgkaa.TM.killA n v) (killV n [] lv)
  | .c x, lv, h => by simp only [RelV] at h; subst h; simp only [Go.Proofs.Ytoingpfepfhgkaa.TM.killA, killV, RelV]
  | .ref m q none, lv, h => by
    simp only [RelV] at h
    obtain ⟨hi, rfl, h⟩ := h
    rw [Go.Proofs.Ytoingpfepfhgkaa.TM.killA, killV]
    split
    · simp only [RelV]
    · rename_i hc
      have hn : m ≠ n := by
        intro h1
        rw [nm_eq.2 h1] at hc
        cases hc
      rw [if_neg (fun h => hn h.1)]
      simp only [RelV]
      exact ⟨hi, rfl, h, hn⟩
  | .ref m q (some (lo, hi)), lv, h => by
    simp only [RelV] at h
    obtain ⟨rfl, h2, L, h3, h4⟩ := h
    rw [Go.Proofs.Ytoingpfepfhgkaa.TM.killA, killV]
    split
    · simp only [RelV]
    · rename_i hc
      have hn : m ≠ n := by
        intro h1
        rw [nm_eq.2 h1] at hc
        cases hc
      rw [if_neg (fun h => hn h.1)]
      simp only [RelV]
      exact ⟨trivial, h2, L, h3, h4, hn⟩
  | .addr m q, lv, h => by
    simp only [RelV] at h
    subst h
    rw [Go.Proofs.Ytoingpfepfhgkaa.TM.killA, killV]
    split
    · simp only [RelV]
    · rename_i hc
      rw [if_neg]
      · simp only [RelV]
      rintro ⟨h1, _⟩
      rw [nm_eq.2 h1] at hc
      cases hc
  | .raddr cs, lv, h => by
    simp only [RelV] at h
    subst h
    simp only [Go.Proofs.Ytoingpfepfhgkaa.TM.killA, killV, RelV]
  | .agg xs, lv, h => by
    simp only [RelV] at h
    obtain ⟨vs, rfl, h⟩ := h
    simp only [Go.Proofs.Ytoingpfepfhgkaa.TM.killA, killV, RelV]
    exact ⟨_, rfl, RelVs.killA n xs vs h⟩
  | .tup xs, lv, h => by
    simp only [RelV] at h
    obtain ⟨vs, rfl, h⟩ := h
    simp only [Go.Proofs.Ytoingpfepfhgkaa.TM.killA, killV, RelV]
    exact ⟨_, rfl, RelVs.killA n xs vs h⟩
  | .va xs, lv, h => by
    simp only [RelV] at h
    obtain ⟨vs, rfl, h⟩ := h
    simp only [Go.Proofs.Ytoingpfepfhgkaa.TM.killA, killV, RelV]
    exact ⟨_, rfl, RelVs.killA n xs vs h⟩
  | .fn g xs, lv, h => by
    simp only [RelV] at h
    obtain ⟨vs, rfl, h⟩ := h
    simp only [Go.Proofs.Ytoingpfepfhgkaa.TM.killA, killV, RelV]
    exact ⟨_, rfl, RelVs.killA n xs vs h⟩
  | .dead, lv, h => by simp only [Go.Proofs.Ytoingpfepfhgkaa.TM.killA, RelV]
theorem RelVs.killA {Q : Nm → Pth → Nat → Prop} (n : Nm) : ∀ (xs : List TV) (vs : List LV), RelVs Q xs vs → RelVs (fun m q hi => Q m q hi ∧ m ≠ n) (killAs n xs) (killVs n [] vs)
  | [], vs, h => by simp only [RelVs] at h; subst h; simp only [killAs, killVs, RelVs]
  | x :: xs, [], h => by simp only [RelVs] at h
  | x :: xs, v :: vs, h => by
    simp only [RelVs] at h
    simp only [killAs, killVs, RelVs]
    exact ⟨RelV.killA n x v h.1, RelVs.killA n xs vs h.2⟩
end
theorem look_killS (f : TV → TV) (hf : f .dead = .dead) : ∀ (l : List (Nat × TV)) (t : Nat), lookS (killS f l) t = f (lookS l t)
  | [], t => by simp [killS, lookS, hf]
  | (u, v) :: l, t => by
    simp only [killS, lookS]
    cases Nat.beq u t with
    | true => rfl
    | false => exact look_killS f hf l t
theorem encs_drop (cs : List Cl) (c : Nat) : (encs cs).drop c = encs (cs.drop c) := by simp [encs]
theorem encs_set (cs : List Cl) (c : Nat) (x : Cl) : (encs cs).set c x.enc = encs (cs.set c x) := by simp [encs, List.map_set]
theorem encs_take (cs : List Cl) (c : Nat) : (encs cs).take c = encs (cs.take c) := by simp [encs]
def pthR (r : List (X × Nat)) : List Nat := r.flatMap fun x => [x.1, x.2]
theorem pthL_eq (p : Pth) : pthL p = p.c0 :: pthR p.r := rfl
theorem atN_some {ρ α : Type} {l : List α} {i : Nat} {k : α → Option ρ} {r : ρ} (h : atN l i k = some r) : ∃ e, l[i]? = some e ∧ k e = some r := by
  unfold atN at h
  split at h
  · exact ⟨_, by assumption, h⟩
  · cases h
theorem enc_sl {row : List ST} {f : Fl} {fs : List Fg} {l : V (.sl row)} : (Cl.mk (.sl row) (.sl f fs) l).enc = .sl f ((lis row l).map fun e => encR row fs e) := rfl
theorem getAt_ref {ρ : Type} : ∀ (r : List (X × Nat)) (cs : List Cl) (c : Nat) {k : List Cl → Res ρ} {y : ρ}, getAt cs c r k = some y →
    ∃ row, k row = some y ∧ rowAt (encs cs) (c :: pthR r) = some (encs row)
  | [], cs, c, k, y, h => ⟨cs.drop c, h, by simp [pthR, rowAt, encs_drop]⟩
  | (i, c') :: r, cs, c, k, y, h => by
    simp only [getAt] at h
    split at h
    · rename_i row fs l rest hdr
      unfold lgetN at h
      obtain ⟨e, he, hk⟩ := atN_some h
      obtain ⟨row', h1, h2⟩ := getAt_ref r _ c' hk
      refine ⟨row', h1, ?_⟩
      have hd : (encs cs).drop c = .sl .own ((lis row l).map fun e => encR row fs e) :: encs rest := by
        rw [encs_drop, hdr]; rfl
      show rowAt (encs cs) (c :: i :: (c' :: pthR r)) = _
      simp only [rowAt, hd]
      have he' : ((lis row l).map fun e => encR row fs e)[i]? = some (encR row fs e) := by
        rw [List.getElem?_map, show (lis row l)[i]? = some e from he]; rfl
      rw [he']
      simp only
      rw [← encs_cellsOf]
      exact h2
    · cases h
theorem rowAt_setAt : ∀ (p q : List Nat) {cs cs' : List T} {x : T} {es : List (List T)} {r : List T}, setAt cs p x = some cs' → ¬ p <+: q → rowAt cs q = some (.sl .own es :: r) →
    ∃ es' r', rowAt cs' q = some (.sl .own es' :: r') ∧ es'.length = es.length
  | [], _, _, _, _, _, _, h, _, _ => by simp [setAt] at h
  | [c], q, cs, cs', x, es, r, h, hp, hr => by
    obtain ⟨hc, rfl⟩ := setAt_lt h
    match q, hr with
    | [], hr => simp [rowAt] at hr
    | [d], hr =>
      have hcd : c ≠ d := fun e => hp (by subst e; exact List.prefix_refl _)
      simp only [rowAt, Option.some.injEq] at hr
      have hd := drop_head hr
      have : (cs.set c x)[d]? = some (.sl .own es) := by rw [List.getElem?_set, if_neg hcd]; exact hd
      exact ⟨es, _, by simp only [rowAt]; rw [head_drop this], rfl⟩
    | d :: i :: rest, hr =>
      have hcd : c ≠ d := fun e => hp (by subst e; exact ⟨i :: rest, rfl⟩)
      simp only [rowAt] at hr
      split at hr
      · rename_i es0 r0 hdr
        have hd := drop_head hdr
        have : (cs.set c x)[d]? = some (.sl .own es0) := by rw [List.getElem?_set, if_neg hcd]; exact hd
        refine ⟨es, r, ?_, rfl⟩
        simp only [rowAt]
        rw [head_drop this]
        exact hr
      · cases hr
  | c :: i :: rest, q, cs, cs', x, es, r, h, hp, hr => by
    simp only [setAt] at h
    split at h
    · rename_i es0 r0 hdr
      split at h
      · rename_i e he
        split at h
        · rename_i e' he'
          cases h
          have hd0 := drop_head hdr
          have hclt : c < cs.length := (List.getElem?_eq_some_iff.1 hd0).1
          match q, hr with
          | [], hr => simp [rowAt] at hr
          | [d], hr =>
            simp only [rowAt, Option.some.injEq] at hr
            have hd := drop_head hr
            by_cases hcd : c = d
            · subst hcd
              obtain rfl : es0 = es := by rw [hd0] at hd; simpa using hd
              have : (cs.set c (.sl .own (es0.set i e')))[c]? = some (.sl .own (es0.set i e')) := by simp [hclt]
              exact ⟨es0.set i e', _, by simp only [rowAt]; rw [head_drop this], by simp⟩
            · have : (cs.set c (.sl .own (es0.set i e')))[d]? = some (.sl .own es) := by rw [List.getElem?_set, if_neg hcd]; exact hd
              exact ⟨es, _, by simp only [rowAt]; rw [head_drop this], rfl⟩
          | d :: j :: rest', hr =>
            simp only [rowAt] at hr
            split at hr
            · rename_i es1 r1 hdr1
              have hd := drop_head hdr1
              by_cases hcd : c = d
              · subst hcd
                obtain rfl : es0 = es1 := by rw [hd0] at hd; simpa using hd
                split at hr
                · rename_i e1 he1
                  have : (cs.set c (.sl .own (es0.set i e')))[c]? = some (.sl .own (es0.set i e')) := by simp [hclt]
                  by_cases hij : i = j
                  · subst hij
                    rw [he] at he1
                    cases he1
                    obtain ⟨es2, r2, k1, k2⟩ := rowAt_setAt rest rest' he' (fun hpre => hp (List.cons_prefix_cons.2 ⟨rfl, List.cons_prefix_cons.2 ⟨rfl, hpre⟩⟩)) hr
                    refine ⟨es2, r2, ?_, k2⟩
                    have hilt : i < es0.length := (List.getElem?_eq_some_iff.1 he).1
                    simp only [rowAt]
                    rw [head_drop this]
                    simp only [List.getElem?_set, if_true, hilt]
                    exact k1
                  · refine ⟨es, r, ?_, rfl⟩
                    simp only [rowAt]
                    rw [head_drop this]
                    simp only [List.getElem?_set, if_neg hij, he1]
                    exact hr
                · cases hr
              · have : (cs.set c (.sl .own (es0.set i e')))[d]? = some (.sl .own es1) := by rw [List.getElem?_set, if_neg hcd]; exact hd
                refine ⟨es, r, ?_, rfl⟩
                simp only [rowAt]
                rw [head_drop this]
                exact hr
            · cases hr
        · cases h
      · cases h
    · cases h
theorem rowAt_hole : ∀ (q : List Nat) {cs : List T} {c : Nat} {es : List (List T)} {r : List T}, rowAt (cs.set c .hole) q = some (.sl .own es :: r) → ∃ r', rowAt cs q = some (.sl .own es :: r')
  | [], _, _, _, _, h => by simp [rowAt] at h
  | [d], cs, c, es, r, h => by
    simp only [rowAt, Option.some.injEq] at h
    have hd := drop_head h
    rw [List.getElem?_set] at hd
    split at hd
    · split at hd <;> cases hd
    · exact ⟨_, by simp only [rowAt]; rw [head_drop hd]⟩
  | d :: i :: rest, cs, c, es, r, h => by
    simp only [rowAt] at h
    split at h
    · rename_i es0 r0 hdr
      have hd := drop_head hdr
      rw [List.getElem?_set] at hd
      split at hd
      · split at hd <;> cases hd
      · refine ⟨r, ?_⟩
        simp only [rowAt]
        rw [head_drop hd]
        exact h
    · cases h
end Go.Proofs.Ytoingpfepfhgkaa.TM
namespace Go.Proofs.Ytoingpfepfhgkaa.TM
open Go
section
variable {ρ γ : Type} {N : Nat} {vs vs' : VS} {st st' : St} {m : M γ} {y : ρ}
def St.kb (st : St) (n : Nm) (p : List Nat) (x : Box) : St := ⟨fun u => killV n p (st.s u), fun k => if k = n then x else st.b k⟩
theorem map_id2 {α β δ : Type} {o : Option (α × β × List δ)} : o.map (fun (a, s, l') => (a, s, [] ++ l')) = o := by cases o <;> rfl
def SameB (p : Pth) (old new : List T) : Prop := ∀ (q : Pth) (es : List (List T)) (r : List T), ¬ pthL p <+: pthL q → rowAt old (pthL q) = some (.sl .own es :: r) → ∃ es' r', rowAt new (pthL q) = some (.sl .own es' :: r') ∧ es'.length = es.length
theorem rel_kb (R : Rel vs st) {n : Nm} {p : Pth} {x : VB} {lg : List Ft} (hs : SameB p (st.b n).cells (encs x.cells)) :
    Rel ⟨killS (killT n p) vs.s, (n, x) :: vs.b, lg⟩ (st.kb n (pthL p) ⟨x.real, encs x.cells⟩) := by
  refine ⟨fun t => ?_, fun k z hz => ?_⟩
  · rw [look_killS _ (by simp [killT])]
    refine RelV.mono (fun k q hi h => ?_) _ _ (RelV.kill n p _ _ (R.s t))
    obtain ⟨⟨es, r, h1, h2⟩, h3⟩ := h
    by_cases hk : k = n
    · subst hk
      obtain ⟨es', r', k1, k2⟩ := hs q es r (fun hp => h3 ⟨rfl, hp⟩) h1
      exact ⟨es', r', by simpa [St.kb] using k1, by rw [h2, k2]⟩
    · exact ⟨es, r, by simpa [St.kb, hk] using h1, h2⟩
  · simp only [lookB] at hz
    by_cases hk : k = n
    · subst hk
      rw [nm_eq.2 rfl] at hz
      cases hz
      simp [St.kb]
    · have : nmEq n k = false := by
        cases h : nmEq n k with
        | false => rfl
        | true => exact absurd (nm_eq.1 h).symm hk
      rw [this] at hz
      simpa [St.kb, hk] using R.b k z hz
theorem go_killB (R : Rel vs st) {n : Nm} {p : Pth} {x : VB} (hs : SameB p (st.b n).cells (encs x.cells)) :
    Go1 N vs st (.kill n (pthL p) (.wrB n ⟨x.real, encs x.cells⟩ m)) ⟨killS (killT n p) vs.s, (n, x) :: vs.b, .wB n :: .kl n :: vs.lg⟩ (st.kb n (pthL p) ⟨x.real, encs x.cells⟩) m := by
  refine ⟨rel_kb R hs, [.kl n (pthL p), .wB n ⟨x.real, encs x.cells⟩], ?_, [.wB n, .kl n], rfl, ?_⟩
  · simp only [M.runT, St.kb]
    cases m.runT N _ <;> rfl
  · intro a ha
    simp only [List.mem_cons, List.not_mem_nil, or_false] at ha
    rcases ha with rfl | rfl
    · exact ⟨.kl n, by simp, rfl⟩
    · exact ⟨.wB n, by simp, rfl⟩
theorem go_Bkill (R : Rel vs st) {n : Nm} {p : Pth} {x : VB} (hs : SameB p (st.b n).cells (encs x.cells)) :
    Go1 N vs st (.wrB n ⟨x.real, encs x.cells⟩ (.kill n (pthL p) m)) ⟨killS (killT n p) vs.s, (n, x) :: vs.b, .kl n :: .wB n :: vs.lg⟩ (st.kb n (pthL p) ⟨x.real, encs x.cells⟩) m := by
  refine ⟨rel_kb R hs, [.wB n ⟨x.real, encs x.cells⟩, .kl n (pthL p)], ?_, [.kl n, .wB n], rfl, ?_⟩
  · simp only [M.runT, St.kb]
    cases m.runT N _ <;> rfl
  · intro a ha
    simp only [List.mem_cons, List.not_mem_nil, or_false] at ha
    rcases ha with rfl | rfl
    · exact ⟨.wB n, by simp, rfl⟩
    · exact ⟨.kl n, by simp, rfl⟩
theorem rowAt_thru : ∀ (p q : List Nat) {cs : List T} {old : T} {r0 : List T} {es : List (List T)} {r : List T}, rowAt cs p = some (old :: r0) → p <+: q → rowAt cs q = some (.sl .own es :: r) → ∃ es', old = .sl .own es'
  | [], _, _, _, _, _, _, h, _, _ => by simp [rowAt] at h
  | [c], [], _, _, _, _, _, _, h, _ => by simp at h
  | [c], [d], cs, old, r0, es, r, h1, h2, h3 => by
    obtain ⟨rfl, _⟩ := List.cons_prefix_cons.1 h2
    rw [h1] at h3
    cases h3
    exact ⟨es, rfl⟩
  | [c], d :: i :: rest, cs, old, r0, es, r, h1, h2, h3 => by
    obtain ⟨rfl, _⟩ := List.cons_prefix_cons.1 h2
    simp only [rowAt, Option.some.injEq] at h1
    simp only [rowAt, h1] at h3
    split at h3
    · rename_i es0 _ heq
      cases heq
      exact ⟨_, rfl⟩
    · cases h3
  | c :: i :: p, [], _, _, _, _, _, _, h, _ => by simp at h
  | c :: i :: p, [d], _, _, _, _, _, _, h, _ => by simp at h
  | c :: i :: p, d :: j :: q, cs, old, r0, es, r, h1, h2, h3 => by
    obtain ⟨e1, h4⟩ := List.cons_prefix_cons.1 h2
    obtain ⟨e2, h5⟩ := List.cons_prefix_cons.1 h4
    subst e1
    subst e2
    simp only [rowAt] at h1 h3
    split at h1
    · rename_i es0 _ hdr
      rw [hdr] at h3
      simp only at h3
      split at h1
      · rename_i e he
        rw [he] at h3
        exact rowAt_thru p q h1 h5 h3
      · cases h1
    · cases h1
theorem go_wrB (R : Rel vs st) {n : Nm} {p : Pth} {x : VB} {old : T} {r0 : List T} (hr : rowAt (st.b n).cells (pthL p) = some (old :: r0)) (ho : ∀ es, old ≠ .sl .own es) (hs : SameB p (st.b n).cells (encs x.cells)) :
    Go1 N vs st (.wrB n ⟨x.real, encs x.cells⟩ m) ⟨vs.s, (n, x) :: vs.b, .wB n :: vs.lg⟩ ⟨st.s, fun k => if k = n then ⟨x.real, encs x.cells⟩ else st.b k⟩ m := by
  refine ⟨⟨fun t => ?_, fun k z hz => ?_⟩, [.wB n ⟨x.real, encs x.cells⟩], ?_, .one (f := .wB n) rfl⟩
  · refine RelV.mono (fun k q hi h => ?_) _ _ (R.s t)
    obtain ⟨es, r, h1, h2⟩ := h
    by_cases hk : k = n
    · subst hk
      obtain ⟨es', r', k1, k2⟩ := hs q es r (fun hp => by
        obtain ⟨es', h⟩ := rowAt_thru _ _ hr hp h1
        exact ho es' h) h1
      exact ⟨es', r', by simpa using k1, by rw [h2, k2]⟩
    · exact ⟨es, r, by simpa [hk] using h1, h2⟩
  · simp only [lookB] at hz
    by_cases hk : k = n
    · subst hk
      rw [nm_eq.2 rfl] at hz
      cases hz
      simp
    · have : nmEq n k = false := by
        cases h : nmEq n k with
        | false => rfl
        | true => exact absurd (nm_eq.1 h).symm hk
      rw [this] at hz
      simpa [hk] using R.b k z hz
  · simp only [M.runT]
    cases m.runT N _ <;> rfl
theorem go_fresh (R : Rel vs st) {d : Nat} {x : VB} {k : Co ρ} (h : freshT d x k vs = some y) :
    ∃ vs', k vs' = some y ∧ Go1 N vs st (fresh d ⟨x.real, encs x.cells⟩ m) vs' ⟨fun u => killV (d, 0) [] (st.s u), fun k => if k = (d, 0) then ⟨x.real, encs x.cells⟩ else st.b k⟩ m := by
  refine ⟨_, h, ⟨⟨fun t => ?_, fun k z hz => ?_⟩, [.kl (d, 0) [], .wB (d, 0) ⟨x.real, encs x.cells⟩], ?_, [.wB (d, 0), .kl (d, 0)], rfl, ?_⟩⟩
  · simp only
    rw [look_killS _ (by simp [killA])]
    refine RelV.mono (fun k q hi h => ?_) _ _ (RelV.killA (d, 0) _ _ (R.s t))
    obtain ⟨⟨es, r, h1, h2⟩, h3⟩ := h
    exact ⟨es, r, by simpa [h3] using h1, h2⟩
  · simp only [lookB] at hz
    by_cases hk : k = (d, 0)
    · subst hk
      rw [nm_eq.2 rfl] at hz
      cases hz
      simp
    · have : nmEq (d, 0) k = false := by
        cases h : nmEq (d, 0) k with
        | false => rfl
        | true => exact absurd (nm_eq.1 h).symm hk
      rw [this] at hz
      simpa [hk] using R.b k z hz
  · simp only [fresh, M.runT]
    cases m.runT N _ <;> rfl
  · intro a ha
    simp only [List.mem_cons, List.not_mem_nil, or_false] at ha
    rcases ha with rfl | rfl
    · exact ⟨.kl (d, 0), by simp, rfl⟩
    · exact ⟨.wB (d, 0), by simp, rfl⟩
theorem own_enc {c : Cl} : c.own = true ↔ ∃ es, c.enc = .sl .own es := by
  obtain ⟨t, f, x⟩ := c
  cases t with
  | sl row =>
    cases f with
    | sl f fs => cases f <;> simp [Cl.own, Cl.enc, encT]
    | z => simp [Cl.own, Cl.enc, encT]
    | nil => simp [Cl.own, Cl.enc, encT]
    | pt f fs => simp [Cl.own, Cl.enc, encT]
    | fn fs => simp [Cl.own, Cl.enc, encT]
  | int k => simp [Cl.own, Cl.enc, encT]
  | bool => simp [Cl.own, Cl.enc, encT]
  | str => simp [Cl.own, Cl.enc, encT]
  | hole => simp [Cl.own, Cl.enc, encT]
  | pt row => cases f <;> simp [Cl.own, Cl.enc, encT]
  | fn g row => cases f <;> simp [Cl.own, Cl.enc, encT]
theorem ownF_enc {row : List ST} {f : Fg} {l : V (.sl row)} (h : ownF f = true) : ∃ es, (Cl.mk (.sl row) f l).enc = .sl .own es := by
  refine own_enc.1 ?_
  cases f with
  | sl f fs => cases f <;> simp [ownF] at h <;> rfl
  | nil => rfl
  | z => simp [ownF] at h
  | pt f fs => simp [ownF] at h
  | fn fs => simp [ownF] at h
theorem solid_enc {c : Cl} (h : solid c.t c.f = true) : c.enc ≠ .hole := by
  obtain ⟨t, f, x⟩ := c
  cases t with
  | sl row =>
    cases f with
    | sl f fs => simp [Cl.enc, encT]
    | z => simp [Cl.enc, encT]
    | nil => simp [Cl.enc, encT]
    | pt f fs => simp [Cl.enc, encT]
    | fn fs => simp [Cl.enc, encT]
  | int k => simp [Cl.enc, encT]
  | bool => simp [Cl.enc, encT]
  | str => simp [Cl.enc, encT]
  | hole => simp [solid] at h
  | pt row => cases f <;> simp [solid] at h <;> simp [Cl.enc, encT]
  | fn g row => cases f <;> simp [solid] at h <;> simp [Cl.enc, encT]
theorem castV_some {t u : ST} {x : V t} {k : V u → Res ρ} (h : castV t u x k = some y) : ∃ e : t = u, k (e ▸ x) = some y := by
  unfold castV at h
  split at h
  · exact ⟨_, h⟩
  · cases h
theorem castL_some {r r' : List ST} {x : V (.sl r)} {k : V (.sl r') → Res ρ} (h : castL r r' x k = some y) : ∃ e : r = r', k (e ▸ x) = some y := by
  unfold castL at h
  split at h
  · exact ⟨_, h⟩
  · cases h
theorem conv_some {t : ST} {f : Fg} {c : Cl} {k : V t → Res ρ} (h : conv t f c k = some y) : ∃ a, k a = some y ∧ encT t f a = c.enc := by
  unfold conv at h
  split at h
  · rename_i hf
    obtain ⟨e, h⟩ := castV_some h
    refine ⟨_, h, ?_⟩
    have hf' := Fg.beq_eq _ _ hf
    subst hf'
    obtain ⟨t0, f0, x0⟩ := c
    simp only at e
    subst e
    rfl
  · split at h
    · rename_i h1 h2 h3
      refine ⟨_, h, ?_⟩
      obtain ⟨t0, f0, x0⟩ := c
      simp only at h1 h2
      subst h1
      subst h2
      simp [encT, Cl.enc, lnil, lis]
    · cases h
theorem mkRow_some : ∀ {r : List ST} {fs : List Fg} {cs : List Cl} {k : R r → Res ρ}, mkRow r fs cs k = some y → ∃ e, k e = some y ∧ encR r fs e = encs cs
  | [], [], [], k, h => ⟨emptyR, h, by simp [encR, encs]⟩
  | t :: r, f :: fs, c :: cs, k, h => by
    simp only [mkRow] at h
    obtain ⟨a, h, h1⟩ := conv_some h
    obtain ⟨b, h, h2⟩ := mkRow_some h
    refine ⟨_, h, ?_⟩
    rw [encR, head_cons, tail_cons, h1, h2]
    rfl
  | [], _ :: _, _, _, h => by simp [mkRow, fail] at h
  | [], [], _ :: _, _, h => by simp [mkRow, fail] at h
  | _ :: _, [], _, _, h => by simp [mkRow, fail] at h
  | _ :: _, _ :: _, [], _, h => by simp [mkRow, fail] at h
theorem toRow_some : ∀ {r : List (ST × Fg)} {cs : List Cl} {k : R (cts r) → Res ρ}, toRow r cs k = some y → ∃ x, k x = some y ∧ encs (ofRow r x) = encs cs
  | [], [], k, h => ⟨emptyR, h, by simp [ofRow, encs]⟩
  | (t, f) :: r, c :: cs, k, h => by
    simp only [toRow] at h
    obtain ⟨a, h, h1⟩ := conv_some h
    obtain ⟨b, h, h2⟩ := toRow_some h
    refine ⟨_, h, ?_⟩
    have e : headR t (cts r) (consR t (cts r) a b) = a := head_cons t _ a b
    have e2 : tailR t (cts r) (consR t (cts r) a b) = b := tail_cons t _ a b
    simp only [encs] at h2
    show encs (⟨t, f, headR t (cts r) (consR t (cts r) a b)⟩ :: ofRow r (tailR t (cts r) (consR t (cts r) a b))) = encs (c :: cs)
    rw [e, e2]
    simp only [encs, List.map_cons, h2]
    rw [show (Cl.mk t f a).enc = c.enc from h1]
  | [], _ :: _, _, h => by simp [toRow, fail] at h
  | _ :: _, [], _, h => by simp [toRow, fail] at h
theorem ofRow_cts : ∀ (r : List (ST × Fg)) (x : R (cts r)), (ofRow r x).map (fun c => (c.t, c.f)) = r
  | [], _ => rfl
  | (t, f) :: r, x => by
    rw [ofRow, List.map_cons, ofRow_cts r]
theorem putAt_some : ∀ (r : List (X × Nat)) {cs : List Cl} {c : Nat} {x : Cl} {k : List Cl → Res ρ}, putAt cs c r x k = some y → ∃ cs', k cs' = some y ∧ setAt (encs cs) (c :: pthR r) x.enc = some (encs cs')
  | [], cs, c, x, k, h => by
    simp only [putAt] at h
    split at h
    · rename_i hc
      rw [Nat.blt_eq] at hc
      refine ⟨_, h, ?_⟩
      show setAt (encs cs) [c] x.enc = _
      rw [setAt, if_pos (by simpa [encs] using hc), encs_set]
    · cases h
  | (i, c') :: r, cs, c, x, k, h => by
    simp only [putAt] at h
    split at h
    · rename_i row fs l rest hdr
      unfold lgetN at h
      obtain ⟨e, he, h⟩ := atN_some h
      obtain ⟨cs1, h, h1⟩ := putAt_some r h
      obtain ⟨e', h, h2⟩ := mkRow_some h
      refine ⟨_, h, ?_⟩
      have hd : (encs cs).drop c = .sl .own ((lis row l).map fun e => encR row fs e) :: encs rest := by
        rw [encs_drop, hdr]; rfl
      show setAt (encs cs) (c :: i :: (c' :: pthR r)) x.enc = _
      simp only [setAt, hd]
      have he' : ((lis row l).map fun e => encR row fs e)[i]? = some (encR row fs e) := by
        rw [List.getElem?_map, show (lis row l)[i]? = some e from he]; rfl
      rw [he']
      simp only
      rw [← encs_cellsOf, h1]
      simp only
      rw [← encs_set]
      congr 2
      show T.sl .own _ = T.sl .own _
      rw [← h2, ← List.map_set]
      rfl
    · cases h
end
end Go.Proofs.Ytoingpfepfhgkaa.TM
namespace Go.Proofs.Ytoingpfepfhgkaa.TM
open Go
theorem bytes_eta (s : ByteArray) : (⟨s.data.toList.toArray⟩ : ByteArray) = s := by cases s; simp
theorem rel_const1 {Q : Nm → Pth → Nat → Prop} (v : Value) : RelV Q (ofConst1 v) (.t (ofC v)) := by
  unfold ofConst1
  split
  · simp only [RelV, Cl.enc, encT, ofC, iLit]
  · simp only [RelV, Cl.enc, encT, ofC, bLit]
  · simp only [RelV, Cl.enc, encT, ofC, sLit, bytes_eta]
  · simp only [RelV, Cl.enc, encT, ofC]
  · simp only [RelV]
theorem rel_const {Q : Nm → Pth → Nat → Prop} (v : Value) : RelV Q (ofConstT v) (ofConst v) := by
  cases v with
  | agg cs =>
    simp only [ofConstT, ofConst]
    cases h : cs.toList.all (·.oneCell') with
    | false => simp [RelV]
    | true =>
      simp only [if_true, RelV]
      refine ⟨_, rfl, ?_⟩
      induction cs.toList with
      | nil => simp [RelVs]
      | cons x xs ih =>
        simp only [List.map_cons, RelVs]
        exact ⟨rel_const1 x, ih⟩
  | tuple vs => simp only [ofConstT, ofConst1, RelV]
  | int k n => exact rel_const1 (Q := Q) (.int k n)
  | bool x => exact rel_const1 (Q := Q) (.bool x)
  | string s => exact rel_const1 (Q := Q) (.string s)
  | float k n => exact rel_const1 (Q := Q) (.float k n)
  | complex k n m => exact rel_const1 (Q := Q) (.complex k n m)
  | pointer a => exact rel_const1 (Q := Q) (.pointer a)
  | slice a l c => exact rel_const1 (Q := Q) (.slice a l c)
  | map r => exact rel_const1 (Q := Q) (.map r)
  | chan r => exact rel_const1 (Q := Q) (.chan r)
  | func f a b => exact rel_const1 (Q := Q) (.func f a b)
  | nilFunc => exact rel_const1 (Q := Q) (.nilFunc)
  | iface t v => exact rel_const1 (Q := Q) (.iface t v)
  | nilIface => exact rel_const1 (Q := Q) (.nilIface)
section
variable {ρ γ : Type} {N : Nat} {vs vs' : VS} {st st' : St} {y : ρ}
def Same (vs vs' : VS) : Prop := vs'.s = vs.s ∧ vs'.b = vs.b
theorem Same.rfl {vs : VS} : Same vs vs := ⟨Eq.refl _, Eq.refl _⟩
theorem Same.trans {a b c : VS} (h : Same a b) (k : Same b c) : Same a c := ⟨k.1.trans h.1, k.2.trans h.2⟩
theorem evT_ref {x : Operand} {k : TV → Co ρ} {m : LV → M γ} (h : evT x k vs = some y) (R : Rel vs st) :
    ∃ v lv vs', k v vs' = some y ∧ RelV (Qs st.b) v lv ∧ Go1 N vs st (ev x m) vs' st (m lv) ∧ Same vs vs' := by
  cases x with
  | tmp t => exact ⟨_, _, _, h, R.s t, go_rdS R, ⟨rfl, rfl⟩⟩
  | const v => exact ⟨_, _, _, h, rel_const v, .refl R, .rfl⟩
  | func f => exact ⟨.fn f [], .fn (.func f) [], vs, h, (show RelV (Qs st.b) (.fn f []) (.fn (.func f) []) from by simp [RelV, RelVs]), .refl R, .rfl⟩
  | global g => cases h
theorem evTs_ref : ∀ {xs : List Operand} {vs : VS} {k : List TV → Co ρ} {m : List LV → M γ} (_ : evTs xs k vs = some y) (_ : Rel vs st),
    ∃ v lv vs', k v vs' = some y ∧ RelVs (Qs st.b) v lv ∧ Go1 N vs st (evs xs m) vs' st (m lv) ∧ Same vs vs'
  | [], vs, k, m, h, R => ⟨[], [], vs, h, by simp [RelVs], .refl R, .rfl⟩
  | x :: xs, vs, k, m, h, R => by
    obtain ⟨v, lv, vs1, h, hv, g1, s1⟩ := evT_ref (N := N) (m := fun v => evs xs fun vs => m (v :: vs)) h R
    obtain ⟨us, lus, vs2, h, hu, g2, s2⟩ := evTs_ref (m := fun vs => m (lv :: vs)) h g1.rel
    exact ⟨_, _, _, h, by simp only [RelVs]; exact ⟨hv, hu⟩, g1.trans g2, s1.trans s2⟩
def RelPs (Q : Nm → Pth → Nat → Prop) : List (Nat × TV) → List (Nat × LV) → Prop
  | [], vs => vs = []
  | _ :: _, [] => False
  | (i, x) :: xs, (j, v) :: vs => i = j ∧ RelV Q x v ∧ RelPs Q xs vs
theorem RelPs.w {b : Nm → Box} : ∀ {v : List (Nat × TV)} {lv : List (Nat × LV)}, RelPs (Qs b) v lv → RelPs (Qw b) v lv
  | [], lv, h => by simp only [RelPs] at *; exact h
  | (i, x) :: xs, [], h => by simp only [RelPs] at h
  | (i, x) :: xs, (j, v) :: vs, h => by
    simp only [RelPs] at *
    exact ⟨h.1, h.2.1.w, RelPs.w h.2.2⟩
theorem evPartsT_ref : ∀ {xs : List (Nat × Operand)} {vs : VS} {k : List (Nat × TV) → Co ρ} {m : List (Nat × LV) → M γ} (_ : evPartsT xs k vs = some y) (_ : Rel vs st),
    ∃ v lv vs', k v vs' = some y ∧ RelPs (Qs st.b) v lv ∧ Go1 N vs st (evParts xs m) vs' st (m lv) ∧ Same vs vs'
  | [], vs, k, m, h, R => ⟨[], [], vs, h, by simp [RelPs], .refl R, .rfl⟩
  | (i, x) :: xs, vs, k, m, h, R => by
    obtain ⟨v, lv, vs1, h, hv, g1, s1⟩ := evT_ref (N := N) (m := fun v => evParts xs fun vs => m ((i, v) :: vs)) h R
    obtain ⟨us, lus, vs2, h, hu, g2, s2⟩ := evPartsT_ref (m := fun vs => m ((i, lv) :: vs)) h g1.rel
    exact ⟨_, _, _, h, by simp only [RelPs]; exact ⟨trivial, hv, hu⟩, g1.trans g2, s1.trans s2⟩
theorem outT_ref {d : Option Nat} {v : TV} {lv : LV} {k : Co ρ} (h : outT N d v k vs = some y) (R : Rel vs st) (hv : RelV (Qs st.b) v lv) :
    ∃ vs' st', k vs' = some y ∧ Go1 N vs st (out d lv) vs' st' (.ok ()) := by
  cases d with
  | none => exact ⟨_, _, h, .refl R⟩
  | some t =>
    simp only [outT, wrS] at h
    split at h
    · rename_i ht
      exact ⟨_, _, h, go_wrS R (by simpa using ht) hv⟩
    · cases h
theorem wrS_ref {t : Nat} {v : TV} {lv : LV} {k : Co ρ} {m : M γ} (h : wrS N t v k vs = some y) (R : Rel vs st) (hv : RelV (Qs st.b) v lv) :
    ∃ vs', k vs' = some y ∧ Go1 N vs st (.wrS t lv m) vs' ⟨fun u => if u = t then lv else st.s u, st.b⟩ m := by
  simp only [wrS] at h
  split at h
  · rename_i ht
    exact ⟨_, h, go_wrS R (by simpa using ht) hv⟩
  · cases h
theorem iteC_ref {c : V .bool} {a b : Co ρ} (h : iteC c a b vs = some y) : (c = true ∧ a vs = some y) ∨ (c = false ∧ b vs = some y) := by
  unfold iteC ite_ at h
  cases c with
  | true => exact .inl ⟨rfl, h⟩
  | false => exact .inr ⟨rfl, h⟩
theorem rdB_ref {n : Nm} {k : VB → Co ρ} {m : Box → M γ} (h : rdB n k vs = some y) (R : Rel vs st) :
    ∃ x vs', k x vs' = some y ∧ (st.b n).real = x.real ∧ (st.b n).cells = encs x.cells ∧ Go1 N vs st (.rdB n m) vs' st (m (st.b n)) ∧ Same vs vs' := by
  simp only [rdB] at h
  split at h
  · rename_i x hx
    obtain ⟨h1, h2⟩ := R.b n x hx
    exact ⟨x, _, h, h1, h2, go_rdB R, ⟨rfl, rfl⟩⟩
  · cases h
theorem rowC_ref {n : Nm} {p : Pth} {k : List Cl → Co ρ} {m : Box → M γ} (h : rowC n p k vs = some y) (R : Rel vs st) :
    ∃ row vs', k row vs' = some y ∧ rowAt (st.b n).cells (pthL p) = some (encs row) ∧ Go1 N vs st (.rdB n m) vs' st (m (st.b n)) ∧ Same vs vs' := by
  obtain ⟨x, vs', h, _, h2, g, s⟩ := rdB_ref (N := N) (m := m) h R
  obtain ⟨row, h, h3⟩ := getAt_ref _ _ _ h
  exact ⟨row, vs', h, by rw [h2]; exact h3, g, s⟩
theorem Qw_hole {b : Nm → Box} {n : Nm} {c : Nat} {real : Bool} {m : Nm} {q : Pth} {hi : Nat} (h : Qw b m q hi) : Qw (fun k => if k = n then ⟨real, (b n).cells.set c .hole⟩ else b k) m q hi := by
  intro es r he
  by_cases hm : m = n
  · subst hm
    simp only [if_true] at he
    obtain ⟨r', h1⟩ := rowAt_hole _ he
    exact h _ _ h1
  · simp only [hm, if_false] at he
    exact h _ _ he
def KeepW (b b' : Nm → Box) : Prop := ∀ n p hi, Qw b n p hi → Qw b' n p hi
theorem KeepW.rfl {b : Nm → Box} : KeepW b b := fun _ _ _ h => h
theorem KeepW.trans {a b c : Nm → Box} (h : KeepW a b) (k : KeepW b c) : KeepW a c := fun _ _ _ hq => k _ _ _ (h _ _ _ hq)
theorem KeepW.v {b b' : Nm → Box} (h : KeepW b b') {v : TV} {lv : LV} (hv : RelV (Qw b) v lv) : RelV (Qw b') v lv := RelV.mono h _ _ hv
theorem KeepW.lst {b b' : Nm → Box} (h : KeepW b b') {v : List TV} {lv : List LV} (hv : RelVs (Qw b) v lv) : RelVs (Qw b') v lv := RelVs.mono h _ _ hv
theorem KeepW.ps {b b' : Nm → Box} (h : KeepW b b') : ∀ {v : List (Nat × TV)} {lv : List (Nat × LV)}, RelPs (Qw b) v lv → RelPs (Qw b') v lv
  | [], lv, hv => by simp only [RelPs] at *; exact hv
  | (i, x) :: xs, [], hv => by simp only [RelPs] at hv
  | (i, x) :: xs, (j, v) :: vs, hv => by
    simp only [RelPs] at *
    exact ⟨hv.1, h.v hv.2.1, h.ps hv.2.2⟩
theorem close_box {n : Nm} {c hi : Nat} {bx : VB} {row : List ST} {f : Fg} {l : V (.sl row)} {rest : List Cl} {k : Cl → Co ρ} {m : T → M γ}
    (h : wrB n ⟨bx.real, bx.cells.set c ⟨.hole, .z, emptyR⟩⟩ (kill n ⟨c, []⟩ (k ⟨.sl row, f, l⟩)) vs = some y) (R : Rel vs st) (hre : (st.b n).real = bx.real) (hce : (st.b n).cells = encs bx.cells)
    (hdr : bx.cells.drop c = ⟨.sl row, f, l⟩ :: rest) (hf : ownF f = true) (hw : Qw st.b n ⟨c, []⟩ hi) :
    ∃ vs' st', k ⟨.sl row, f, l⟩ vs' = some y ∧ Go1 N vs st (match rowAt (st.b n).cells (pthL ⟨c, []⟩) with
              | some (.sl .own es :: _) => if hi = es.length ∨ 0 < hi then match setAt (st.b n).cells (pthL ⟨c, []⟩) .hole with
                | some cs => .wrB n ⟨(st.b n).real, cs⟩ (.kill n (pthL ⟨c, []⟩) (m (.sl .own (es.take hi))))
                | none => .no
                else .no
              | _ => .no) vs' st' (m (Cl.mk (.sl row) f l).enc) ∧ KeepW st.b st'.b := by
  obtain ⟨es, hes⟩ := ownF_enc (l := l) hf
  have hrow : rowAt (st.b n).cells (pthL ⟨c, []⟩) = some (.sl .own es :: encs rest) := by
    rw [hce, ← hes]
    show rowAt (encs bx.cells) [c] = _
    simp only [rowAt]
    rw [encs_drop, hdr]
    rfl
  have hlen := hw _ _ hrow
  have hc : c < bx.cells.length := by
    rcases Nat.lt_or_ge c bx.cells.length with h | h
    · exact h
    · rw [List.drop_eq_nil_of_le h] at hdr; cases hdr
  have hset : setAt (st.b n).cells (pthL ⟨c, []⟩) .hole = some (encs (bx.cells.set c ⟨.hole, .z, emptyR⟩)) := by
    rw [hce]
    show setAt (encs bx.cells) [c] .hole = _
    rw [setAt, if_pos (by simpa [encs] using hc), ← encs_set]
    rfl
  have hsame : SameB ⟨c, []⟩ (st.b n).cells (encs (bx.cells.set c ⟨.hole, .z, emptyR⟩)) := fun q es' r' hp hr => rowAt_setAt _ _ hset hp hr
  have g2 := go_Bkill (N := N) (m := m (.sl .own es)) (vs := vs) (x := ⟨bx.real, bx.cells.set c ⟨.hole, .z, emptyR⟩⟩) R hsame
  refine ⟨_, st.kb n (pthL ⟨c, []⟩) ⟨bx.real, encs (bx.cells.set c ⟨.hole, .z, emptyR⟩)⟩, h, ?_, ?_⟩
  · rw [hes, hrow]
    simp only
    rw [if_pos (.inl hlen), hset]
    simp only
    rw [hre, hlen, List.take_length]
    exact g2
  · intro m' q hi' hq
    have := Qw_hole (n := n) (c := c) (real := bx.real) hq
    rw [hce, show (T.hole) = (Cl.mk .hole .z emptyR).enc from rfl, encs_set] at this
    exact this
theorem closeT_sub {n : Nm} {p : Pth} {s : X × X} {k : Cl → Co ρ} {vs : VS} {y : ρ} (h : closeT (.ref n p (some s)) k vs = some y) : False := by
  obtain ⟨c, r⟩ := p
  cases r with
  | cons a b => simp [closeT, no, fail] at h
  | nil =>
    simp only [closeT, rdB] at h
    cases hl : lookB vs.b n with
    | none => rw [hl] at h; cases h
    | some bx =>
      rw [hl] at h
      simp only at h
      cases hd : bx.cells.drop c with
      | nil => rw [hd] at h; cases h
      | cons x xs =>
        rw [hd] at h
        obtain ⟨t, f, l⟩ := x
        cases t with
        | sl row =>
          simp only at h
          cases hf : ownF f with
          | false => rw [hf] at h; cases h
          | true => rw [hf] at h; cases h
        | _ => cases h
theorem closeT_ref {v : TV} {lv : LV} {k : Cl → Co ρ} {m : T → M γ} (h : closeT v k vs = some y) (R : Rel vs st) (hv : RelV (Qw st.b) v lv) :
    ∃ c vs' st', k c vs' = some y ∧ Go1 N vs st (close lv m) vs' st' (m c.enc) ∧ KeepW st.b st'.b := by
  cases v with
  | c x =>
    simp only [closeT] at h
    cases hs : solid x.t x.f with
    | false => rw [hs] at h; cases h
    | true =>
      rw [hs] at h
      simp only [RelV] at hv
      subst hv
      have hne := solid_enc hs
      refine ⟨x, vs, st, h, ?_, .rfl⟩
      have : close (.t x.enc) m = m x.enc := by
        generalize x.enc = e at hne
        cases e <;> first | rfl | exact absurd rfl hne
      rw [this]
      exact .refl R
  | ref n p sub =>
    obtain ⟨c, r⟩ := p
    cases r with
    | cons a b => simp [closeT, no, fail] at h
    | nil =>
      cases sub with
      | some s => exact (closeT_sub h).elim
      | none =>
        simp only [RelV] at hv
        obtain ⟨hi, rfl, hw⟩ := hv
        simp only [closeT] at h
        obtain ⟨bx, vs1, h, hre, hce, g1, s1⟩ := rdB_ref (N := N) (m := fun bx => match rowAt bx.cells (pthL ⟨c, []⟩) with
          | some (.sl .own es :: _) => if hi = es.length ∨ 0 < hi then match setAt bx.cells (pthL ⟨c, []⟩) .hole with
            | some cs => .wrB n ⟨bx.real, cs⟩ (.kill n (pthL ⟨c, []⟩) (m (.sl .own (es.take hi))))
            | none => .no
            else .no
          | _ => .no) h R
        cases hdr : bx.cells.drop c with
        | nil => rw [hdr] at h; cases h
        | cons c1 rest =>
          obtain ⟨t1, f, l⟩ := c1
          rw [hdr] at h
          cases t1 with
          | int _ => cases h
          | bool => cases h
          | str => cases h
          | pt _ => cases h
          | fn _ _ => cases h
          | hole => cases h
          | sl row =>
            cases hf : ownF f with
            | false => simp only [hf] at h; cases h
            | true =>
              simp only [hf] at h
              obtain ⟨vs2, st2, h, g2, k2⟩ := close_box (N := N) (m := m) h g1.rel hre hce hdr hf hw
              exact ⟨_, _, _, h, g1.trans g2, k2⟩
  | fn g xs =>
    cases xs with
    | cons x xs => simp [closeT, no, fail] at h
    | nil =>
      simp only [RelV, RelVs] at hv
      obtain ⟨us, rfl, hu⟩ := hv
      subst hu
      refine ⟨_, vs, st, h, ?_, .rfl⟩
      have : close (.fn (.func g) []) m = m (.fn (.func g) []) := rfl
      rw [this]
      exact .refl R
  | addr n p => simp [closeT, no, fail] at h
  | raddr cs => simp [closeT, no, fail] at h
  | agg xs => simp [closeT, no, fail] at h
  | tup xs => simp [closeT, no, fail] at h
  | va xs => simp [closeT, no, fail] at h
  | dead => simp [closeT, no, fail] at h
theorem closesT_ref : ∀ {xs : List TV} {lvs : List LV} {vs : VS} {st : St} {k : List Cl → Co ρ} {m : List T → M γ} (_ : closesT xs k vs = some y) (_ : Rel vs st) (_ : RelVs (Qw st.b) xs lvs),
    ∃ cs vs' st', k cs vs' = some y ∧ Go1 N vs st (closes lvs m) vs' st' (m (encs cs)) ∧ KeepW st.b st'.b
  | [], lvs, vs, st, k, m, h, R, hv => by
    simp only [RelVs] at hv
    subst hv
    exact ⟨[], vs, st, h, .refl R, .rfl⟩
  | x :: xs, [], _, _, _, _, h, R, hv => by simp only [RelVs] at hv
  | x :: xs, lv :: lvs, vs, st, k, m, h, R, hv => by
    simp only [RelVs] at hv
    obtain ⟨c, vs1, st1, h, g1, k1⟩ := closeT_ref (N := N) (m := fun c => closes lvs fun cs => m (c :: cs)) h R hv.1
    obtain ⟨cs, vs2, st2, h, g2, k2⟩ := closesT_ref (m := fun cs => m (c.enc :: cs)) h g1.rel (k1.lst hv.2)
    exact ⟨c :: cs, vs2, st2, h, g1.trans g2, k1.trans k2⟩
theorem closeCT_ref {x : TV} {lv : LV} {k : List Cl → Co ρ} {m : List T → M γ} (h : closeCT x k vs = some y) (R : Rel vs st) (hv : RelV (Qw st.b) x lv) :
    ∃ cs vs' st', k cs vs' = some y ∧ Go1 N vs st (closeC lv m) vs' st' (m (encs cs)) ∧ KeepW st.b st'.b := by
  have one : closeT x (fun c => k [c]) vs = some y → (∀ us, lv ≠ .agg us) → ∃ cs vs' st', k cs vs' = some y ∧ Go1 N vs st (closeC lv m) vs' st' (m (encs cs)) ∧ KeepW st.b st'.b := by
    intro h hne
    obtain ⟨c, vs1, st1, h, g1, k1⟩ := closeT_ref (N := N) (m := fun c => m [c]) h R hv
    refine ⟨[c], vs1, st1, h, ?_, k1⟩
    have : closeC lv m = close lv fun c => m [c] := by
      cases lv <;> first | rfl | exact absurd rfl (hne _)
    rw [this]
    exact g1
  cases x with
  | agg xs =>
    simp only [RelV] at hv
    obtain ⟨us, rfl, hv⟩ := hv
    exact closesT_ref (N := N) h R hv
  | c x => exact one h (by simp only [RelV] at hv; subst hv; simp)
  | ref n p sub => cases sub with
    | some s => exact (closeT_sub h).elim
    | none => exact one h (by simp only [RelV] at hv; obtain ⟨_, rfl, _⟩ := hv; simp)
  | addr n p => exact one h (by simp only [RelV] at hv; subst hv; simp)
  | raddr cs => exact one h (by simp only [RelV] at hv; subst hv; simp)
  | tup xs => exact one h (by simp only [RelV] at hv; obtain ⟨_, rfl, _⟩ := hv; simp)
  | va xs => exact one h (by simp only [RelV] at hv; obtain ⟨_, rfl, _⟩ := hv; simp)
  | fn g xs => exact one h (by simp only [RelV] at hv; obtain ⟨_, rfl, _⟩ := hv; simp)
  | dead => simp [closeCT, closeT, no, fail] at h
def encPs (cs : List (Nat × List Cl)) : List (Nat × List T) := cs.map fun x => (x.1, encs x.2)
theorem closePartsT_ref : ∀ {xs : List (Nat × TV)} {lvs : List (Nat × LV)} {vs : VS} {st : St} {k : List (Nat × List Cl) → Co ρ} {m : List (Nat × List T) → M γ} (_ : closePartsT xs k vs = some y) (_ : Rel vs st) (_ : RelPs (Qw st.b) xs lvs),
    ∃ cs vs' st', k cs vs' = some y ∧ Go1 N vs st (closeParts lvs m) vs' st' (m (encPs cs)) ∧ KeepW st.b st'.b
  | [], lvs, vs, st, k, m, h, R, hv => by
    simp only [RelPs] at hv
    subst hv
    exact ⟨[], vs, st, h, .refl R, .rfl⟩
  | (i, x) :: xs, [], _, _, _, _, h, R, hv => by simp only [RelPs] at hv
  | (i, x) :: xs, (j, lv) :: lvs, vs, st, k, m, h, R, hv => by
    simp only [RelPs] at hv
    obtain ⟨rfl, hv1, hv2⟩ := hv
    obtain ⟨c, vs1, st1, h, g1, k1⟩ := closeCT_ref (N := N) (m := fun c => closeParts lvs fun cs => m ((i, c) :: cs)) h R hv1
    obtain ⟨cs, vs2, st2, h, g2, k2⟩ := closePartsT_ref (m := fun cs => m ((i, encs c) :: cs)) h g1.rel (k1.ps hv2)
    exact ⟨(i, c) :: cs, vs2, st2, h, g1.trans g2, k1.trans k2⟩
theorem pthL_add (o : Nat) (p : Pth) : pthL (p.add o) = bump o (pthL p) := by
  obtain ⟨c0, r⟩ := p
  have key : ∀ (r : List (X × Nat)), r ≠ [] → ∀ c, c :: pthR (Pth.add.go o r) = bump o (c :: pthR r) := by
    intro r
    induction r with
    | nil => intro h; exact absurd rfl h
    | cons x r ih =>
      intro _ c
      obtain ⟨i, c'⟩ := x
      cases r with
      | nil => rfl
      | cons x2 r2 =>
        have := ih (by simp) c'
        show c :: i :: c' :: pthR (Pth.add.go o (x2 :: r2)) = c :: i :: bump o (c' :: pthR (x2 :: r2))
        rw [← this]
  cases r with
  | nil => rfl
  | cons x r => exact key (x :: r) (by simp) c0
theorem seenT_rel {b : Nm → Box} {n : Nm} {p : Pth} {c : Cl} {row : List T} (h : rowAt (b n).cells (pthL p) = some (c.enc :: row)) : RelV (Qs b) (seenT n p c) (seen n (pthL p) c.enc) := by
  cases ho : c.own with
  | true =>
    obtain ⟨es, hes⟩ := own_enc.1 ho
    rw [hes] at h ⊢
    simp only [seenT, ho, seen, RelV]
    exact ⟨_, rfl, _, _, h, rfl⟩
  | false =>
    have hne : ∀ es, c.enc ≠ .sl .own es := fun es he => by
      rw [own_enc.2 ⟨es, he⟩] at ho
      cases ho
    simp only [seenT, ho]
    obtain ⟨t, f, x⟩ := c
    cases t with
    | int k => simp only [seen, Cl.enc, encT, RelV]
    | bool => simp only [seen, Cl.enc, encT, RelV]
    | str => simp only [seen, Cl.enc, encT, RelV]
    | hole => simp only [RelV]
    | sl row' =>
      simp only [RelV]
      cases f with
      | sl f fs =>
        cases f with
        | own => exact absurd rfl (hne _)
        | nw => rfl
        | fz => rfl
      | _ => exact absurd rfl (hne _)
    | pt row' =>
      cases f with
      | pt f fs =>
        cases f with
        | own => simp only [RelV]
        | nw => simp only [seen, Cl.enc, encT, RelV]; exact congrArg _ (encs_cellsOf row' fs x).symm
        | fz => simp only [seen, Cl.enc, encT, RelV]; exact congrArg _ (encs_cellsOf row' fs x).symm
      | _ => simp only [RelV]
    | fn g caps =>
      cases caps with
      | nil => cases f <;> simp only [RelV, Cl.enc, encT, encR, seen]
      | cons t ts => simp only [RelV]
theorem seensT_rel {b : Nm → Box} {n : Nm} {p : Pth} : ∀ (cs : List Cl) (j : Nat) {row : List T}, rowAt (b n).cells (pthL (p.add j)) = some (encs cs ++ row) → RelVs (Qs b) (seensT n p j cs) (seens n (pthL p) j (encs cs))
  | [], j, row, _ => by simp only [seensT, encs, List.map_nil, seens, RelVs]
  | c :: cs, j, row, h => by
    simp only [seensT, encs, List.map_cons, seens, RelVs]
    rw [← pthL_add]
    refine ⟨seenT_rel h, seensT_rel cs (j + 1) (row := row) ?_⟩
    rw [pthL_add] at h ⊢
    have := rowAt_bump 1 _ h
    rw [bump_bump] at this
    exact this
end
end Go.Proofs.Ytoingpfepfhgkaa.TM
namespace Go.Proofs.Ytoingpfepfhgkaa.TM
open Go
section
variable {ρ γ : Type} {N : Nat} {vs vs' : VS} {st st' : St} {y : ρ}
theorem storesT_ref {n : Nm} {p : Pth} : ∀ (xs : List Cl) {j : Nat} {vs : VS} {st : St} {k : Co ρ} {m : M γ}, storesT n p j xs k vs = some y → Rel vs st →
    ∃ vs' st', k vs' = some y ∧ Go1 N vs st (stores n (pthL p) j (encs xs) m) vs' st' m
  | [], j, vs, st, k, m, h, R => ⟨vs, st, h, .refl R⟩
  | x :: xs, j, vs, st, k, m, h, R => by
    simp only [storesT] at h
    obtain ⟨bx, vs1, h, hre, hce, g1, s1⟩ := rdB_ref (N := N) (m := fun bx => match rowAt bx.cells (bump j (pthL p)), setAt bx.cells (bump j (pthL p)) x.enc with
      | some (old :: _), some cs =>
        let next := M.wrB n ⟨bx.real, cs⟩ (stores n (pthL p) (j + 1) (encs xs) m)
        match old with
        | .sl .own _ => M.kill n (bump j (pthL p)) next
        | _ => next
      | _, _ => .no) h R
    obtain ⟨row, h, hrow⟩ := getAt_ref _ _ _ h
    cases row with
    | nil => cases h
    | cons old rest =>
      simp only at h
      obtain ⟨cs, h, hset⟩ := putAt_some _ h
      have hrow' : rowAt (st.b n).cells (bump j (pthL p)) = some (old.enc :: encs rest) := by
        rw [hce, ← pthL_add]; exact hrow
      have hset' : setAt (st.b n).cells (bump j (pthL p)) x.enc = some (encs cs) := by
        rw [hce, ← pthL_add]; exact hset
      have hsame : SameB (p.add j) (st.b n).cells (encs cs) := fun q es' r' hp hr => by
        refine rowAt_setAt _ _ ?_ hp hr (x := x.enc)
        rw [pthL_add]; exact hset'
      have e : stores n (pthL p) j (encs (x :: xs)) m = .rdB n (fun bx => match rowAt bx.cells (bump j (pthL p)), setAt bx.cells (bump j (pthL p)) x.enc with
        | some (old :: _), some cs =>
          let next := M.wrB n ⟨bx.real, cs⟩ (stores n (pthL p) (j + 1) (encs xs) m)
          match old with
          | .sl .own _ => M.kill n (bump j (pthL p)) next
          | _ => next
        | _, _ => .no) := rfl
      rw [e]
      have e2 : (match rowAt (st.b n).cells (bump j (pthL p)), setAt (st.b n).cells (bump j (pthL p)) x.enc with
        | some (old :: _), some cs =>
          let next := M.wrB n ⟨(st.b n).real, cs⟩ (stores n (pthL p) (j + 1) (encs xs) m)
          match old with
          | .sl .own _ => M.kill n (bump j (pthL p)) next
          | _ => next
        | _, _ => .no) = (match old.enc with
          | .sl .own _ => M.kill n (bump j (pthL p)) (M.wrB n ⟨bx.real, encs cs⟩ (stores n (pthL p) (j + 1) (encs xs) m))
          | _ => M.wrB n ⟨bx.real, encs cs⟩ (stores n (pthL p) (j + 1) (encs xs) m)) := by
        rw [hrow', hset', hre]
      cases ho : old.own with
      | true =>
        rw [ho] at h
        obtain ⟨es, hes⟩ := own_enc.1 ho
        have g2 := go_killB (N := N) (m := stores n (pthL p) (j + 1) (encs xs) m) (x := ⟨bx.real, cs⟩) g1.rel hsame
        obtain ⟨vs2, st2, h, g3⟩ := storesT_ref xs (m := m) h g2.rel
        refine ⟨vs2, st2, h, g1.trans ?_⟩
        show Go1 N vs1 st (match rowAt (st.b n).cells (bump j (pthL p)), setAt (st.b n).cells (bump j (pthL p)) x.enc with
        | some (old :: _), some cs =>
          let next := M.wrB n ⟨(st.b n).real, cs⟩ (stores n (pthL p) (j + 1) (encs xs) m)
          match old with
          | .sl .own _ => M.kill n (bump j (pthL p)) next
          | _ => next
        | _, _ => .no) _ _ _
        rw [e2, hes]
        simp only
        rw [← pthL_add]
        exact g2.trans g3
      | false =>
        rw [ho] at h
        have hne : ∀ es, old.enc ≠ .sl .own es := fun es he => by
          rw [own_enc.2 ⟨es, he⟩] at ho
          cases ho
        have g2 := go_wrB (N := N) (m := stores n (pthL p) (j + 1) (encs xs) m) (x := ⟨bx.real, cs⟩) (p := p.add j) (n := n) g1.rel (by rw [pthL_add]; exact hrow') hne hsame
        obtain ⟨vs2, st2, h, g3⟩ := storesT_ref xs (m := m) h g2.rel
        refine ⟨vs2, st2, h, g1.trans ?_⟩
        show Go1 N vs1 st (match rowAt (st.b n).cells (bump j (pthL p)), setAt (st.b n).cells (bump j (pthL p)) x.enc with
        | some (old :: _), some cs =>
          let next := M.wrB n ⟨(st.b n).real, cs⟩ (stores n (pthL p) (j + 1) (encs xs) m)
          match old with
          | .sl .own _ => M.kill n (bump j (pthL p)) next
          | _ => next
        | _, _ => .no) _ _ _
        have e3 : (match old.enc with
          | .sl .own _ => M.kill n (bump j (pthL p)) (M.wrB n ⟨bx.real, encs cs⟩ (stores n (pthL p) (j + 1) (encs xs) m))
          | _ => M.wrB n ⟨bx.real, encs cs⟩ (stores n (pthL p) (j + 1) (encs xs) m)) = M.wrB n ⟨bx.real, encs cs⟩ (stores n (pthL p) (j + 1) (encs xs) m) := by
          split
          · rename_i es' h'
            exact absurd h' (hne _)
          · rfl
        rw [e2, e3]
        exact g2.trans g3
theorem zeroC_enc {t : ST} {c : Cl} {x : T} (h : zeroC t = some c) (hz : zeroOk t x = true) : c.enc = x := by
  unfold zeroOk at hz
  split at hz
  · rename_i k l n
    simp only [zeroC, Option.some.injEq] at h
    subst h
    simp only [Bool.and_eq_true, decide_eq_true_eq] at hz
    obtain ⟨rfl, rfl⟩ := hz
    rfl
  · simp only [zeroC, Option.some.injEq] at h
    subst h
    rfl
  · rename_i s
    simp only [zeroC, Option.some.injEq] at h
    subst h
    have : s.data.toList = [] := by simpa using hz
    show T.v (.string ⟨List.toArray []⟩) = _
    rw [← this, bytes_eta]
  · simp only [zeroC, Option.some.injEq] at h
    subst h
    rfl
  · cases hz
theorem zeroCs_enc : ∀ {ts : List ST} {cs : List Cl} {xs : List T}, zeroCs ts = some cs → zeroOks ts xs = true → encs cs = xs
  | [], cs, [], h, _ => by simp only [zeroCs, Option.some.injEq] at h; subst h; rfl
  | [], cs, _ :: _, _, hz => by simp [zeroOks] at hz
  | _ :: _, cs, [], _, hz => by simp [zeroOks] at hz
  | t :: ts, cs, x :: xs, h, hz => by
    simp only [zeroCs] at h
    simp only [zeroOks, Bool.and_eq_true] at hz
    split at h
    · rename_i c cs' h1 h2
      cases h
      show c.enc :: encs cs' = _
      rw [zeroC_enc h1 hz.1, zeroCs_enc h2 hz.2]
    · cases h
theorem zerosT_some {P : Program} {t : TypeId} {cs : List Cl} (h : zerosT P t = some cs) : zeroT P t = some (encs cs) := by
  unfold zerosT at h
  split at h
  · rename_i z r h1 h2
    split at h
    · rename_i hz
      rw [h1, zeroCs_enc h hz]
    · cases h
  · cases h
theorem zeroOks_len : ∀ {ts : List ST} {xs : List T}, zeroOks ts xs = true → ts.length = xs.length
  | [], [], _ => rfl
  | [], _ :: _, h => by simp [zeroOks] at h
  | _ :: _, [], h => by simp [zeroOks] at h
  | t :: ts, x :: xs, h => by
    simp only [zeroOks, Bool.and_eq_true] at h
    simp [zeroOks_len h.2]
theorem rowT_some {P : Program} {t : TypeId} {r : List (ST × Fg)} (h : rowT P t = some r) : ∃ z e, rowInfo P t = some z ∧ P.underlying t = some (.slice e) ∧ zeroOks (cts r) z = true ∧ z.length = r.length := by
  unfold rowT at h
  split at h
  · rename_i z e h1 h2
    split at h
    · rename_i r' h3
      split at h
      · rename_i hz
        cases h
        refine ⟨z, e, h1, h2, hz, ?_⟩
        rw [← zeroOks_len hz]
        simp [cts]
      · cases h
    · cases h
  · cases h
theorem encR_length : ∀ {r : List ST} {fs : List Fg} (x : R r), fs.length = r.length → (encR r fs x).length = r.length
  | [], _, _, _ => by simp [encR]
  | t :: r, f :: fs, x, h => by
    simp only [encR, List.length_cons]
    rw [encR_length (tailR t r x) (by simpa using h)]
  | _ :: _, [], _, h => by simp at h
theorem mkRow_len : ∀ {r : List ST} {fs : List Fg} {cs : List Cl} {k : R r → Res ρ}, mkRow r fs cs k = some y → cs.length = r.length ∧ fs.length = r.length
  | [], [], [], k, h => ⟨rfl, rfl⟩
  | t :: r, f :: fs, c :: cs, k, h => by
    simp only [mkRow] at h
    obtain ⟨a, h, h1⟩ := conv_some h
    obtain ⟨h2, h3⟩ := mkRow_len h
    simp [h2, h3]
  | [], _ :: _, _, _, h => by simp [mkRow, fail] at h
  | [], [], _ :: _, _, h => by simp [mkRow, fail] at h
  | _ :: _, [], _, _, h => by simp [mkRow, fail] at h
  | _ :: _, _ :: _, [], _, h => by simp [mkRow, fail] at h
theorem fillET_some {r : List ST} {fs : List Fg} : ∀ {cs : List (Nat × List Cl)} {s : Nat} {k : V (.sl r) → Res ρ}, fillET r fs s cs k = some y →
    ∃ l, k l = some y ∧ fillE r.length s (encPs cs) = some ((lis r l).map fun e => encR r fs e)
  | [], s, k, h => ⟨_, h, rfl⟩
  | (i, c) :: rest, s, k, h => by
    simp only [fillET] at h
    split at h
    · rename_i hi
      have hl := mkRow_len h
      obtain ⟨e, h, h1⟩ := mkRow_some h
      obtain ⟨l, h, h2⟩ := fillET_some h
      refine ⟨_, h, ?_⟩
      show (if (encs c).length = r.length ∧ i = s then (fillE r.length (s + 1) (encPs rest)).map (encs c :: ·) else none) = _
      rw [if_pos ⟨by simpa [encs] using hl.1, Nat.eq_of_beq_eq_true hi⟩, h2, ← h1]
      rfl
    · cases h
theorem RelVs.length {Q : Nm → Pth → Nat → Prop} : ∀ {xs : List TV} {vs : List LV}, RelVs Q xs vs → xs.length = vs.length
  | [], vs, h => by simp only [RelVs] at h; subst h; rfl
  | x :: xs, [], h => by simp only [RelVs] at h
  | x :: xs, v :: vs, h => by
    simp only [RelVs] at h
    simp [RelVs.length h.2]
theorem RelVs.append {Q : Nm → Pth → Nat → Prop} : ∀ {xs : List TV} {vs : List LV} {ys : List TV} {us : List LV}, RelVs Q xs vs → RelVs Q ys us → RelVs Q (xs ++ ys) (vs ++ us)
  | [], vs, ys, us, h, k => by simp only [RelVs] at h; subst h; exact k
  | x :: xs, [], ys, us, h, k => by simp only [RelVs] at h
  | x :: xs, v :: vs, ys, us, h, k => by
    simp only [RelVs] at h
    simp only [List.cons_append, RelVs]
    exact ⟨h.1, RelVs.append h.2 k⟩
theorem RelVs.take {Q : Nm → Pth → Nat → Prop} : ∀ {xs : List TV} {vs : List LV} (n : Nat), RelVs Q xs vs → RelVs Q (xs.take n) (vs.take n)
  | [], vs, n, h => by simp only [RelVs] at h; subst h; simp [RelVs]
  | x :: xs, [], n, h => by simp only [RelVs] at h
  | x :: xs, v :: vs, 0, h => by simp [RelVs]
  | x :: xs, v :: vs, n + 1, h => by
    simp only [RelVs] at h
    simp only [List.take_succ_cons, RelVs]
    exact ⟨h.1, RelVs.take n h.2⟩
theorem RelVs.drop {Q : Nm → Pth → Nat → Prop} : ∀ {xs : List TV} {vs : List LV} (n : Nat), RelVs Q xs vs → RelVs Q (xs.drop n) (vs.drop n)
  | [], vs, n, h => by simp only [RelVs] at h; subst h; simp [RelVs]
  | x :: xs, [], n, h => by simp only [RelVs] at h
  | x :: xs, v :: vs, 0, h => h
  | x :: xs, v :: vs, n + 1, h => by
    simp only [RelVs] at h
    simp only [List.drop_succ_cons]
    exact RelVs.drop n h.2
theorem rel_cells {Q : Nm → Pth → Nat → Prop} : ∀ (cs : List Cl), RelVs Q (cs.map .c) ((encs cs).map .t)
  | [] => by simp [encs, RelVs]
  | c :: cs => by
    have := rel_cells (Q := Q) cs
    simp only [encs, List.map_cons, RelVs, RelV] at this ⊢
    exact ⟨trivial, this⟩
theorem fillLT_some {Q : Nm → Pth → Nat → Prop} {fs : List (Nat × Nat)} : ∀ {ps : List (Nat × TV)} {lps : List (Nat × LV)} {cs xs : List TV} {lcs : List LV}, fillLT fs cs ps = some xs → RelVs Q cs lcs → RelPs Q ps lps →
    ∃ lxs, fillL fs lcs lps = some lxs ∧ RelVs Q xs lxs
  | [], lps, cs, xs, lcs, h, hc, hp => by
    simp only [RelPs] at hp
    subst hp
    simp only [fillLT, Option.some.injEq] at h
    subst h
    exact ⟨lcs, rfl, hc⟩
  | (i, x) :: ps, [], cs, xs, lcs, h, hc, hp => by simp only [RelPs] at hp
  | (i, x) :: ps, (j, v) :: lps, cs, xs, lcs, h, hc, hp => by
    simp only [RelPs] at hp
    obtain ⟨rfl, hx, hp⟩ := hp
    simp only [fillLT] at h
    split at h
    · rename_i o sz hfs
      have key : RelVs Q (cellsTV x) v.cells ∧ (deadT x = false → v.isDead = false) := by
        cases x with
        | agg ys =>
          simp only [RelV] at hx
          obtain ⟨us, rfl, hu⟩ := hx
          exact ⟨hu, fun _ => rfl⟩
        | c x => simp only [RelV] at hx; subst hx; exact ⟨by simp only [LV.cells, cellsTV, RelVs, RelV]; trivial, fun _ => rfl⟩
        | ref n p sub => cases sub with
          | some s => have hx' := hx; simp only [RelV] at hx; obtain ⟨rfl, _⟩ := hx; exact ⟨by simp only [LV.cells, cellsTV, RelVs]; exact ⟨hx', trivial⟩, fun _ => rfl⟩
          | none => have hx' := hx; simp only [RelV] at hx; obtain ⟨_, rfl, _⟩ := hx; exact ⟨by simp only [LV.cells, cellsTV, RelVs]; exact ⟨hx', trivial⟩, fun _ => rfl⟩
        | addr n p => simp only [RelV] at hx; subst hx; exact ⟨by simp only [LV.cells, cellsTV, RelVs, RelV]; trivial, fun _ => rfl⟩
        | raddr cs => have hx' := hx; simp only [RelV] at hx; subst hx; exact ⟨by simp only [LV.cells, cellsTV, RelVs]; exact ⟨hx', trivial⟩, fun _ => rfl⟩
        | tup xs => have hx' := hx; simp only [RelV] at hx; obtain ⟨_, rfl, _⟩ := hx; exact ⟨by simp only [LV.cells, cellsTV, RelVs]; exact ⟨hx', trivial⟩, fun _ => rfl⟩
        | va xs => have hx' := hx; simp only [RelV] at hx; obtain ⟨_, rfl, _⟩ := hx; exact ⟨by simp only [LV.cells, cellsTV, RelVs]; exact ⟨hx', trivial⟩, fun _ => rfl⟩
        | fn g xs => have hx' := hx; simp only [RelV] at hx; obtain ⟨_, rfl, _⟩ := hx; exact ⟨by simp only [LV.cells, cellsTV, RelVs]; exact ⟨hx', trivial⟩, fun _ => rfl⟩
        | dead =>
          exfalso
          split at h
          · rename_i hb
            simp [deadT] at hb
          · cases h
      obtain ⟨hyv, hd⟩ := key
      split at h
      · rename_i hb
        simp only [Bool.and_eq_true, Bool.not_eq_true'] at hb
        obtain ⟨h1, h2, h3⟩ := hb
        have h1 := Nat.eq_of_beq_eq_true h1
        have h2 := Nat.le_of_ble_eq_true h2
        rw [RelVs.length hyv] at h1
        rw [RelVs.length hc] at h2
        obtain ⟨lxs, k1, k2⟩ := fillLT_some h (((hc.take o).append hyv).append (hc.drop (o + sz))) hp
        refine ⟨lxs, ?_, k2⟩
        simp only [fillL, hfs]
        rw [if_pos ⟨h1, h2, hd h3⟩]
        exact k1
      · cases h
    · cases h
end
end Go.Proofs.Ytoingpfepfhgkaa.TM
namespace Go.Proofs.Ytoingpfepfhgkaa.TM
open Go
section
variable {ρ : Type} {N : Nat} {vs vs' : VS} {st st' : St} {y : ρ} {P : Program}
abbrev Law (N : Nat) (vs : VS) (st : St) (k : Co ρ) (y : ρ) (m : M Unit) : Prop := ∃ vs' st', k vs' = some y ∧ Go1 N vs st m vs' st' (.ok ())
theorem Law.of {vs1 : VS} {st1 : St} {k : Co ρ} {m m1 : M Unit} (g : Go1 N vs st m vs1 st1 m1) (h : Law N vs1 st1 k y m1) : Law N vs st k y m := by
  obtain ⟨vs', st', h1, h2⟩ := h
  exact ⟨vs', st', h1, g.trans h2⟩
theorem tv_move {d : Option Nat} {x : Operand} {k : Co ρ} (R : Rel vs st) : evT x (fun v => outT N d v k) vs = some y →
    Law N vs st k y (ev x fun v => out d v) := by
  intro h
  obtain ⟨v, lv, vs1, h, hv, g1, _⟩ := evT_ref (N := N) (m := fun v => out d v) h R
  exact .of g1 (outT_ref h g1.rel hv)
theorem boolV {Q : Nm → Pth → Nat → Prop} {f : Fg} {r : V .bool} {lv : LV} (h : RelV Q (.c ⟨.bool, f, r⟩) lv) : lv = .t (.v (.bool r)) := by simp only [RelV] at h; exact h
theorem intV {Q : Nm → Pth → Nat → Prop} {f : Fg} {k : IntKind} {r : V (.int k)} {lv : LV} (h : RelV Q (.c ⟨.int k, f, r⟩) lv) : lv = .t (.v (.int k r)) := by simp only [RelV] at h; exact h
theorem strV {Q : Nm → Pth → Nat → Prop} {f : Fg} {r : V .str} {lv : LV} (h : RelV Q (.c ⟨.str, f, r⟩) lv) : lv = .t (.v (.string ⟨List.toArray (α := UInt8) r⟩)) := by simp only [RelV] at h; exact h
theorem addrV {Q : Nm → Pth → Nat → Prop} {n : Nm} {p : Pth} {lv : LV} (h : RelV Q (.addr n p) lv) : lv = .addr n (pthL p) := by simp only [RelV] at h; exact h
theorem boolCase {v : TV} {K : V .bool → Co ρ} {n : Nat} (h : (match v with
    | .c ⟨.bool, _, r⟩ => K r
    | _ => no n) vs = some y) : ∃ f r, v = .c ⟨.bool, f, r⟩ ∧ K r vs = some y := by
  cases v with
  | c x =>
    obtain ⟨t, f, x⟩ := x
    cases t <;> first | exact ⟨f, x, rfl, h⟩ | cases h
  | _ => cases h
theorem tv_pick {d : Option Nat} {c a b : Operand} {k : Co ρ} (R : Rel vs st) : evT c (fun vc => evT a fun va => evT b fun vb => match vc with
    | .c ⟨.bool, _, r⟩ => iteC r (outT N d va k) (outT N d vb k)
    | _ => no 30) vs = some y →
    Law N vs st k y (ev c fun vc => ev a fun va => ev b fun vb => match vc with
    | .t (.v (.bool r)) => out d (if r = true then va else vb)
    | _ => .no) := by
  intro h
  obtain ⟨v, lv, vs1, h, hv, g1, _⟩ := evT_ref (N := N) (m := fun vc => ev a fun va => ev b fun vb => match vc with
    | .t (.v (.bool r)) => out d (if r = true then va else vb)
    | _ => .no) h R
  refine .of g1 ?_
  obtain ⟨v1, lv1, vs2, h, hv1, g2, _⟩ := evT_ref (N := N) (m := fun va => ev b fun vb => match lv with
    | .t (.v (.bool r)) => out d (if r = true then va else vb)
    | _ => .no) h g1.rel
  refine .of g2 ?_
  obtain ⟨v2, lv2, vs3, h, hv2, g3, _⟩ := evT_ref (N := N) (m := fun vb => match lv with
    | .t (.v (.bool r)) => out d (if r = true then lv1 else vb)
    | _ => .no) h g2.rel
  refine .of g3 ?_
  obtain ⟨f, r, rfl, h⟩ := boolCase h
  rw [boolV hv]
  simp only
  rcases iteC_ref h with ⟨hr, h⟩ | ⟨hr, h⟩
  · rw [show r = true from hr, if_pos rfl]
    exact outT_ref h g3.rel hv1
  · rw [show r = false from hr, if_neg (by simp)]
    exact outT_ref h g3.rel hv2
theorem tv_alloc {d : Option Nat} {t : TypeId} {k : Co ρ} (R : Rel vs st) : (match d, zerosT P t with
    | some d, some cs => freshT d ⟨true, cs⟩ (wrS N d (.addr (d, 0) ⟨0, []⟩) k)
    | _, _ => no 31) vs = some y →
    Law N vs st k y (match d, zeroT P t with
    | some d, some cs => fresh d ⟨true, cs⟩ (.wrS d (.addr (d, 0) [0]) (.ok ()))
    | _, _ => .no) := by
  intro h
  cases d with
  | none => cases h
  | some d =>
    cases hz : zerosT P t with
    | none => rw [hz] at h; cases h
    | some cs =>
      rw [hz] at h
      rw [zerosT_some hz]
      simp only at h ⊢
      obtain ⟨vs1, h, g1⟩ := go_fresh (N := N) (m := .wrS d (.addr (d, 0) [0]) (.ok ())) R h
      obtain ⟨vs2, h, g2⟩ := wrS_ref (m := .ok ()) h g1.rel (lv := .addr (d, 0) [0]) (by simp [RelV, pthL])
      exact ⟨_, _, h, g1.trans g2⟩
theorem tv_box {d : Option Nat} {x : Operand} {k : Co ρ} (R : Rel vs st) : (match d with
    | some d => evT x fun v => closeCT v fun cs => freshT d ⟨true, cs⟩ (wrS N d (.addr (d, 0) ⟨0, []⟩) k)
    | none => no 32) vs = some y →
    Law N vs st k y (match d with
    | some d => ev x fun v => closeC v fun cs => fresh d ⟨true, cs⟩ (.wrS d (.addr (d, 0) [0]) (.ok ()))
    | none => .no) := by
  intro h
  cases d with
  | none => cases h
  | some d =>
    simp only at h ⊢
    obtain ⟨v, lv, vs1, h, hv, g1, _⟩ := evT_ref (N := N) (m := fun v => closeC v fun cs => fresh d ⟨true, cs⟩ (.wrS d (.addr (d, 0) [0]) (.ok ()))) h R
    refine .of g1 ?_
    obtain ⟨cs, vs2, st2, h, g2, _⟩ := closeCT_ref (N := N) (m := fun cs => fresh d ⟨true, cs⟩ (.wrS d (.addr (d, 0) [0]) (.ok ()))) h g1.rel hv.w
    refine .of g2 ?_
    obtain ⟨vs3, h, g3⟩ := go_fresh (N := N) (m := .wrS d (.addr (d, 0) [0]) (.ok ())) g2.rel h
    obtain ⟨vs4, h, g4⟩ := wrS_ref (m := .ok ()) h g3.rel (lv := .addr (d, 0) [0]) (by simp [RelV, pthL])
    exact ⟨_, _, h, g3.trans g4⟩
theorem tv_build {d : Option Nat} {t : TypeId} {parts : List (Nat × Operand)} {k : Co ρ} (R : Rel vs st) : (match buildInfo P t, zerosT P t with
    | some (_, fs), some cs => evPartsT parts fun vs => match fillLT fs (cs.map .c) vs with
      | some xs => outT N d (.agg xs) k
      | none => no 33
    | _, _ => no 34) vs = some y →
    Law N vs st k y (match buildInfo P t with
    | some (cs, fs) => evParts parts fun vs => match fillL fs (cs.map .t) vs with
      | some xs => out d (.agg xs)
      | none => .no
    | none => .no) := by
  intro h
  cases hb : buildInfo P t with
  | none => rw [hb] at h; cases h
  | some bf =>
    obtain ⟨z, fs⟩ := bf
    rw [hb] at h
    cases hz : zerosT P t with
    | none => rw [hz] at h; cases h
    | some cs =>
      rw [hz] at h
      simp only at h ⊢
      have hzc : z = encs cs := by
        have h1 := zerosT_some hz
        unfold buildInfo at hb
        rw [h1] at hb
        split at hb
        · rename_i z' fs' h2 h3
          cases h2
          obtain ⟨l, _, h4⟩ := Option.map_eq_some_iff.1 hb
          cases h4
          rfl
        · cases hb
      subst hzc
      obtain ⟨ps, lps, vs1, h, hp, g1, _⟩ := evPartsT_ref (N := N) (m := fun vs => match fillL fs ((encs cs).map .t) vs with
        | some xs => out d (.agg xs)
        | none => .no) h R
      refine .of g1 ?_
      cases hx : fillLT fs (cs.map .c) ps with
      | none => rw [hx] at h; cases h
      | some xs =>
        rw [hx] at h
        obtain ⟨lxs, h1, h2⟩ := fillLT_some hx (rel_cells cs) hp
        rw [h1]
        exact outT_ref h g1.rel (by simp only [RelV]; exact ⟨_, rfl, h2⟩)
theorem fillE_len {wd : Nat} : ∀ {cs : List (Nat × List T)} {s : Nat} {es : List (List T)}, fillE wd s cs = some es → es.length = cs.length
  | [], s, es, h => by simp only [fillE, Option.some.injEq] at h; subst h; rfl
  | (i, c) :: rest, s, es, h => by
    simp only [fillE] at h
    split at h
    · obtain ⟨l, h1, rfl⟩ := Option.map_eq_some_iff.1 h
      simp [fillE_len h1]
    · cases h
theorem fresh_ref {d : Nat} {c : Cl} {es : List (List T)} {k : Co ρ} {hi : Nat} (h : freshT d ⟨false, [c]⟩ (wrS N d (.ref (d, 0) ⟨0, []⟩ none) k) vs = some y) (R : Rel vs st) (hc : c.enc = .sl .own es) (hh : hi = es.length) :
    Law N vs st k y (fresh d ⟨false, [.sl .own es]⟩ (.wrS d (.ref (d, 0) [0] 0 hi) (.ok ()))) := by
  obtain ⟨vs1, h, g1⟩ := go_fresh (N := N) (m := .wrS d (.ref (d, 0) [0] 0 hi) (.ok ())) R h
  have e : (⟨false, encs [c]⟩ : Box) = ⟨false, [.sl .own es]⟩ := by simp [encs, hc]
  rw [e] at g1
  obtain ⟨vs2, h, g2⟩ := wrS_ref (m := .ok ()) h g1.rel (lv := .ref (d, 0) [0] 0 hi) (by
    simp only [RelV]
    refine ⟨hi, rfl, es, [], ?_, hh⟩
    simp [pthL, rowAt])
  exact ⟨_, _, h, g1.trans g2⟩
theorem tv_buildSlice {d : Option Nat} {t : TypeId} {len : Nat} {parts : List (Nat × Operand)} {k : Co ρ} (R : Rel vs st) : (match d, rowT P t with
    | some d, some r => match Nat.ble (len * r.length) 16777216 with
      | true => evPartsT parts fun vs => closePartsT vs fun cs => match Nat.beq cs.length len with
        | true => fun st => fillET (cts r) (partF r cs) 0 cs fun l => freshT d ⟨false, [⟨.sl (cts r), partN r cs, l⟩]⟩ (wrS N d (.ref (d, 0) ⟨0, []⟩ none) k) st
        | false => no 35
      | false => no 35
    | _, _ => no 36) vs = some y →
    Law N vs st k y (match d, rowInfo P t with
    | some d, some z => if len * z.length ≤ 16777216 then evParts parts fun vs => closeParts vs fun cs => match fillE z.length 0 cs with
        | some es => if es.length = len then fresh d ⟨false, [.sl .own es]⟩ (.wrS d (.ref (d, 0) [0] 0 len) (.ok ())) else .no
        | none => .no
      else .no
    | _, _ => .no) := by
  intro h
  cases d with
  | none => cases h
  | some d =>
    cases hr : rowT P t with
    | none => rw [hr] at h; cases h
    | some r =>
      rw [hr] at h
      obtain ⟨z, e, h1, h2, h3, h4⟩ := rowT_some hr
      rw [h1]
      simp only at h ⊢
      cases hc : Nat.ble (len * r.length) 16777216 with
      | false => rw [hc] at h; cases h
      | true =>
        rw [hc] at h
        have hc1 := Nat.le_of_ble_eq_true hc
        rw [h4, if_pos hc1]
        simp only at h
        obtain ⟨ps, lps, vs1, h, hp, g1, _⟩ := evPartsT_ref (N := N) (m := fun vs => closeParts vs fun cs => match fillE r.length 0 cs with
          | some es => if es.length = len then fresh d ⟨false, [.sl .own es]⟩ (.wrS d (.ref (d, 0) [0] 0 len) (.ok ())) else .no
          | none => .no) h R
        refine .of g1 ?_
        obtain ⟨cs, vs2, st2, h, g2, _⟩ := closePartsT_ref (N := N) (m := fun cs => match fillE r.length 0 cs with
          | some es => if es.length = len then fresh d ⟨false, [.sl .own es]⟩ (.wrS d (.ref (d, 0) [0] 0 len) (.ok ())) else .no
          | none => .no) h g1.rel hp.w
        refine .of g2 ?_
        cases hl : Nat.beq cs.length len with
        | false => rw [hl] at h; cases h
        | true =>
          rw [hl] at h
          have hlen := Nat.eq_of_beq_eq_true hl
          simp only at h
          obtain ⟨l, h, h5⟩ := fillET_some h
          have h6 : (cts r).length = r.length := by simp [cts]
          rw [h6] at h5
          have hel := fillE_len h5
          rw [show (encPs cs).length = cs.length by simp [encPs], hlen] at hel
          rw [h5]
          simp only
          rw [if_pos hel]
          refine fresh_ref h g2.rel ?_ hel.symm
          cases cs with
          | nil =>
            have : lis (cts r) l = [] := by
              have : ((lis (cts r) l).map fun e => encR (cts r) (partF r []) e).length = 0 := by rw [hel, ← hlen]; rfl
              rw [List.length_map] at this
              exact List.length_eq_zero_iff.1 this
            rw [this]
            rfl
          | cons c cs => rfl
end
end Go.Proofs.Ytoingpfepfhgkaa.TM
namespace Go.Proofs.Ytoingpfepfhgkaa.TM
open Go
section
variable {ρ : Type} {N : Nat} {vs vs' : VS} {st st' : St} {y : ρ} {P : Program}
theorem cmp_ref {k0 : IntKind} {op : BinOp} {a b : V (.int k0)} {r : V .bool} (h : cmpT k0 op a b = some r) : cmpI op a b = some r := by
  cases op <;> simp only [cmpT, Option.some.injEq] at h <;> first | (subst h; rfl) | cases h
abbrev binL (N : Nat) (P : Program) (t : TypeId) (op : BinOp) (d : Option Nat) (vs : VS) (st : St) (k : Co ρ) (y : ρ) (lv lu : LV) : Prop := Law N vs st k y (match binV P t op lv lu with
      | some r => out d (.t (.v r))
      | none => .no)
theorem out_law {d : Option Nat} {c : Cl} {x : Value} {k : Co ρ} (R : Rel vs st) (hc : c.enc = .v x) (h : outT N d (.c c) k vs = some y) : Law N vs st k y (out d (.t (.v x))) :=
  outT_ref h R (by simp only [RelV]; rw [hc])
theorem div_zero {l : IntKind} {b : V (.int l)} {d : Option Nat} {c : Cl} {k : Co ρ} (h : iteC (ieq l b (iLit l 0)) (no 17) (outT N d (.c c) k) vs = some y) : (show Int from b) ≠ 0 ∧ outT N d (.c c) k vs = some y := by
  rcases iteC_ref h with ⟨_, h⟩ | ⟨hb, h⟩
  · cases h
  · refine ⟨fun hb0 => ?_, h⟩
    have : ((show Int from b) == (0 : Int)) = false := hb
    rw [hb0] at this
    cases this
theorem bin_int {t : TypeId} {op : BinOp} {d : Option Nat} {l m : IntKind} {a : V (.int l)} {b : V (.int m)} {f1 f2 : Fg} {k : Co ρ} (R : Rel vs st) :
    binT N P t op d (.c ⟨.int l, f1, a⟩) (.c ⟨.int m, f2, b⟩) k vs = some y → binL N P t op d vs st k y (.t (.v (.int l a))) (.t (.v (.int m b))) := by
  intro h
  have hs : ∀ r : V (.int l), shI l op a b = some r → iteC (ilt m b (iLit m 0)) (no 17) (outT N d (.c ⟨.int l, .z, r⟩) k) vs = some y → binL N P t op d vs st k y (.t (.v (.int l a))) (.t (.v (.int m b))) := by
    intro r hr h
    rcases iteC_ref h with ⟨_, h⟩ | ⟨hb, h⟩
    · cases h
    · have hb' : ¬ (show Int from b) < 0 := of_decide_eq_false hb
      unfold binL
      simp only [binV, intB, hr]
      rw [if_neg hb']
      exact out_law R (c := ⟨.int l, .z, r⟩) rfl h
  by_cases h1 : op = .shl
  · subst h1; exact hs _ rfl h
  by_cases h2 : op = .shr
  · subst h2; exact hs _ rfl h
  have hn : shI l op a b = none := by cases op <;> first | rfl | exact absurd rfl h1 | exact absurd rfl h2
  have h : (match decide (l = m) with
      | true => intT N op d l a (icast l m b) k
      | false => no 18) vs = some y := by
    simp only [binT] at h
    cases op <;> first | exact h | exact absurd rfl h1 | exact absurd rfl h2
  cases hd : decide (l = m) with
  | false => rw [hd] at h; cases h
  | true =>
    rw [hd] at h
    have hlm := of_decide_eq_true hd
    subst hlm
    unfold binL
    simp only [binV, intB, hn, if_true]
    have h : intT N op d l a b k vs = some y := h
    cases op with
    | add => exact out_law R (c := ⟨.int l, .z, iadd l a b⟩) rfl h
    | sub => exact out_law R (c := ⟨.int l, .z, isub l a b⟩) rfl h
    | mul => exact out_law R (c := ⟨.int l, .z, imul l a b⟩) rfl h
    | quo =>
      obtain ⟨h0, h⟩ := div_zero h
      simp only [ariI]
      rw [if_neg h0]
      exact out_law R (c := ⟨.int l, .z, iquo l a b⟩) rfl h
    | rem =>
      obtain ⟨h0, h⟩ := div_zero h
      simp only [ariI]
      rw [if_neg h0]
      exact out_law R (c := ⟨.int l, .z, irem l a b⟩) rfl h
    | and => exact out_law R (c := ⟨.int l, .z, iand l a b⟩) rfl h
    | or => exact out_law R (c := ⟨.int l, .z, ior l a b⟩) rfl h
    | xor => exact out_law R (c := ⟨.int l, .z, ixor l a b⟩) rfl h
    | eql => exact out_law R (c := ⟨.bool, .z, ieq l a b⟩) rfl h
    | neq => exact out_law R (c := ⟨.bool, .z, bnot (ieq l a b)⟩) rfl h
    | lss => exact out_law R (c := ⟨.bool, .z, ilt l a b⟩) rfl h
    | leq => exact out_law R (c := ⟨.bool, .z, ile l a b⟩) rfl h
    | gtr => exact out_law R (c := ⟨.bool, .z, ilt l b a⟩) rfl h
    | geq => exact out_law R (c := ⟨.bool, .z, ile l b a⟩) rfl h
    | _ => first | cases h | exact absurd rfl h1 | exact absurd rfl h2
theorem str_cat (a b : List UInt8) : ByteArray.mk a.toArray ++ ByteArray.mk b.toArray = ByteArray.mk (a ++ b).toArray := by
  have : (ByteArray.mk a.toArray ++ ByteArray.mk b.toArray).data = (a ++ b).toArray := by simp
  cases hx : (ByteArray.mk a.toArray ++ ByteArray.mk b.toArray) with
  | mk dd => rw [hx] at this; simp only at this; rw [this]
theorem bin_str {t : TypeId} {op : BinOp} {d : Option Nat} {a b : List UInt8} {f1 f2 : Fg} {k : Co ρ} (R : Rel vs st) :
    binT N P t op d (.c ⟨.str, f1, a⟩) (.c ⟨.str, f2, b⟩) k vs = some y → binL N P t op d vs st k y (.t (.v (.string ⟨a.toArray⟩))) (.t (.v (.string ⟨b.toArray⟩))) := by
  intro h
  cases op with
  | eql => exact out_law R (c := ⟨.bool, .z, seqv a b⟩) rfl h
  | neq => exact out_law R (c := ⟨.bool, .z, bnot (seqv a b)⟩) rfl h
  | lss => exact out_law R (c := ⟨.bool, .z, sltv a b⟩) rfl h
  | geq => exact out_law R (c := ⟨.bool, .z, bnot (sltv a b)⟩) rfl h
  | add =>
    simp only [binT, scat, catS] at h
    split at h
    · rename_i hlen
      have hs : (ByteArray.mk a.toArray).size + (ByteArray.mk b.toArray).size ≤ small := hlen
      unfold binL
      rw [show binV P t .add (.t (.v (.string ⟨a.toArray⟩))) (.t (.v (.string ⟨b.toArray⟩))) = if (ByteArray.mk a.toArray).size + (ByteArray.mk b.toArray).size ≤ small then some (.string (ByteArray.mk a.toArray ++ ByteArray.mk b.toArray)) else none from rfl, if_pos hs, str_cat]
      exact out_law R (c := ⟨.str, .z, a ++ b⟩) rfl h
    · cases h
  | _ => cases h
theorem bin_bool {t : TypeId} {op : BinOp} {d : Option Nat} {a b : Bool} {f1 f2 : Fg} {k : Co ρ} (R : Rel vs st) :
    binT N P t op d (.c ⟨.bool, f1, a⟩) (.c ⟨.bool, f2, b⟩) k vs = some y → binL N P t op d vs st k y (.t (.v (.bool a))) (.t (.v (.bool b))) := by
  intro h
  simp only [binT] at h
  unfold binL
  simp only [binV]
  cases hu : P.underlying t with
  | none => rw [hu] at h; cases h
  | some ds =>
    rw [hu] at h
    cases ds with
    | bool =>
      cases op with
      | eql => exact out_law R (c := ⟨.bool, .z, beqv a b⟩) rfl h
      | neq => exact out_law R (c := ⟨.bool, .z, bnot (beqv a b)⟩) rfl h
      | _ => cases h
    | _ => cases h
theorem nthT_rel {Q : Nm → Pth → Nat → Prop} : ∀ {xs : List TV} {lxs : List LV} {n : Nat} {v : TV}, RelVs Q xs lxs → nthT xs n = some v → ∃ lv, lxs[n]? = some lv ∧ RelV Q v lv
  | [], _, _, _, _, h => by simp [nthT] at h
  | x :: xs, [], _, _, hr, _ => by simp only [RelVs] at hr
  | x :: xs, l :: ls, 0, v, hr, h => by
    simp only [RelVs] at hr
    simp only [nthT, Option.some.injEq] at h
    subst h
    exact ⟨l, by simp, hr.1⟩
  | x :: xs, l :: ls, n + 1, v, hr, h => by
    simp only [RelVs] at hr
    simp only [nthT] at h
    obtain ⟨lv, h1, h2⟩ := nthT_rel hr.2 h
    exact ⟨lv, by simpa using h1, h2⟩
theorem flat1T_rel {Q : Nm → Pth → Nat → Prop} {d : Option TypeDesc} {x y : TV} {lx ly : LV} {r : V .bool} (h : flat1T d x y = some r) (hx : RelV Q x lx) (hy : RelV Q y ly) : flat1 d lx ly = some r := by
  unfold flat1T at h
  split at h
  · rw [boolV hx, boolV hy]; cases h; rfl
  · rename_i k _ a l _ b
    rw [intV hx, intV hy]
    cases hk : decide (k = l) with
    | false => rw [hk] at h; cases h
    | true =>
      rw [hk] at h
      cases h
      have := of_decide_eq_true hk
      simp only [flat1, if_pos this]
      rfl
  · rw [strV hx, strV hy]
    cases h
    simp only [flat1]
    rfl
  · cases h
theorem eqFT_rel {Q : Nm → Pth → Nat → Prop} {xs ys : List TV} {lxs lys : List LV} (hx : RelVs Q xs lxs) (hy : RelVs Q ys lys) : ∀ (fs : List Field) {r : V .bool}, eqFT P fs xs ys = some r → eqFs P fs lxs lys = some r
  | [], r, h => by simp only [eqFT, Option.some.injEq] at h; subst h; rfl
  | f :: fs, r, h => by
    simp only [eqFT] at h
    cases hn : (f.name == "_") with
    | true => rw [hn] at h; cases h
    | false =>
      rw [hn] at h
      cases h1 : nthT xs f.offset with
      | none => rw [h1] at h; cases h
      | some x =>
        rw [h1] at h
        cases h2 : nthT ys f.offset with
        | none => rw [h2] at h; cases h
        | some z =>
          rw [h2] at h
          simp only at h
          cases h3 : flat1T (P.underlying f.type) x z with
          | none => rw [h3] at h; cases fs <;> cases h
          | some r1 =>
            rw [h3] at h
            cases h4 : eqFT P fs xs ys with
            | none => rw [h4] at h; cases fs <;> cases h
            | some r2 =>
              rw [h4] at h
              have h : r = Bool.and r1 r2 := by
                cases fs with
                | nil =>
                  simp only [eqFT, Option.some.injEq] at h4
                  cases h
                  rw [← h4]
                  exact (Bool.and_true r).symm
                | cons _ _ => cases h; rfl
              subst h
              obtain ⟨lx, k1, k2⟩ := nthT_rel hx h1
              obtain ⟨ly, k3, k4⟩ := nthT_rel hy h2
              simp only [eqFs, hn, k1, k3, flat1T_rel h3 k2 k4, eqFT_rel hx hy fs h4]
              rfl
theorem bin_agg {t : TypeId} {op : BinOp} {d : Option Nat} {xs ys : List TV} {lv lu : LV} {k : Co ρ} (R : Rel vs st) (hv : RelV (Qs st.b) (.agg xs) lv) (hu : RelV (Qs st.b) (.agg ys) lu) :
    binT N P t op d (.agg xs) (.agg ys) k vs = some y → binL N P t op d vs st k y lv lu := by
  intro h
  simp only [RelV] at hv hu
  obtain ⟨lxs, rfl, hx⟩ := hv
  obtain ⟨lys, rfl, hy⟩ := hu
  simp only [binT] at h
  unfold eqST at h
  unfold binL
  simp only [binV]
  cases hp : P.underlying t with
  | none => rw [hp] at h; cases h
  | some u =>
    rw [hp] at h
    cases u with
    | struct fs =>
      simp only at h ⊢
      cases hs : (P.stoodInHeld t || P.eqGuardType P.depth t) with
      | true => rw [hs] at h; cases h
      | false =>
        rw [hs] at h
        simp only [Bool.or_eq_false_iff] at hs
        rw [if_pos hs]
        simp only at h
        cases he : eqFT P fs.toList xs ys with
        | none => rw [he] at h; cases h
        | some r =>
          rw [he] at h
          rw [eqFT_rel hx hy _ he]
          cases op with
          | eql => exact out_law R (x := .bool r) rfl h
          | neq => exact out_law R (x := .bool (!r)) rfl h
          | _ => cases h
    | _ => cases h
theorem binT_ref {t : TypeId} {op : BinOp} {d : Option Nat} {v u : TV} {lv lu : LV} {k : Co ρ} (R : Rel vs st) (hv : RelV (Qs st.b) v lv) (hu : RelV (Qs st.b) u lu) :
    binT N P t op d v u k vs = some y → binL N P t op d vs st k y lv lu := by
  intro h
  cases v with
  | c x =>
    cases u with
    | c z =>
      obtain ⟨t1, f1, a⟩ := x
      obtain ⟨t2, f2, b⟩ := z
      simp only [RelV] at hv hu
      subst hv
      subst hu
      cases t1 with
      | int k1 =>
        cases t2 with
        | int k2 =>
          exact bin_int R h
        | _ => cases h
      | str => cases t2 <;> first | exact bin_str R h | cases h
      | bool => cases t2 <;> first | exact bin_bool R h | cases h
      | _ => cases h
    | _ =>
      obtain ⟨t1, f1, a⟩ := x
      cases t1 with
      | _ => cases h
  | agg xs =>
    cases u with
    | agg ys => exact bin_agg R hv hu h
    | _ => cases h
  | _ => cases h
end
end Go.Proofs.Ytoingpfepfhgkaa.TM
namespace Go.Proofs.Ytoingpfepfhgkaa.TM
open Go
section
variable {ρ : Type} {N : Nat} {vs vs' : VS} {st st' : St} {y : ρ} {P : Program}
theorem at_some {α : Type} {l : List α} {i : Int} {k : Nat → α → Option ρ} (h : at_ l i k = some y) : ∃ e, 0 ≤ i ∧ l[i.toNat]? = some e ∧ k i.toNat e = some y := by
  unfold at_ at h
  split at h
  · rename_i e he
    split at he
    · exact ⟨e, by assumption, he, h⟩
    · cases he
  · cases h
theorem slice_app {row : List ST} {a b : V (.sl row)} : lis row (List.append (α := R row) a b) = lis row a ++ lis row b := rfl
theorem cell_head {_row : List Cl} {_r : List T} {_k : List T → Prop} : True := trivial
theorem tv_load {d : Option Nat} {t : TypeId} {x : Operand} {k : Co ρ} (R : Rel vs st) : (evT x fun v => match v with
    | .addr n p => rowC n p fun row => match isAgg P t with
      | some true => match Nat.ble (P.cellsOf t) row.length with
        | true => outT N d (.agg (seensT n p 0 (row.take (P.cellsOf t)))) k
        | false => no 40
      | some false => match row with
        | y :: _ => outT N d (seenT n (p.add 0) y) k
        | [] => no 41
      | none => no 42
    | .raddr cs => match isAgg P t with
      | some true => match Nat.ble (P.cellsOf t) cs.length with
        | true => outT N d (.agg ((cs.take (P.cellsOf t)).map .c)) k
        | false => no 43
      | some false => match cs with
        | y :: _ => outT N d (.c y) k
        | [] => no 44
      | none => no 45
    | .va xs => match isAgg P t with
      | some true => match Nat.ble (P.cellsOf t) xs.length with
        | true => outT N d (.agg (xs.take (P.cellsOf t))) k
        | false => no 43
      | some false => match xs with
        | y :: _ => outT N d y k
        | [] => no 44
      | none => no 45
    | _ => no 46) vs = some y → Law N vs st k y (ev x fun v => match v with
    | .addr n p => .rdB n fun bx => match rowAt bx.cells p with
      | some row => match isAgg P t with
        | some true => if P.cellsOf t ≤ row.length then out d (.agg (seens n p 0 (row.take (P.cellsOf t)))) else .no
        | some false => match row with
          | y :: _ => out d (seen n (bump 0 p) y)
          | [] => .no
        | none => .no
      | none => .no
    | .raddr cs => match isAgg P t with
      | some true => if P.cellsOf t ≤ cs.length then out d (.agg ((cs.take (P.cellsOf t)).map .t)) else .no
      | some false => match cs with
        | y :: _ => out d (.t y)
        | [] => .no
      | none => .no
    | .va xs => match isAgg P t with
      | some true => if P.cellsOf t ≤ xs.length then out d (.agg (xs.take (P.cellsOf t))) else .no
      | some false => match xs with
        | y :: _ => out d y
        | [] => .no
      | none => .no
    | _ => .no) := by
  intro h
  obtain ⟨v, lv, vs1, h, hv, g1, _⟩ := evT_ref (N := N) (m := fun v => match v with
    | .addr n p => .rdB n fun bx => match rowAt bx.cells p with
      | some row => match isAgg P t with
        | some true => if P.cellsOf t ≤ row.length then out d (.agg (seens n p 0 (row.take (P.cellsOf t)))) else .no
        | some false => match row with
          | y :: _ => out d (seen n (bump 0 p) y)
          | [] => .no
        | none => .no
      | none => .no
    | .raddr cs => match isAgg P t with
      | some true => if P.cellsOf t ≤ cs.length then out d (.agg ((cs.take (P.cellsOf t)).map .t)) else .no
      | some false => match cs with
        | y :: _ => out d (.t y)
        | [] => .no
      | none => .no
    | .va xs => match isAgg P t with
      | some true => if P.cellsOf t ≤ xs.length then out d (.agg (xs.take (P.cellsOf t))) else .no
      | some false => match xs with
        | y :: _ => out d y
        | [] => .no
      | none => .no
    | _ => .no) h R
  refine .of g1 ?_
  cases v with
  | addr n p =>
    rw [addrV hv]
    obtain ⟨row, vs2, h, hrow, g2, _⟩ := rowC_ref (N := N) (m := fun bx => match rowAt bx.cells (pthL p) with
      | some row => match isAgg P t with
        | some true => if P.cellsOf t ≤ row.length then out d (.agg (seens n (pthL p) 0 (row.take (P.cellsOf t)))) else .no
        | some false => match row with
          | y :: _ => out d (seen n (bump 0 (pthL p)) y)
          | [] => .no
        | none => .no
      | none => .no) h g1.rel
    refine .of g2 ?_
    rw [hrow]
    simp only
    have hrow0 : rowAt (st.b n).cells (pthL (p.add 0)) = some (encs row) := by rw [pthL_add, bump_zero]; exact hrow
    cases ha : isAgg P t with
    | none => rw [ha] at h; cases h
    | some b =>
      rw [ha] at h
      cases b with
      | true =>
        simp only at h ⊢
        cases hc : Nat.ble (P.cellsOf t) row.length with
        | false => rw [hc] at h; cases h
        | true =>
          rw [hc] at h
          rw [if_pos (by simpa [encs] using Nat.le_of_ble_eq_true hc)]
          refine outT_ref h g2.rel ?_
          simp only [RelV]
          refine ⟨_, rfl, ?_⟩
          rw [encs_take]
          refine seensT_rel _ 0 (row := encs (row.drop (P.cellsOf t))) ?_
          rw [hrow0]
          simp only [encs, ← List.map_append, List.take_append_drop]
      | false =>
        cases row with
        | nil => cases h
        | cons z rest =>
          simp only [encs, List.map_cons] at h ⊢
          refine outT_ref h g2.rel ?_
          rw [← pthL_add]
          exact seenT_rel hrow0
  | raddr cs =>
    simp only [RelV] at hv
    subst hv
    simp only
    cases ha : isAgg P t with
    | none => simp only [ha] at h; cases h
    | some b =>
      simp only [ha] at h
      cases b with
      | true =>
        simp only at h ⊢
        cases hc : Nat.ble (P.cellsOf t) cs.length with
        | false => rw [hc] at h; cases h
        | true =>
          rw [hc] at h
          have hle := Nat.le_of_ble_eq_true hc
          have hl : (encs cs).length = cs.length := by simp [encs]
          rw [if_pos (by omega), encs_take]
          exact outT_ref h g1.rel (by simp only [RelV]; exact ⟨_, rfl, rel_cells _⟩)
      | false =>
        cases cs with
        | nil => cases h
        | cons z cs => exact outT_ref h g1.rel (by simp only [RelV])
  | va xs =>
    simp only [RelV] at hv
    obtain ⟨us, rfl, hu⟩ := hv
    simp only
    cases ha : isAgg P t with
    | none => simp only [ha] at h; cases h
    | some b =>
      simp only [ha] at h
      cases b with
      | true =>
        simp only at h ⊢
        cases hc : Nat.ble (P.cellsOf t) xs.length with
        | false => rw [hc] at h; cases h
        | true =>
          rw [hc] at h
          have hle := Nat.le_of_ble_eq_true hc
          rw [if_pos (by rw [← RelVs.length hu]; exact hle)]
          exact outT_ref h g1.rel (by simp only [RelV]; exact ⟨_, rfl, hu.take _⟩)
      | false =>
        cases xs with
        | nil => cases h
        | cons z xs =>
          cases us with
          | nil => simp only [RelVs] at hu
          | cons u us =>
            simp only [RelVs] at hu
            exact outT_ref h g1.rel hu.1
  | _ => cases h
theorem tv_store {d : Option Nat} {t : TypeId} {x z : Operand} {k : Co ρ} (R : Rel vs st) : (evT x fun v => match v with
    | .addr n p => evT z fun u => closeCT u fun cs => match Nat.beq (P.cellsOf t) cs.length && Nat.blt 0 cs.length with
      | true => storesT n p 0 cs (outT N d .dead k)
      | false => no 47
    | _ => no 48) vs = some y → Law N vs st k y (ev x fun v => match v with
    | .addr n p => ev z fun u => closeC u fun cs => if P.cellsOf t = cs.length ∧ 0 < cs.length then stores n p 0 cs (out d .dead) else .no
    | _ => .no) := by
  intro h
  obtain ⟨v, lv, vs1, h, hv, g1, _⟩ := evT_ref (N := N) (m := fun v => match v with
    | .addr n p => ev z fun u => closeC u fun cs => if P.cellsOf t = cs.length ∧ 0 < cs.length then stores n p 0 cs (out d .dead) else .no
    | _ => .no) h R
  refine .of g1 ?_
  cases v with
  | addr n p =>
    rw [addrV hv]
    obtain ⟨u, lu, vs2, h, hu, g2, _⟩ := evT_ref (N := N) (m := fun u => closeC u fun cs => if P.cellsOf t = cs.length ∧ 0 < cs.length then stores n (pthL p) 0 cs (out d .dead) else .no) h g1.rel
    refine .of g2 ?_
    obtain ⟨cs, vs3, st3, h, g3, _⟩ := closeCT_ref (N := N) (m := fun cs => if P.cellsOf t = cs.length ∧ 0 < cs.length then stores n (pthL p) 0 cs (out d .dead) else .no) h g2.rel hu.w
    refine .of g3 ?_
    cases hc : (Nat.beq (P.cellsOf t) cs.length && Nat.blt 0 cs.length) with
    | false => rw [hc] at h; cases h
    | true =>
      rw [hc] at h
      simp only [Bool.and_eq_true] at hc
      have h1 := Nat.eq_of_beq_eq_true hc.1
      have h2 : 0 < cs.length := by simpa using hc.2
      rw [if_pos (by simpa [encs] using ⟨h1, h2⟩)]
      obtain ⟨vs4, st4, h, g4⟩ := storesT_ref (N := N) (m := out d .dead) cs h g3.rel
      exact .of g4 (outT_ref h g4.rel (by simp only [RelV]))
  | _ => cases h
theorem tv_nilCheck {d : Option Nat} {x : Operand} {k : Co ρ} (R : Rel vs st) : (evT x fun v => match v with
    | .addr n p => outT N d (.addr n p) k
    | .raddr cs => outT N d (.raddr cs) k
    | _ => no 49) vs = some y → Law N vs st k y (ev x fun v => match v with
    | .addr n p => out d (.addr n p)
    | .raddr cs => out d (.raddr cs)
    | _ => .no) := by
  intro h
  obtain ⟨v, lv, vs1, h, hv, g1, _⟩ := evT_ref (N := N) (m := fun v => match v with
    | .addr n p => out d (.addr n p)
    | .raddr cs => out d (.raddr cs)
    | _ => .no) h R
  refine .of g1 ?_
  cases v with
  | addr n p => rw [addrV hv]; exact outT_ref h g1.rel (by simp only [RelV])
  | raddr cs =>
    have hv' := hv
    simp only [RelV] at hv
    subst hv
    exact outT_ref h g1.rel hv'
  | _ => cases h
theorem tv_unOp {op : UnOp} {d : Option Nat} {x : Operand} {k : Co ρ} (R : Rel vs st) : (evT x fun v => match op, v with
    | .not, .c ⟨.bool, _, r⟩ => outT N d (.c ⟨.bool, .z, bnot r⟩) k
    | .neg, .c ⟨.int .i64, _, n⟩ => outT N d (.c ⟨.int .i64, .z, ineg .i64 n⟩) k
    | _, _ => no 50) vs = some y → Law N vs st k y (ev x fun v => match op, v with
    | .not, .t (.v (.bool b)) => out d (.t (.v (.bool (!b))))
    | .neg, .t (.v (.int .i64 n)) => out d (.t (.v (.int .i64 (IntKind.i64.wrap (-n)))))
    | _, _ => .no) := by
  intro h
  obtain ⟨v, lv, vs1, h, hv, g1, _⟩ := evT_ref (N := N) (m := fun v => match op, v with
    | .not, .t (.v (.bool b)) => out d (.t (.v (.bool (!b))))
    | .neg, .t (.v (.int .i64 n)) => out d (.t (.v (.int .i64 (IntKind.i64.wrap (-n)))))
    | _, _ => .no) h R
  refine .of g1 ?_
  cases v with
  | c x =>
    obtain ⟨t, f, a⟩ := x
    cases op with
    | not =>
      cases t with
      | bool => rw [boolV hv]; exact out_law g1.rel (c := ⟨.bool, .z, bnot a⟩) rfl h
      | _ => cases h
    | neg =>
      cases t with
      | int k0 =>
        cases k0 with
        | i64 => rw [intV hv]; exact out_law g1.rel (c := ⟨.int .i64, .z, ineg .i64 a⟩) rfl h
        | _ => cases h
      | _ => cases h
    | _ => cases h
  | _ => cases op <;> cases h
theorem tv_fieldAddr {d : Option Nat} {s : TypeId} {x : Operand} {f : Nat} {k : Co ρ} (R : Rel vs st) : (match fieldAt P s f with
    | some fl => match Nat.blt 0 (P.cellsOf fl.type) with
      | true => evT x fun v => match v with
        | .addr n p => outT N d (.addr n (p.add fl.offset)) k
        | .raddr cs => outT N d (.raddr (cs.drop fl.offset)) k
        | .va xs => outT N d (.va (xs.drop fl.offset)) k
        | _ => no 51
      | false => no 52
    | none => no 53) vs = some y → Law N vs st k y (match fieldAt P s f with
    | some fl => if 0 < P.cellsOf fl.type then ev x fun v => match v with
      | .addr n p => out d (.addr n (bump fl.offset p))
      | .raddr cs => out d (.raddr (cs.drop fl.offset))
      | .va xs => out d (.va (xs.drop fl.offset))
      | _ => .no
      else .no
    | none => .no) := by
  intro h
  cases hf : fieldAt P s f with
  | none => rw [hf] at h; cases h
  | some fl =>
    rw [hf] at h
    simp only at h ⊢
    cases hc : Nat.blt 0 (P.cellsOf fl.type) with
    | false => rw [hc] at h; cases h
    | true =>
      rw [hc] at h
      rw [if_pos (by simpa using hc)]
      simp only at h
      obtain ⟨v, lv, vs1, h, hv, g1, _⟩ := evT_ref (N := N) (m := fun v => match v with
        | .addr n p => out d (.addr n (bump fl.offset p))
        | .raddr cs => out d (.raddr (cs.drop fl.offset))
        | .va xs => out d (.va (xs.drop fl.offset))
        | _ => .no) h R
      refine .of g1 ?_
      cases v with
      | addr n p => rw [addrV hv]; exact outT_ref h g1.rel (by simp only [RelV, pthL_add])
      | raddr cs =>
        simp only [RelV] at hv
        subst hv
        refine outT_ref h g1.rel ?_
        simp only [RelV, encs_drop]
      | va xs =>
        simp only [RelV] at hv
        obtain ⟨us, rfl, hu⟩ := hv
        refine outT_ref h g1.rel ?_
        simp only [RelV]
        exact ⟨_, rfl, hu.drop _⟩
      | _ => cases h
theorem tv_field {d : Option Nat} {s : TypeId} {x : Operand} {f : Nat} {k : Co ρ} (R : Rel vs st) : (match fieldAt P s f with
    | some fl => evT x fun v => match v with
      | .agg xs => match isAgg P fl.type with
        | some true => match Nat.ble (fl.offset + P.cellsOf fl.type) xs.length with
          | true => outT N d (.agg ((xs.drop fl.offset).take (P.cellsOf fl.type))) k
          | false => no 54
        | some false => match xs.drop fl.offset with
          | y :: _ => outT N d y k
          | [] => no 55
        | none => no 56
      | _ => no 57
    | none => no 58) vs = some y → Law N vs st k y (match fieldAt P s f with
    | some fl => ev x fun v => match v with
      | .agg xs => match isAgg P fl.type with
        | some true => if fl.offset + P.cellsOf fl.type ≤ xs.length then out d (.agg ((xs.drop fl.offset).take (P.cellsOf fl.type))) else .no
        | some false => match xs[fl.offset]? with
          | some y => out d y
          | none => .no
        | none => .no
      | _ => .no
    | none => .no) := by
  intro h
  cases hf : fieldAt P s f with
  | none => rw [hf] at h; cases h
  | some fl =>
    rw [hf] at h
    simp only at h ⊢
    obtain ⟨v, lv, vs1, h, hv, g1, _⟩ := evT_ref (N := N) (m := fun v => match v with
      | .agg xs => match isAgg P fl.type with
        | some true => if fl.offset + P.cellsOf fl.type ≤ xs.length then out d (.agg ((xs.drop fl.offset).take (P.cellsOf fl.type))) else .no
        | some false => match xs[fl.offset]? with
          | some y => out d y
          | none => .no
        | none => .no
      | _ => .no) h R
    refine .of g1 ?_
    cases v with
    | agg xs =>
      simp only [RelV] at hv
      obtain ⟨us, rfl, hu⟩ := hv
      simp only
      cases ha : isAgg P fl.type with
      | none => simp only [ha] at h; cases h
      | some b =>
        simp only [ha] at h
        cases b with
        | true =>
          simp only at h ⊢
          cases hc : Nat.ble (fl.offset + P.cellsOf fl.type) xs.length with
          | false => rw [hc] at h; cases h
          | true =>
            rw [hc] at h
            rw [if_pos (by rw [← RelVs.length hu]; exact Nat.le_of_ble_eq_true hc)]
            exact outT_ref h g1.rel (by simp only [RelV]; exact ⟨_, rfl, (hu.drop _).take _⟩)
        | false =>
          simp only at h ⊢
          have hd := hu.drop fl.offset
          cases hx : xs.drop fl.offset with
          | nil => rw [hx] at h; cases h
          | cons z rest =>
            rw [hx] at h hd
            cases hux : us.drop fl.offset with
            | nil => rw [hux] at hd; simp only [RelVs] at hd
            | cons w rest' =>
              rw [hux] at hd
              simp only [RelVs] at hd
              rw [drop_head hux]
              exact outT_ref h g1.rel hd.1
    | _ => cases h
theorem pthL_snoc (p : Pth) (m : Nat) : pthL ⟨p.c0, p.r ++ [(m, 0)]⟩ = pthL p ++ [m, 0] := by simp [pthL]
theorem tv_indexAddr {d : Option Nat} {t : TypeId} {x i : Operand} {k : Co ρ} (R : Rel vs st) : (match P.underlying t with
    | some (.slice el) => evT x fun v => evT i fun w => match v, w with
      | .c ⟨.sl r, .sl f fs, l⟩, .c ⟨.int .i64, _, j⟩ => match f.low && (Nat.beq r.length (P.cellsOf el) && Nat.beq fs.length r.length) with
        | true => fun st => lget r l j fun _ e => outT N d (.raddr (cellsOf r fs e)) k st
        | false => no 59
      | .ref n p none, .c ⟨.int .i64, _, j⟩ => rowC n p fun row => match row with
        | ⟨.sl r, .sl .own fs, l⟩ :: _ => match Nat.beq r.length (P.cellsOf el) && Nat.beq fs.length r.length with
          | true => fun st => lget r l j fun m _ => outT N d (.addr n ⟨p.c0, p.r ++ [(m, 0)]⟩) k st
          | false => no 60
        | _ => no 61
      | _, _ => no 62
    | _ => no 63) vs = some y → Law N vs st k y (match P.underlying t with
    | some (.slice el) => ev x fun v => ev i fun w => match v, w with
      | .t (.sl f es), .t (.v (.int .i64 k)) => if 0 ≤ k then (match es[k.toNat]? with
        | some e => if f = .own ∨ e.length ≠ P.cellsOf el then .no else out d (.raddr e)
        | none => .no) else .no
      | .ref n p lo hi, .t (.v (.int .i64 k)) => .rdB n fun bx => match rowAt bx.cells p with
        | some (.sl .own es :: _) => match es[lo + k.toNat]? with
          | some e => if 0 ≤ k ∧ k < (hi : Int) - lo ∧ e.length = P.cellsOf el then out d (.addr n (p ++ [lo + k.toNat, 0])) else .no
          | none => .no
        | _ => .no
      | _, _ => .no
    | _ => .no) := by
  intro h
  cases hu : P.underlying t with
  | none => rw [hu] at h; cases h
  | some ds =>
    rw [hu] at h
    cases ds with
    | slice el =>
      simp only at h ⊢
      obtain ⟨v, lv, vs1, h, hv, g1, _⟩ := evT_ref (N := N) (m := fun v => ev i fun w => match v, w with
        | .t (.sl f es), .t (.v (.int .i64 k)) => if 0 ≤ k then (match es[k.toNat]? with
          | some e => if f = .own ∨ e.length ≠ P.cellsOf el then .no else out d (.raddr e)
          | none => .no) else .no
        | .ref n p lo hi, .t (.v (.int .i64 k)) => .rdB n fun bx => match rowAt bx.cells p with
          | some (.sl .own es :: _) => match es[lo + k.toNat]? with
            | some e => if 0 ≤ k ∧ k < (hi : Int) - lo ∧ e.length = P.cellsOf el then out d (.addr n (p ++ [lo + k.toNat, 0])) else .no
            | none => .no
          | _ => .no
        | _, _ => .no) h R
      refine .of g1 ?_
      obtain ⟨w, lw, vs2, h, hw, g2, _⟩ := evT_ref (N := N) (m := fun w => match lv, w with
        | .t (.sl f es), .t (.v (.int .i64 k)) => if 0 ≤ k then (match es[k.toNat]? with
          | some e => if f = .own ∨ e.length ≠ P.cellsOf el then .no else out d (.raddr e)
          | none => .no) else .no
        | .ref n p lo hi, .t (.v (.int .i64 k)) => .rdB n fun bx => match rowAt bx.cells p with
          | some (.sl .own es :: _) => match es[lo + k.toNat]? with
            | some e => if 0 ≤ k ∧ k < (hi : Int) - lo ∧ e.length = P.cellsOf el then out d (.addr n (p ++ [lo + k.toNat, 0])) else .no
            | none => .no
          | _ => .no
        | _, _ => .no) h g1.rel
      refine .of g2 ?_
      have hint : ∀ {K : V (.int .i64) → Co ρ} {nn : Nat}, (match w with
          | .c ⟨.int .i64, _, j⟩ => K j
          | _ => no nn) vs2 = some y → ∃ j : Int, lw = .t (.v (.int .i64 j)) ∧ K j vs2 = some y := by
        intro K nn hh
        cases w with
        | c z =>
          obtain ⟨t2, f2, j⟩ := z
          cases t2 with
          | int k2 =>
            cases k2 with
            | i64 => exact ⟨j, intV hw, hh⟩
            | _ => cases hh
          | _ => cases hh
        | _ => cases hh
      cases v with
      | c z =>
        obtain ⟨t1, f1, l⟩ := z
        cases t1 with
        | sl r =>
          cases f1 with
          | sl f fs =>
            obtain ⟨j, hj, h⟩ := hint (K := fun j => match f.low && (Nat.beq r.length (P.cellsOf el) && Nat.beq fs.length r.length) with
              | true => fun st => lget r l j fun _ e => outT N d (.raddr (cellsOf r fs e)) k st
              | false => no 59) (nn := 62) (by
                cases w with
                | c z =>
                  obtain ⟨t2, f2, j⟩ := z
                  cases t2 with
                  | int k2 => cases k2 <;> exact h
                  | _ => exact h
                | _ => exact h)
            simp only [RelV] at hv
            subst hv
            subst hj
            cases hc : (f.low && (Nat.beq r.length (P.cellsOf el) && Nat.beq fs.length r.length)) with
            | false => rw [hc] at h; cases h
            | true =>
              rw [hc] at h
              simp only [Bool.and_eq_true] at hc
              obtain ⟨hc0, hc1, hc2⟩ := hc
              obtain ⟨e, h0, he, h⟩ := at_some h
              rw [enc_sl]
              simp only
              have he' : ((lis r l).map fun e => encR r fs e)[j.toNat]? = some (encR r fs e) := by
                rw [List.getElem?_map, show (lis r l)[j.toNat]? = some e from he]; rfl
              rw [if_pos h0, he']
              simp only
              have hl := encR_length e (Nat.eq_of_beq_eq_true hc2)
              rw [if_neg (by
                rintro (h1 | h1)
                · subst h1; cases hc0
                · exact h1 (by rw [hl, Nat.eq_of_beq_eq_true hc1]))]
              refine outT_ref h g2.rel ?_
              simp only [RelV, encs_cellsOf]
          | _ => cases h
        | _ => cases h
      | ref n p sub =>
        cases sub with
        | some s => cases h
        | none =>
          obtain ⟨j, hj, h⟩ := hint (K := fun j => rowC n p fun row => match row with
            | ⟨.sl r, .sl .own fs, l⟩ :: _ => match Nat.beq r.length (P.cellsOf el) && Nat.beq fs.length r.length with
              | true => fun st => lget r l j fun m _ => outT N d (.addr n ⟨p.c0, p.r ++ [(m, 0)]⟩) k st
              | false => no 60
            | _ => no 61) (nn := 62) (by
              cases w with
              | c z =>
                obtain ⟨t2, f2, j⟩ := z
                cases t2 with
                | int k2 => cases k2 <;> exact h
                | _ => exact h
              | _ => exact h)
          simp only [RelV] at hv
          obtain ⟨hi, rfl, es, r0, hes, hhi⟩ := hv
          subst hj
          simp only
          obtain ⟨row, vs3, h, hrow, g3, _⟩ := rowC_ref (N := N) (m := fun bx => match rowAt bx.cells (pthL p) with
            | some (.sl .own es :: _) => match es[0 + j.toNat]? with
              | some e => if 0 ≤ j ∧ j < (hi : Int) - (0 : Nat) ∧ e.length = P.cellsOf el then out d (.addr n (pthL p ++ [0 + j.toNat, 0])) else .no
              | none => .no
            | _ => .no) h g2.rel
          refine .of g3 ?_
          cases row with
          | nil => cases h
          | cons z rest =>
            obtain ⟨t1, f1, l⟩ := z
            cases t1 with
            | sl r =>
              cases f1 with
              | sl f fs =>
                cases f with
                | own =>
                  simp only at h
                  cases hc : (Nat.beq r.length (P.cellsOf el) && Nat.beq fs.length r.length) with
                  | false => rw [hc] at h; cases h
                  | true =>
                    rw [hc] at h
                    simp only [Bool.and_eq_true] at hc
                    obtain ⟨hc1, hc2⟩ := hc
                    obtain ⟨e, h0, he, h⟩ := at_some h
                    rw [hrow]
                    have e1 : encs (⟨.sl r, .sl .own fs, l⟩ :: rest) = .sl .own ((lis r l).map fun e => encR r fs e) :: encs rest := rfl
                    rw [hrow, e1] at hes
                    rw [e1]
                    simp only [Option.some.injEq, List.cons.injEq, T.sl.injEq, true_and] at hes
                    simp only [Nat.zero_add]
                    have he' : ((lis r l).map fun e => encR r fs e)[j.toNat]? = some (encR r fs e) := by
                      rw [List.getElem?_map, show (lis r l)[j.toNat]? = some e from he]; rfl
                    rw [he']
                    simp only
                    have hlt : j.toNat < es.length := by
                      rw [← hes.1]
                      exact (List.getElem?_eq_some_iff.1 he').1
                    rw [if_pos ⟨h0, by rw [hhi]; omega, by rw [encR_length e (Nat.eq_of_beq_eq_true hc2), Nat.eq_of_beq_eq_true hc1]⟩]
                    exact outT_ref h g3.rel (by simp only [RelV, pthL_snoc])
                | _ => cases h
              | _ => cases h
            | _ => cases h
      | _ => cases h
    | _ => cases h
end
end Go.Proofs.Ytoingpfepfhgkaa.TM
namespace Go.Proofs.Ytoingpfepfhgkaa.TM
open Go
section
variable {ρ : Type} {N : Nat} {vs vs' : VS} {st st' : St} {y : ρ} {P : Program}
theorem intCase {w : TV} {lw : LV} {K : V (.int .i64) → Co ρ} {nn : Nat} (hw : RelV (Qs st.b) w lw) : (match w with
    | .c ⟨.int .i64, _, j⟩ => K j
    | _ => no nn) vs = some y → ∃ (f : Fg) (j : Int), w = .c ⟨.int .i64, f, j⟩ ∧ lw = .t (.v (.int .i64 j)) ∧ K j vs = some y := by
  intro hh
  cases w with
  | c z =>
    obtain ⟨t2, f2, j⟩ := z
    cases t2 with
    | int k2 =>
      cases k2 with
      | i64 => exact ⟨f2, j, rfl, intV hw, hh⟩
      | _ => cases hh
    | _ => cases hh
  | _ => cases hh
theorem atS_some {l : List UInt8} {i : Int} {k : Int → Option ρ} (h : atS l i k = some y) : ∃ c, 0 ≤ i ∧ l[i.toNat]? = some c ∧ k c.toNat = some y := by
  unfold atS at h
  split at h
  · rename_i e he
    split at he
    · exact ⟨e, by assumption, he, h⟩
    · cases he
  · cases h
theorem sub_some {α : Type} {l : List α} {a b : Int} {k : List α → Option ρ} (h : sub_ l a b k = some y) : (0 ≤ a ∧ a ≤ b ∧ b ≤ l.length) ∧ k ((l.take b.toNat).drop a.toNat) = some y := by
  unfold sub_ at h
  split at h
  · exact ⟨by assumption, h⟩
  · cases h
theorem tv_index {d : Option Nat} {t : TypeId} {x i : Operand} {k : Co ρ} (R : Rel vs st) : (match P.underlying t with
    | some .string => evT x fun v => evT i fun w => match v, w with
      | .c ⟨.str, _, l⟩, .c ⟨.int kk, _, j⟩ => fun st => sget l (icast .i64 kk j) fun c => outT N d (.c ⟨.int .u8, .z, c⟩) k st
      | _, _ => no 64
    | _ => no 65) vs = some y → Law N vs st k y (match P.underlying t with
    | some .string => ev x fun v => ev i fun w => match v, w with
      | .t (.v (.string s)), .t (.v (.int _ k)) => if 0 ≤ k then (match s.data[k.toNat]? with
        | some c => out d (.t (.v (.int .u8 c.toNat)))
        | none => .no) else .no
      | _, _ => .no
    | _ => .no) := by
  intro h
  cases hu : P.underlying t with
  | none => rw [hu] at h; cases h
  | some ds =>
    rw [hu] at h
    cases ds with
    | string =>
      simp only at h ⊢
      obtain ⟨v, lv, vs1, h, hv, g1, _⟩ := evT_ref (N := N) (m := fun v => ev i fun w => match v, w with
        | .t (.v (.string s)), .t (.v (.int _ k)) => if 0 ≤ k then (match s.data[k.toNat]? with
          | some c => out d (.t (.v (.int .u8 c.toNat)))
          | none => .no) else .no
        | _, _ => .no) h R
      refine .of g1 ?_
      obtain ⟨w, lw, vs2, h, hw, g2, _⟩ := evT_ref (N := N) (m := fun w => match lv, w with
        | .t (.v (.string s)), .t (.v (.int _ k)) => if 0 ≤ k then (match s.data[k.toNat]? with
          | some c => out d (.t (.v (.int .u8 c.toNat)))
          | none => .no) else .no
        | _, _ => .no) h g1.rel
      refine .of g2 ?_
      cases v with
      | c z =>
        obtain ⟨t1, f1, l⟩ := z
        cases t1 with
        | str =>
          cases w with
          | c z =>
            obtain ⟨t2, f2, j⟩ := z
            cases t2 with
            | int k2 =>
              simp only at h
              rw [strV hv, intV hw]
              have h : atS (show List UInt8 from l) (show Int from j) (fun c => (fun st => outT N d (.c ⟨.int .u8, .z, c⟩) k st) vs2) = some y := h
              obtain ⟨c, h0, hc, h⟩ := atS_some h
              simp only
              have hc' : (List.toArray (α := UInt8) l)[Int.toNat j]? = some c := (List.getElem?_toArray (α := UInt8)).trans hc
              rw [if_pos h0, hc']
              exact out_law g2.rel (c := ⟨.int .u8, .z, (c.toNat : Int)⟩) rfl h
            | _ => cases h
          | _ => cases h
        | _ => cases h
      | _ => cases h
    | _ => cases h
theorem tv_extract {d : Option Nat} {x : Operand} {i : Nat} {k : Co ρ} (R : Rel vs st) : (match x with
    | .tmp t => rdX t i fun y => outT N d y k
    | _ => no 67) vs = some y → Law N vs st k y (match x with
    | .tmp t => .rdX t i fun y => out d y
    | _ => .no) := by
  intro h
  cases x with
  | tmp t =>
    simp only [rdX] at h
    have hv := R.s t
    generalize hl : lookS vs.s t = v at h hv
    cases v with
    | tup xs =>
      simp only [RelV] at hv
      obtain ⟨us, hst, hu⟩ := hv
      simp only at h ⊢
      have hd := hu.drop i
      cases hx : xs.drop i with
      | nil => rw [hx] at h; cases h
      | cons z rest =>
        rw [hx] at h hd
        cases hux : us.drop i with
        | nil => rw [hux] at hd; simp only [RelVs] at hd
        | cons w rest' =>
          rw [hux] at hd
          simp only [RelVs] at hd
          have hp : partOf (st.s t) i = some w := by rw [hst]; exact drop_head hux
          have g1 : Go1 N vs st (.rdX t i fun y => out d y) ⟨vs.s, vs.b, .rX t i z :: vs.lg⟩ st (out d w) :=
            ⟨⟨R.s, R.b⟩, [.rX t i w], by simp only [M.runT, hp]; cases (out d w).runT N st <;> rfl, .one (f := .rX t i z) ⟨rfl, rfl, hd.1.t⟩⟩
          exact .of g1 (outT_ref h g1.rel hd.1)
    | _ => cases h
  | _ => cases h
theorem tv_makeFunc {d : Option Nat} {g : Fn} {first : Array Operand} {caps : List Operand} {k : Co ρ} (R : Rel vs st) : (match g, first.isEmpty with
    | .func g, true => evTs caps fun vs => outT N d (.fn g vs) k
    | _, _ => no 68) vs = some y → Law N vs st k y (if first.isEmpty = true then evs caps fun vs => out d (.fn g vs) else .no) := by
  intro h
  cases g with
  | func g =>
    cases hf : first.isEmpty with
    | false => rw [hf] at h; cases h
    | true =>
      rw [hf] at h
      simp only [if_true] at h ⊢
      obtain ⟨us, lus, vs1, h, hu, g1, _⟩ := evTs_ref (N := N) (m := fun vs => out d (.fn (.func g) vs)) h R
      exact .of g1 (outT_ref h g1.rel (by simp only [RelV]; exact ⟨_, rfl, hu⟩))
  | _ => cases h
theorem bytesC_some {r : List ST} {f : Fg} {l : V (.sl r)} {k : V .str → Co ρ} {vs : VS} (h : bytesC r f l k vs = some y) : ∃ (g : Fl) (es : List (List T)) (s : V .str), (Cl.mk (.sl r) f l).enc = .sl g es ∧ bytesL es = some (show List UInt8 from s) ∧ k s vs = some y := by
  unfold bytesC at h
  split at h
  · exact ⟨.own, [], sLit [], rfl, rfl, h⟩
  · rename_i g f1 l
    refine ⟨g, _, bstr l, rfl, ?_, h⟩
    show bytesL ((show List Int from l).map fun e => [T.v (.int .u8 e)]) = some (bytesI l)
    have key : ∀ l : List Int, bytesL (l.map fun e => [T.v (.int .u8 e)]) = some (bytesI l) := by
      intro l
      induction l with
      | nil => rfl
      | cons n l ih => simp only [List.map_cons, bytesL, ih]; rfl
    exact key l
  · cases h
theorem tv_convert {d : Option Nat} {s t : TypeId} {x : Operand} {k : Co ρ} (R : Rel vs st) : (match P.underlying s, P.underlying t with
    | some (.int _), some (.int k') => evT x fun v => match v with
      | .c ⟨.int k0, _, n⟩ => outT N d (.c ⟨.int k', .z, iconv k0 k' n⟩) k
      | _ => no 74
    | some .string, some .string => evT x fun v => match v with
      | .c ⟨.str, _, l⟩ => outT N d (.c ⟨.str, .z, l⟩) k
      | _ => no 75
    | some (.slice e), some .string => match P.underlying e with
      | some (.int .u8) => evT x fun v => match v with
        | .c ⟨.sl r, f, l⟩ => bytesC r f l fun s => outT N d (.c ⟨.str, .z, s⟩) k
        | .ref n p none => rowC n p fun row => match row with
          | ⟨.sl r, f, l⟩ :: _ => match ownF f with
            | true => bytesC r f l fun s => outT N d (.c ⟨.str, .z, s⟩) k
            | false => no 215
          | _ => no 216
        | _ => no 217
      | _ => no 218
    | _, _ => no 76) vs = some y → Law N vs st k y (match P.underlying s, P.underlying t with
    | some (.int _), some (.int k) => ev x fun v => match v with
      | .t (.v (.int _ n)) => out d (.t (.v (.int k (k.wrap n))))
      | _ => .no
    | some .string, some .string => ev x fun v => match v with
      | .t (.v (.string s)) => out d (.t (.v (.string s)))
      | _ => .no
    | some (.slice e), some .string => match P.underlying e with
      | some (.int .u8) => ev x fun v => match v with
        | .t (.sl _ es) => match bytesL es with
          | some bs => out d (.t (.v (.string ⟨bs.toArray⟩)))
          | none => .no
        | .ref n p 0 hi => .rdB n fun bx => match rowAt bx.cells p with
          | some (.sl .own es :: _) => match bytesL es with
            | some bs => if hi = es.length then out d (.t (.v (.string ⟨bs.toArray⟩))) else .no
            | none => .no
          | _ => .no
        | _ => .no
      | _ => .no
    | _, _ => .no) := by
  intro h
  cases hs : P.underlying s with
  | none => rw [hs] at h; cases h
  | some ds =>
    rw [hs] at h
    cases ht : P.underlying t with
    | none => rw [ht] at h; cases ds <;> cases h
    | some dt =>
      rw [ht] at h
      cases ds with
      | int ks =>
        cases dt with
        | int k' =>
          simp only at h ⊢
          obtain ⟨v, lv, vs1, h, hv, g1, _⟩ := evT_ref (N := N) (m := fun v => match v with
            | .t (.v (.int _ n)) => out d (.t (.v (.int k' (k'.wrap n))))
            | _ => .no) h R
          refine .of g1 ?_
          cases v with
          | c z =>
            obtain ⟨t1, f1, n⟩ := z
            cases t1 with
            | int k0 => rw [intV hv]; exact out_law g1.rel (c := ⟨.int k', .z, iconv k0 k' n⟩) rfl h
            | _ => cases h
          | _ => cases h
        | _ => cases h
      | string =>
        cases dt with
        | string =>
          simp only at h ⊢
          obtain ⟨v, lv, vs1, h, hv, g1, _⟩ := evT_ref (N := N) (m := fun v => match v with
            | .t (.v (.string s)) => out d (.t (.v (.string s)))
            | _ => .no) h R
          refine .of g1 ?_
          cases v with
          | c z =>
            obtain ⟨t1, f1, l⟩ := z
            cases t1 with
            | str => rw [strV hv]; exact out_law g1.rel (c := ⟨.str, .z, l⟩) rfl h
            | _ => cases h
          | _ => cases h
        | _ => cases h
      | slice el =>
        cases dt with
        | string =>
          simp only at h ⊢
          cases he : P.underlying el with
          | none => rw [he] at h; cases h
          | some de =>
            rw [he] at h
            cases de with
            | int ke =>
              cases ke with
              | u8 =>
                simp only at h ⊢
                obtain ⟨v, lv, vs1, h, hv, g1, _⟩ := evT_ref (N := N) (m := fun v => match v with
                  | .t (.sl _ es) => match bytesL es with
                    | some bs => out d (.t (.v (.string ⟨bs.toArray⟩)))
                    | none => .no
                  | .ref n p 0 hi => .rdB n fun bx => match rowAt bx.cells p with
                    | some (.sl .own es :: _) => match bytesL es with
                      | some bs => if hi = es.length then out d (.t (.v (.string ⟨bs.toArray⟩))) else .no
                      | none => .no
                    | _ => .no
                  | _ => .no) h R
                refine .of g1 ?_
                cases v with
                | c z =>
                  obtain ⟨t1, f1, l⟩ := z
                  cases t1 with
                  | sl r =>
                    simp only at h
                    obtain ⟨g, es, s, q1, q2, h⟩ := bytesC_some h
                    simp only [RelV] at hv
                    subst hv
                    rw [q1]
                    simp only [q2]
                    exact out_law g1.rel (c := ⟨.str, .z, s⟩) rfl h
                  | _ => cases h
                | ref n p sub =>
                  cases sub with
                  | some s => cases h
                  | none =>
                    simp only [RelV] at hv
                    obtain ⟨hi, rfl, es, r0, hes, hhi⟩ := hv
                    simp only at h ⊢
                    obtain ⟨row, vs2, h, hrow, g2, _⟩ := rowC_ref (N := N) (m := fun bx => match rowAt bx.cells (pthL p) with
                      | some (.sl .own es :: _) => match bytesL es with
                        | some bs => if hi = es.length then out d (.t (.v (.string ⟨bs.toArray⟩))) else .no
                        | none => .no
                      | _ => .no) h g1.rel
                    refine .of g2 ?_
                    cases row with
                    | nil => cases h
                    | cons w rest =>
                      obtain ⟨t1, f1, l⟩ := w
                      cases t1 with
                      | sl r =>
                        simp only at h
                        cases hf : ownF f1 with
                        | false => rw [hf] at h; cases h
                        | true =>
                          rw [hf] at h
                          simp only at h
                          obtain ⟨g, es', s, q1, q2, h⟩ := bytesC_some h
                          have e1 : encs (⟨.sl r, f1, l⟩ :: rest) = .sl g es' :: encs rest := by rw [← q1]; rfl
                          rw [hrow, e1] at hes
                          cases hes
                          rw [hrow, e1]
                          simp only [q2, if_pos hhi]
                          exact out_law g2.rel (c := ⟨.str, .z, s⟩) rfl h
                      | _ => cases h
                | _ => cases h
              | _ => cases h
            | _ => cases h
        | _ => cases h
      | _ => cases h
theorem rep_some {α : Type} {n : Int} {e : α} {k : List α → Option ρ} (h : rep_ n e k = some y) : (0 ≤ n ∧ n ≤ 1073741824) ∧ k (List.replicate n.toNat e) = some y := by
  unfold rep_ at h
  split at h
  · exact ⟨by assumption, h⟩
  · cases h
theorem same_look {vs vs1 : VS} (s : Same vs vs1) (t : Nat) : lookS vs1.s t = lookS vs.s t := by rw [s.1]
theorem makeSlice_end {d : Nat} {r : List (ST × Fg)} {z : List T} {zs : List Cl} {n : Int} {k : Co ρ} {vs : VS} {st : St} (R : Rel vs st) (hz : zeroCs (cts r) = some zs) (h3 : zeroOks (cts r) z = true) :
    (fun st => mkRow (cts r) (fgs r) zs fun e => lrep (cts r) n e fun x => freshT d ⟨false, [⟨.sl (cts r), .sl .own (fgs r), x⟩]⟩ (wrS N d (.ref (d, 0) ⟨0, []⟩ none) k) st) vs = some y →
    Law N vs st k y (if 0 ≤ n ∧ n ≤ 1073741824 ∧ n = n then fresh d ⟨false, [.sl .own (List.replicate n.toNat z)]⟩ (.wrS d (.ref (d, 0) [0] 0 n.toNat) (.ok ())) else .no) := by
  intro h
  obtain ⟨e, h, he⟩ := mkRow_some h
  obtain ⟨hn, h⟩ := rep_some h
  rw [if_pos ⟨hn.1, hn.2, rfl⟩]
  rw [zeroCs_enc hz h3] at he
  refine fresh_ref h R ?_ (by simp)
  show T.sl .own ((lis (cts r) _).map fun e => encR (cts r) (fgs r) e) = _
  congr 1
  rw [← he]
  exact List.map_replicate
theorem tv_makeSlice {d : Option Nat} {t : TypeId} {l c : Operand} {k : Co ρ} (R : Rel vs st) : (match d, rowT P t with
    | some d, some r => match zeroCs (cts r) with
      | some zs => evT l fun v => evT c fun u => match v, u with
        | .c ⟨.int .i64, _, n⟩, .c ⟨.int .i64, _, m⟩ => iteC (match sameOp l c with
            | true => bLit true
            | false => ieq .i64 m n) (fun st => mkRow (cts r) (fgs r) zs fun e => lrep (cts r) n e fun x => freshT d ⟨false, [⟨.sl (cts r), .sl .own (fgs r), x⟩]⟩ (wrS N d (.ref (d, 0) ⟨0, []⟩ none) k) st) (no 37)
        | _, _ => no 38
      | none => no 39
    | _, _ => no 39) vs = some y → Law N vs st k y (match d, rowInfo P t with
    | some d, some z => ev l fun v => ev c fun u => match v, u with
        | .t (.v (.int .i64 n)), .t (.v (.int .i64 m)) => if 0 ≤ n ∧ n ≤ 1073741824 ∧ m = n then fresh d ⟨false, [.sl .own (List.replicate n.toNat z)]⟩ (.wrS d (.ref (d, 0) [0] 0 n.toNat) (.ok ())) else .no
        | _, _ => .no
    | _, _ => .no) := by
  intro h
  cases d with
  | none => cases h
  | some d =>
    cases hr : rowT P t with
    | none => rw [hr] at h; cases h
    | some r =>
      rw [hr] at h
      obtain ⟨z, e, h1, h2, h3, h4⟩ := rowT_some hr
      rw [h1]
      simp only at h ⊢
      cases hz : zeroCs (cts r) with
      | none => rw [hz] at h; cases h
      | some zs =>
        rw [hz] at h
        simp only at h
        cases hso : sameOp l c with
        | true =>
          rw [hso] at h
          have : ∃ t, l = .tmp t ∧ c = .tmp t := by
            cases l <;> cases c <;> first | cases hso | skip
            rename_i a b
            exact ⟨a, rfl, by rw [Nat.eq_of_beq_eq_true hso]⟩
          obtain ⟨t0, rfl, rfl⟩ := this
          refine .of (go_rdS R) (.of (go_rdS (R.lg _)) ?_)
          have hv := R.s t0
          change (match lookS vs.s t0, lookS vs.s t0 with
            | .c ⟨.int .i64, _, n⟩, .c ⟨.int .i64, _, m⟩ => iteC (bLit true) (fun st => mkRow (cts r) (fgs r) zs fun e => lrep (cts r) n e fun x => freshT d ⟨false, [⟨.sl (cts r), .sl .own (fgs r), x⟩]⟩ (wrS N d (.ref (d, 0) ⟨0, []⟩ none) k) st) (no 37)
            | _, _ => no 38) _ = some y at h
          generalize hlk : lookS vs.s t0 = v at h hv
          cases v with
          | c w =>
            obtain ⟨t1, f1, n⟩ := w
            cases t1 with
            | int k1 =>
              cases k1 with
              | i64 =>
                rw [intV hv]
                simp only
                exact makeSlice_end (R.lg _) hz h3 h
              | _ => cases h
            | _ => cases h
          | _ => cases h
        | false =>
          rw [hso] at h
          obtain ⟨v, lv, vs1, h, hv, g1, s1⟩ := evT_ref (N := N) (m := fun v => ev c fun u => match v, u with
            | .t (.v (.int .i64 n)), .t (.v (.int .i64 m)) => if 0 ≤ n ∧ n ≤ 1073741824 ∧ m = n then fresh d ⟨false, [.sl .own (List.replicate n.toNat z)]⟩ (.wrS d (.ref (d, 0) [0] 0 n.toNat) (.ok ())) else .no
            | _, _ => .no) h R
          refine .of g1 ?_
          obtain ⟨u, lu, vs2, h, hu, g2, s2⟩ := evT_ref (N := N) (m := fun u => match lv, u with
            | .t (.v (.int .i64 n)), .t (.v (.int .i64 m)) => if 0 ≤ n ∧ n ≤ 1073741824 ∧ m = n then fresh d ⟨false, [.sl .own (List.replicate n.toNat z)]⟩ (.wrS d (.ref (d, 0) [0] 0 n.toNat) (.ok ())) else .no
            | _, _ => .no) h g1.rel
          refine .of g2 ?_
          cases v with
          | c w =>
            obtain ⟨t1, f1, n⟩ := w
            cases t1 with
            | int k1 =>
              cases k1 with
              | i64 =>
                obtain ⟨f, m, rfl, rfl, h⟩ := intCase (K := fun m => iteC (ieq .i64 m n) (fun st => mkRow (cts r) (fgs r) zs fun e => lrep (cts r) n e fun x => freshT d ⟨false, [⟨.sl (cts r), .sl .own (fgs r), x⟩]⟩ (wrS N d (.ref (d, 0) ⟨0, []⟩ none) k) st) (no 37)) (nn := 38) hu (by
                  cases u with
                  | c w => obtain ⟨t2, f2, j⟩ := w; cases t2 with
                    | int k2 => cases k2 <;> exact h
                    | _ => exact h
                  | _ => exact h)
                rw [intV hv]
                simp only
                rcases iteC_ref h with ⟨hm, h⟩ | ⟨_, h⟩
                · have hm' : m = (show Int from n) := by
                    have : (m == (show Int from n)) = true := hm
                    exact eq_of_beq this
                  subst hm'
                  exact makeSlice_end g2.rel hz h3 h
                · cases h
              | _ => cases h
            | _ => cases h
          | _ => cases h
theorem app_some {α : Type} {l m : List α} {k : List α → Option ρ} (h : app_ l m k = some y) : l.length + m.length ≤ 1073741824 ∧ k (l ++ m) = some y := by
  unfold app_ at h
  split at h
  · exact ⟨by assumption, h⟩
  · cases h
theorem lenC_enc (r : List ST) (f : Fg) (l : V (.sl r)) : ∃ g es, (Cl.mk (.sl r) f l).enc = .sl g es ∧ ((es.length : Nat) : Int) = lenC r f l := by
  cases f with
  | sl f fs => exact ⟨_, _, rfl, by simp [lenC, llen]; rfl⟩
  | z => exact ⟨_, _, rfl, rfl⟩
  | nil => exact ⟨_, _, rfl, rfl⟩
  | pt f fs => exact ⟨_, _, rfl, rfl⟩
  | fn fs => exact ⟨_, _, rfl, rfl⟩
theorem tv_len {d : Option Nat} {c : Call} {x : Operand} {k : Co ρ} (R : Rel vs st) : (match (c.argTypes[0]?).bind P.underlying with
      | some .string => evT x fun v => match v with
        | .c ⟨.str, _, l⟩ => outT N d (.c ⟨.int .i64, .z, slen l⟩) k
        | _ => no 77
      | some (.slice _) => evT x fun v => match v with
        | .c ⟨.sl r, f, l⟩ => outT N d (.c ⟨.int .i64, .z, lenC r f l⟩) k
        | .ref n p none => rowC n p fun row => match row with
          | ⟨.sl r, f, l⟩ :: _ => match ownF f with
            | true => outT N d (.c ⟨.int .i64, .z, lenC r f l⟩) k
            | false => no 78
          | _ => no 78
        | _ => no 79
      | _ => no 80) vs = some y → Law N vs st k y (match (c.argTypes[0]?).bind P.underlying with
      | some .string => ev x fun v => match v with
        | .t (.v (.string s)) => out d (.t (.v (.int .i64 s.size)))
        | _ => .no
      | some (.slice _) => ev x fun v => match v with
        | .t (.sl _ es) => out d (.t (.v (.int .i64 es.length)))
        | .ref _ _ lo hi => out d (.t (.v (.int .i64 ((hi - lo : Nat) : Int))))
        | _ => .no
      | _ => .no) := by
  intro h
  cases hu : (c.argTypes[0]?).bind P.underlying with
  | none => rw [hu] at h; cases h
  | some ds =>
    rw [hu] at h
    cases ds with
    | string =>
      simp only at h ⊢
      obtain ⟨v, lv, vs1, h, hv, g1, _⟩ := evT_ref (N := N) (m := fun v => match v with
        | .t (.v (.string s)) => out d (.t (.v (.int .i64 s.size)))
        | _ => .no) h R
      refine .of g1 ?_
      cases v with
      | c w =>
        obtain ⟨t1, f1, l⟩ := w
        cases t1 with
        | str => rw [strV hv]; exact out_law g1.rel (c := ⟨.int .i64, .z, slen l⟩) rfl h
        | _ => cases h
      | _ => cases h
    | slice e =>
      simp only at h ⊢
      obtain ⟨v, lv, vs1, h, hv, g1, _⟩ := evT_ref (N := N) (m := fun v => match v with
        | .t (.sl _ es) => out d (.t (.v (.int .i64 es.length)))
        | .ref _ _ lo hi => out d (.t (.v (.int .i64 ((hi - lo : Nat) : Int))))
        | _ => .no) h R
      refine .of g1 ?_
      cases v with
      | c w =>
        obtain ⟨t1, f1, l⟩ := w
        cases t1 with
        | sl r =>
          simp only [RelV] at hv
          subst hv
          obtain ⟨g, es, he, hl⟩ := lenC_enc r f1 l
          rw [he]
          exact out_law g1.rel (c := ⟨.int .i64, .z, lenC r f1 l⟩) (by rw [← hl]; rfl) h
        | _ => cases h
      | ref n p sub =>
        cases sub with
        | some s => cases h
        | none =>
          simp only [RelV] at hv
          obtain ⟨hi, rfl, es, r0, hes, hhi⟩ := hv
          simp only at h ⊢
          obtain ⟨row, vs2, h, hrow, g2, _⟩ := rowC_ref (N := N) (m := fun _ => (M.no : M Unit)) h g1.rel
          obtain ⟨R2, _, _, dd, hdd, _⟩ := g2
          refine .of (Go1.skip R2 hdd) ?_
          cases row with
          | nil => cases h
          | cons w rest =>
            obtain ⟨t1, f1, l⟩ := w
            cases t1 with
            | sl r =>
              simp only at h
              cases hf : ownF f1 with
              | false => rw [hf] at h; cases h
              | true =>
                rw [hf] at h
                obtain ⟨g, es', he, hl⟩ := lenC_enc r f1 l
                have e1 : encs (⟨.sl r, f1, l⟩ :: rest) = .sl g es' :: encs rest := by rw [← he]; rfl
                rw [hrow, e1] at hes
                cases hes
                simp only at h
                rw [show ((hi - 0 : Nat) : Int) = lenC r f1 l by rw [Nat.sub_zero, hhi, hl]]
                exact out_law R2 (c := ⟨.int .i64, .z, lenC r f1 l⟩) rfl h
            | _ => cases h
      | _ => cases h
    | _ => cases h
theorem tv_max {d : Option Nat} {x z : Operand} {k : Co ρ} (R : Rel vs st) : (evT x fun v => evT z fun u => match v, u with
      | .c ⟨.int .i64, _, a⟩, .c ⟨.int .i64, _, e⟩ => outT N d (.c ⟨.int .i64, .z, imax a e⟩) k
      | _, _ => no 81) vs = some y → Law N vs st k y (ev x fun v => ev z fun u => match v, u with
      | .t (.v (.int .i64 a)), .t (.v (.int .i64 b)) => out d (.t (.v (.int .i64 (if b > a then b else a))))
      | _, _ => .no) := by
  intro h
  obtain ⟨v, lv, vs1, h, hv, g1, _⟩ := evT_ref (N := N) (m := fun v => ev z fun u => match v, u with
      | .t (.v (.int .i64 a)), .t (.v (.int .i64 b)) => out d (.t (.v (.int .i64 (if b > a then b else a))))
      | _, _ => .no) h R
  refine .of g1 ?_
  obtain ⟨u, lu, vs2, h, hu, g2, _⟩ := evT_ref (N := N) (m := fun u => match lv, u with
      | .t (.v (.int .i64 a)), .t (.v (.int .i64 b)) => out d (.t (.v (.int .i64 (if b > a then b else a))))
      | _, _ => .no) h g1.rel
  refine .of g2 ?_
  cases v with
  | c w =>
    obtain ⟨t1, f1, n⟩ := w
    cases t1 with
    | int k1 =>
      cases k1 with
      | i64 =>
        obtain ⟨f, m, rfl, rfl, h⟩ := intCase (K := fun m => outT N d (.c ⟨.int .i64, .z, imax n m⟩) k) (nn := 81) hu (by
          cases u with
          | c w => obtain ⟨t2, f2, j⟩ := w; cases t2 with
            | int k2 => cases k2 <;> exact h
            | _ => exact h
          | _ => exact h)
        rw [intV hv]
        exact out_law g2.rel (c := ⟨.int .i64, .z, imax n m⟩) rfl h
      | _ => cases h
    | _ => cases h
  | _ => cases h
theorem ownBytes_some {r : List ST} {f f' : Fg} {l : V (.sl r)} {xs : V (.sl [.int .u8])} (h : ownBytes r f l = some (f', xs)) : (Cl.mk (.sl r) f l).enc = .sl .own ((show List Int from xs).map fun e => [T.v (.int .u8 e)]) := by
  unfold ownBytes at h
  split at h
  · cases h; rfl
  · cases h; rfl
  · cases h
theorem ofBytes_N (l : List UInt8) : ofBytes ⟨l.toArray⟩ = (bytesN l).map fun e => [T.v (.int .u8 e)] := by unfold ofBytes bytesN; simp
theorem tv_appendS {t1 : TypeId} {d : Nat} {x z : Operand} {k : Co ρ} {r : List (ST × Fg)} {zz : List T} (R : Rel vs st) : zz.length = r.length → appendS N P t1 r d x z k vs = some y → Law N vs st k y (match P.underlying t1 with
          | some .string => ev x fun v => ev z fun u => close v fun a => match a, u, zz with
            | .sl .own es, .t (.v (.string s)), [_] => if (es ++ ofBytes s).length ≤ 1073741824 ∧ (∀ e' ∈ es, e'.length = zz.length) then
                fresh d ⟨false, [.sl .own (es ++ ofBytes s)]⟩ (.wrS d (.ref (d, 0) [0] 0 (es ++ ofBytes s).length) (.ok ())) else .no
            | _, _, _ => .no
          | _ => .no) := by
  intro hz h
  unfold appendS at h
  cases hu : P.underlying t1 with
  | none => rw [hu] at h; cases h
  | some dt =>
    rw [hu] at h
    cases dt with
    | string =>
      match r, h, hz with
      | [], h, _ => cases h
      | _ :: _ :: _, h, _ => cases h
      | [r0], h, hz =>
      obtain ⟨z0, rfl⟩ : ∃ z0, zz = [z0] := List.length_eq_one_iff.1 hz
      simp only at h ⊢
      let fin : T → LV → M Unit := fun a u => match a, u, [z0] with
            | .sl .own es, .t (.v (.string s)), [_] => if (es ++ ofBytes s).length ≤ 1073741824 ∧ (∀ e' ∈ es, e'.length = [z0].length) then
                fresh d ⟨false, [.sl .own (es ++ ofBytes s)]⟩ (.wrS d (.ref (d, 0) [0] 0 (es ++ ofBytes s).length) (.ok ())) else .no
            | _, _, _ => .no
      show Law N vs st k y (ev x fun v => ev z fun u => close v fun a => fin a u)
      obtain ⟨v, lv, vs1, h, hv, g1, _⟩ := evT_ref (N := N) (m := fun v => ev z fun u => close v fun a => fin a u) h R
      refine .of g1 ?_
      obtain ⟨u, lu, vs2, h, hu, g2, _⟩ := evT_ref (N := N) (m := fun u => close lv fun a => fin a u) h g1.rel
      refine .of g2 ?_
      obtain ⟨ca, vs3, st3, h, g3, k3⟩ := closeT_ref (N := N) (m := fun a => fin a lu) h g2.rel hv.w
      refine .of g3 ?_
      cases u with
      | c cu =>
        obtain ⟨tu, fu, su⟩ := cu
        cases tu with
        | str =>
          simp only [RelV] at hu
          subst hu
          have hb : ofBytes ⟨List.toArray (α := UInt8) su⟩ = (bytesN su).map fun e => [T.v (.int .u8 e)] := ofBytes_N su
          have fine : ∀ (es : List (List T)) (xs l : List Int) (f : Fg), ca.enc = .sl .own es → (∀ e ∈ es, e.length = 1) → es = xs.map (fun e => [T.v (.int .u8 e)]) → app_ xs (bytesN su) (fun l => freshT d ⟨false, [⟨.sl [.int .u8], .sl .own [f], l⟩]⟩ (wrS N d (.ref (d, 0) ⟨0, []⟩ none) k) vs3) = some y → Law N vs3 st3 k y (fin ca.enc (.t (.v (.string ⟨List.toArray (α := UInt8) su⟩)))) := by
            intro es xs l f he h1 hx h
            obtain ⟨hl, h⟩ := app_some h
            rw [he]
            show Law N vs3 st3 k y (if (es ++ ofBytes ⟨List.toArray (α := UInt8) su⟩).length ≤ 1073741824 ∧ (∀ e' ∈ es, e'.length = [z0].length) then
                fresh d ⟨false, [.sl .own (es ++ ofBytes ⟨List.toArray (α := UInt8) su⟩)]⟩ (.wrS d (.ref (d, 0) [0] 0 (es ++ ofBytes ⟨List.toArray (α := UInt8) su⟩).length) (.ok ())) else .no)
            rw [if_pos ⟨by rw [hb, List.length_append, List.length_map, hx, List.length_map]; exact hl, h1⟩]
            refine fresh_ref h g3.rel ?_ rfl
            show T.sl .own ((xs ++ bytesN su).map fun e => [T.v (.int .u8 e)]) = _
            rw [hb, hx, List.map_append]
          obtain ⟨ta, fa, la⟩ := ca
          cases ta with
          | sl ra =>
            simp only at h
            cases ho : ownBytes ra fa la with
            | none => rw [ho] at h; cases h
            | some fx =>
              obtain ⟨f, xs⟩ := fx
              rw [ho] at h
              exact fine _ (show List Int from xs) [] f (ownBytes_some ho) (by
                intro e he
                obtain ⟨e0, _, rfl⟩ := List.mem_map.1 he
                rfl) rfl h
          | _ => cases h
        | _ => cases h
      | _ => cases h
    | _ => cases h
theorem tv_append {c : Call} {dst : Option Nat} {x z : Operand} {k : Co ρ} (R : Rel vs st) : appendT N P c dst x z k vs = some y → Law N vs st k y (appendM P c dst x z) := by
  intro h
  unfold appendT at h
  unfold appendM
  cases dst with
  | none => cases h
  | some d =>
  cases hat : c.argTypes.toList with
  | nil => rw [hat] at h; cases h
  | cons t0 ts =>
  cases ts with
  | nil => rw [hat] at h; cases h
  | cons t1 ts =>
  cases ts with
  | cons t2 ts => rw [hat] at h; cases h
  | nil =>
  rw [hat] at h
  simp only at h ⊢
  cases hu : P.underlying t0 with
  | none => rw [hu] at h; cases h
  | some ds =>
  rw [hu] at h
  cases ds with
  | slice el =>
    simp only at h ⊢
    cases hr : rowT P t0 with
    | none => rw [hr] at h; cases h
    | some r =>
    rw [hr] at h
    obtain ⟨zz, e, h1, h2, h3, h4⟩ := rowT_some hr
    rw [h1]
    cases ht : Nat.beq t1 t0 with
    | false =>
      rw [ht] at h
      simp only at h ⊢
      rw [if_neg (fun e => by rw [e, Nat.beq_refl] at ht; cases ht)]
      exact tv_appendS R h4 h
    | true =>
    rw [ht] at h
    simp only at h ⊢
    rw [if_pos (Nat.eq_of_beq_eq_true ht)]
    let fin : T → T → M Unit := fun a b => match a, b with
          | .sl .own es, .sl _ es' => if (es ++ es').length ≤ 1073741824 ∧ (∀ e' ∈ es ++ es', e'.length = zz.length) then
              fresh d ⟨false, [.sl .own (es ++ es')]⟩ (.wrS d (.ref (d, 0) [0] 0 (es ++ es').length) (.ok ())) else .no
          | _, _ => .no
    show Law N vs st k y (ev x fun v => ev z fun u => close v fun a => close u fun b => fin a b)
    obtain ⟨v, lv, vs1, h, hv, g1, _⟩ := evT_ref (N := N) (m := fun v => ev z fun u => close v fun a => close u fun b => fin a b) h R
    refine .of g1 ?_
    obtain ⟨u, lu, vs2, h, hu, g2, _⟩ := evT_ref (N := N) (m := fun u => close lv fun a => close u fun b => fin a b) h g1.rel
    refine .of g2 ?_
    obtain ⟨ca, vs3, st3, h, g3, k3⟩ := closeT_ref (N := N) (m := fun a => close lu fun b => fin a b) h g2.rel hv.w
    refine .of g3 ?_
    obtain ⟨cb, vs4, st4, h, g4, k4⟩ := closeT_ref (N := N) (m := fun b => fin ca.enc b) h g3.rel (k3.v hu.w)
    refine .of g4 ?_
    obtain ⟨ta, fa, xs⟩ := ca
    obtain ⟨tb, fb, ys⟩ := cb
    have fine : ∀ (es es' : List (List T)) (g : Fl) (c : Cl), es.length + es'.length ≤ 1073741824 → (∀ e ∈ es, e.length = zz.length) → (∀ e ∈ es', e.length = zz.length) → c.enc = .sl .own (es ++ es') →
        freshT d ⟨false, [c]⟩ (wrS N d (.ref (d, 0) ⟨0, []⟩ none) k) vs4 = some y → Law N vs4 st4 k y (fin (.sl .own es) (.sl g es')) := by
      intro es es' g c hl h5 h6 hc h
      show Law N vs4 st4 k y (if (es ++ es').length ≤ 1073741824 ∧ (∀ e' ∈ es ++ es', e'.length = zz.length) then
              fresh d ⟨false, [.sl .own (es ++ es')]⟩ (.wrS d (.ref (d, 0) [0] 0 (es ++ es').length) (.ok ())) else .no)
      rw [if_pos ⟨by rw [List.length_append]; exact hl, fun e he => by
        rcases List.mem_append.1 he with he | he
        · exact h5 e he
        · exact h6 e he⟩]
      exact fresh_ref h g4.rel hc rfl
    have wid : ∀ (ra : List ST) (fs : List Fg) (l : List (TM.R ra)), (Nat.beq ra.length r.length && Nat.beq fs.length r.length) = true → ∀ e ∈ l.map (fun e => encR ra fs e), e.length = zz.length := by
      intro ra fs l hc e he
      simp only [Bool.and_eq_true] at hc
      obtain ⟨e0, _, rfl⟩ := List.mem_map.1 he
      have q1 := Nat.eq_of_beq_eq_true hc.1
      have q2 := Nat.eq_of_beq_eq_true hc.2
      rw [encR_length e0 (by omega), h4, q1]
    cases ta with
    | sl ra =>
      cases tb with
      | sl rb =>
        cases fa with
        | nil =>
          cases fb with
          | nil => exact fine [] [] .own ⟨.sl ra, .nil, xs⟩ (by simp) (by simp) (by simp) rfl h
          | sl g fs =>
            simp only at h
            cases hc : (Nat.beq rb.length r.length && Nat.beq fs.length r.length) with
            | false => rw [hc] at h; cases h
            | true =>
              rw [hc] at h
              obtain ⟨hl, h⟩ := app_some h
              refine fine [] ((lis rb ys).map fun e => encR rb fs e) g _ (by simp only [List.length_map]; exact hl) (by simp) (wid _ _ _ hc) ?_ h
              rfl
          | _ => cases h
        | sl g fs =>
          cases g with
          | own =>
            cases fb with
            | nil =>
              simp only at h
              cases hc : (Nat.beq ra.length r.length && Nat.beq fs.length r.length) with
              | false => rw [hc] at h; cases h
              | true =>
                rw [hc] at h
                obtain ⟨hl, h⟩ := app_some h
                refine fine ((lis ra xs).map fun e => encR ra fs e) [] .own _ (by simp only [List.length_map, List.length_nil]; exact hl) (wid _ _ _ hc) (by simp) ?_ h
                show T.sl .own (((lis ra xs) ++ []).map fun e => encR ra fs e) = _
                rw [List.append_nil, List.append_nil]
            | sl g' fs' =>
              simp only at h
              cases hc : (Fg.beqs fs fs' && (Nat.beq ra.length r.length && Nat.beq fs.length r.length)) with
              | false => rw [hc] at h; cases h
              | true =>
                rw [hc] at h
                rw [Bool.and_eq_true] at hc
                obtain ⟨hc1, hc2⟩ := hc
                have hfs := Fg.beqs_eq _ _ hc1
                subst hfs
                obtain ⟨er, h⟩ := castL_some h
                subst er
                obtain ⟨hl, h⟩ := app_some h
                refine fine ((lis rb xs).map fun e => encR rb fs e) ((lis rb ys).map fun e => encR rb fs e) g' _ (by simp only [List.length_map]; exact hl) (wid _ _ _ hc2) (wid _ _ _ hc2) ?_ h
                show T.sl .own ((lis rb _).map fun e => encR rb fs e) = _
                rw [← List.map_append]
                rfl
            | _ => cases h
          | _ => cases h
        | _ => cases h
      | _ => cases h
    | _ => cases h
  | _ => cases h
end
end Go.Proofs.Ytoingpfepfhgkaa.TM
namespace Go.Proofs.Ytoingpfepfhgkaa.TM
open Go
section
variable {ρ : Type} {N : Nat} {vs vs' : VS} {st st' : St} {y : ρ} {P : Program}
theorem hiT_ref {γ : Type} {hi : Option Operand} {n : Int} {k : TV → Co ρ} {m : LV → M γ} (h : hiT hi n k vs = some y) (R : Rel vs st) :
    ∃ v lv vs', k v vs' = some y ∧ RelV (Qs st.b) v lv ∧ Go1 N vs st (ev (hi.getD (.const (.int .i64 n))) m) vs' st (m lv) ∧ Same vs vs' := by
  cases hi with
  | some h0 => exact evT_ref h R
  | none => exact ⟨_, _, _, h, (show RelV (Qs st.b) (.c ⟨.int .i64, .z, n⟩) (.t (.v (.int .i64 n))) from by simp only [RelV]; rfl), .refl R, .rfl⟩
theorem str_sub (l : List UInt8) (a b : Nat) : (ByteArray.mk l.toArray).extract a b = ByteArray.mk ((l.take b).drop a).toArray := by
  have : ((ByteArray.mk l.toArray).extract a b).data = ((l.take b).drop a).toArray := by
    rw [ByteArray.data_extract]
    apply Array.ext'
    simp [List.extract_eq_take_drop, List.drop_take]
  cases hx : (ByteArray.mk l.toArray).extract a b with
  | mk dd => rw [hx] at this; simp only at this; rw [this]
theorem slice_str {d : Option Nat} {l : List UInt8} {i j : Int} {k : Co ρ} (R : Rel vs st) : ssub l i j (fun r => outT N d (.c ⟨.str, .z, r⟩) k vs) = some y →
    Law N vs st k y (if 0 ≤ i ∧ i ≤ j ∧ j ≤ ((ByteArray.mk l.toArray).size : Int) then out d (.t (.v (.string ((ByteArray.mk l.toArray).extract i.toNat j.toNat)))) else .no) := by
  intro h
  obtain ⟨hb, h⟩ := sub_some h
  rw [show ((ByteArray.mk l.toArray).size : Int) = (l.length : Int) from rfl, if_pos hb, str_sub]
  exact out_law R (c := ⟨.str, .z, _⟩) rfl h
theorem slice_lst {d : Option Nat} {r : List ST} {fs : List Fg} {f : Fl} {l : List (TM.R r)} {i j : Int} {k : Co ρ} {p : Prop} [Decidable p] (hp : p) (R : Rel vs st) : lsub r l i j (fun y => outT N d (.c ⟨.sl r, .sl f fs, y⟩) k vs) = some y →
    Law N vs st k y (if 0 ≤ i ∧ i ≤ j ∧ j ≤ ((l.map fun e => encR r fs e).length : Int) ∧ p then out d (.t (.sl f (((l.map fun e => encR r fs e).take j.toNat).drop i.toNat))) else .no) := by
  intro h
  obtain ⟨hb, h⟩ := sub_some h
  rw [if_pos ⟨hb.1, hb.2.1, by rw [List.length_map]; exact hb.2.2, hp⟩]
  refine outT_ref h R ?_
  simp only [RelV]
  rw [← List.map_take, ← List.map_drop]
  rfl
theorem evT_no {x : Operand} {n : Nat} (h : evT x (fun _ => (no n : Co ρ)) vs = some y) : False := by
  cases x <;> cases h
theorem tv_slice {d : Option Nat} {t : TypeId} {x : Operand} {lo hi : Option Operand} {k : Co ρ} (R : Rel vs st) : (evT x fun v => evT (lo.getD (.const (.int .i64 0))) fun l => match v with
    | .c ⟨.str, _, a⟩ => match P.underlying t with
      | some .string => hiT hi (slen a) fun h => match l, h with
        | .c ⟨.int .i64, _, i⟩, .c ⟨.int .i64, _, j⟩ => fun st => ssub a i j fun r => outT N d (.c ⟨.str, .z, r⟩) k st
        | _, _ => no 69
      | _ => no 70
    | .c ⟨.sl r, .sl f fs, a⟩ => match rowT P t with
      | some r' => hiT hi (llen r a) fun h => match l, h, f.low && (Nat.beq r.length r'.length && Nat.beq fs.length r.length) with
        | .c ⟨.int .i64, _, i⟩, .c ⟨.int .i64, _, j⟩, true => fun st => lsub r a i j fun y => outT N d (.c ⟨.sl r, .sl f fs, y⟩) k st
        | _, _, _ => no 71
      | none => no 72
    | _ => no 73) vs = some y → Law N vs st k y (ev x fun v => ev (lo.getD (.const (.int .i64 0))) fun l =>
      match v with
      | .t (.v (.string s)) => ev (hi.getD (.const (.int .i64 s.size))) fun h => match P.underlying t, l, h with
        | some .string, .t (.v (.int .i64 a)), .t (.v (.int .i64 b)) => if 0 ≤ a ∧ a ≤ b ∧ b ≤ (s.size : Int) then out d (.t (.v (.string (s.extract a.toNat b.toNat)))) else .no
        | _, _, _ => .no
      | .t (.sl f es) => ev (hi.getD (.const (.int .i64 es.length))) fun h => match l, h with
        | .t (.v (.int .i64 a)), .t (.v (.int .i64 b)) => if 0 ≤ a ∧ a ≤ b ∧ b ≤ (es.length : Int) ∧ f ≠ .own ∧ (rowInfo P t).isSome = true ∧ (∀ e ∈ es, e.length = ((rowInfo P t).getD []).length) then out d (.t (.sl f ((es.take b.toNat).drop a.toNat))) else .no
        | _, _ => .no
      | .ref n p lo' hi' => .rdB n fun bx => match rowAt bx.cells p with
        | some (.sl .own es :: _) => ev (hi.getD (.const (.int .i64 ((hi' : Int) - lo')))) fun h => match l, h with
          | .t (.v (.int .i64 a)), .t (.v (.int .i64 b)) => if 0 ≤ a ∧ a ≤ b ∧ b ≤ (hi' : Int) - lo' ∧ (rowInfo P t).isSome = true ∧ (∀ e ∈ es, e.length = ((rowInfo P t).getD []).length) then out d (.ref n p (lo' + a.toNat) (lo' + b.toNat)) else .no
          | _, _ => .no
        | _ => .no
      | _ => .no) := by
  intro h
  obtain ⟨v, lv, vs1, h, hv, g1, _⟩ := evT_ref (N := N) (m := fun v => ev (lo.getD (.const (.int .i64 0))) fun l =>
      match v with
      | .t (.v (.string s)) => ev (hi.getD (.const (.int .i64 s.size))) fun h => match P.underlying t, l, h with
        | some .string, .t (.v (.int .i64 a)), .t (.v (.int .i64 b)) => if 0 ≤ a ∧ a ≤ b ∧ b ≤ (s.size : Int) then out d (.t (.v (.string (s.extract a.toNat b.toNat)))) else .no
        | _, _, _ => .no
      | .t (.sl f es) => ev (hi.getD (.const (.int .i64 es.length))) fun h => match l, h with
        | .t (.v (.int .i64 a)), .t (.v (.int .i64 b)) => if 0 ≤ a ∧ a ≤ b ∧ b ≤ (es.length : Int) ∧ f ≠ .own ∧ (rowInfo P t).isSome = true ∧ (∀ e ∈ es, e.length = ((rowInfo P t).getD []).length) then out d (.t (.sl f ((es.take b.toNat).drop a.toNat))) else .no
        | _, _ => .no
      | .ref n p lo' hi' => .rdB n fun bx => match rowAt bx.cells p with
        | some (.sl .own es :: _) => ev (hi.getD (.const (.int .i64 ((hi' : Int) - lo')))) fun h => match l, h with
          | .t (.v (.int .i64 a)), .t (.v (.int .i64 b)) => if 0 ≤ a ∧ a ≤ b ∧ b ≤ (hi' : Int) - lo' ∧ (rowInfo P t).isSome = true ∧ (∀ e ∈ es, e.length = ((rowInfo P t).getD []).length) then out d (.ref n p (lo' + a.toNat) (lo' + b.toNat)) else .no
          | _, _ => .no
        | _ => .no
      | _ => .no) h R
  refine .of g1 ?_
  cases v with
  | c w =>
    obtain ⟨t1, f1, l0⟩ := w
    cases t1 with
    | str =>
      rw [strV hv]
      let M1 : LV → LV → M Unit := fun l h => match P.underlying t, l, h with
        | some .string, .t (.v (.int .i64 a)), .t (.v (.int .i64 b)) => if 0 ≤ a ∧ a ≤ b ∧ b ≤ ((ByteArray.mk (List.toArray (α := UInt8) l0)).size : Int) then out d (.t (.v (.string ((ByteArray.mk (List.toArray (α := UInt8) l0)).extract a.toNat b.toNat)))) else .no
        | _, _, _ => .no
      obtain ⟨w, lw, vs2, h, hw, g2, _⟩ := evT_ref (N := N) (m := fun l => ev (hi.getD (.const (.int .i64 (ByteArray.mk (List.toArray (α := UInt8) l0)).size))) fun h => M1 l h) h g1.rel
      refine .of g2 ?_
      simp only at h
      cases hu : P.underlying t with
      | none => rw [hu] at h; cases h
      | some ds =>
      rw [hu] at h
      cases ds with
      | string =>
        simp only at h
        obtain ⟨z, lz, vs3, h, hz, g3, _⟩ := hiT_ref (N := N) (n := (List.length (α := UInt8) l0 : Int)) (m := fun h => M1 lw h) h g2.rel
        refine .of g3 ?_
        cases w with
        | c w =>
          obtain ⟨t2, f2, i⟩ := w
          cases t2 with
          | int k2 =>
            cases k2 with
            | i64 =>
              obtain ⟨f, j, rfl, rfl, h⟩ := intCase (K := fun j => fun st => ssub l0 i j fun r => outT N d (.c ⟨.str, .z, r⟩) k st) (nn := 69) hz (by
                cases z with
                | c w => obtain ⟨t2, f2, j⟩ := w; cases t2 with
                  | int k2 => cases k2 <;> exact h
                  | _ => exact h
                | _ => exact h)
              rw [intV hw]
              simp only [M1, hu]
              exact slice_str g3.rel h
            | _ => cases h
          | _ => cases h
        | _ => cases h
      | _ => cases h
    | sl r =>
      cases f1 with
      | sl f fs =>
        simp only [RelV] at hv
        subst hv
        rw [enc_sl]
        let es := (lis r l0).map fun e => encR r fs e
        let M1 : LV → LV → M Unit := fun l h => match l, h with
          | .t (.v (.int .i64 a)), .t (.v (.int .i64 b)) => if 0 ≤ a ∧ a ≤ b ∧ b ≤ (es.length : Int) ∧ f ≠ .own ∧ (rowInfo P t).isSome = true ∧ (∀ e ∈ es, e.length = ((rowInfo P t).getD []).length) then out d (.t (.sl f ((es.take b.toNat).drop a.toNat))) else .no
          | _, _ => .no
        obtain ⟨w, lw, vs2, h, hw, g2, _⟩ := evT_ref (N := N) (m := fun l => ev (hi.getD (.const (.int .i64 es.length))) fun h => M1 l h) h g1.rel
        refine .of g2 ?_
        simp only at h
        cases hr : rowT P t with
        | none => rw [hr] at h; cases h
        | some r' =>
        rw [hr] at h
        obtain ⟨zz, e, h1, h2, h3, h4⟩ := rowT_some hr
        simp only at h
        have hlen : ((es.length : Nat) : Int) = llen r l0 := by
          show (((lis r l0).map fun e => encR r fs e).length : Int) = _
          rw [List.length_map]
          rfl
        rw [hlen]
        obtain ⟨z, lz, vs3, h, hz, g3, _⟩ := hiT_ref (N := N) (m := fun h => M1 lw h) h g2.rel
        refine .of g3 ?_
        cases hc : (f.low && (Nat.beq r.length r'.length && Nat.beq fs.length r.length)) with
        | false =>
          rw [hc] at h
          cases w with
          | c w => obtain ⟨t2, f2, i⟩ := w; cases t2 with
            | int k2 => cases k2 with
              | i64 => cases z with
                | c z => obtain ⟨t3, f3, j⟩ := z; cases t3 with
                  | int k3 => cases k3 <;> cases h
                  | _ => cases h
                | _ => cases h
              | _ => cases h
            | _ => cases h
          | _ => cases h
        | true =>
          rw [hc] at h
          simp only [Bool.and_eq_true] at hc
          obtain ⟨hc0, hc1, hc2⟩ := hc
          have q1 := Nat.eq_of_beq_eq_true hc1
          have q2 := Nat.eq_of_beq_eq_true hc2
          cases w with
          | c w =>
            obtain ⟨t2, f2, i⟩ := w
            cases t2 with
            | int k2 =>
              cases k2 with
              | i64 =>
                obtain ⟨f', j, rfl, rfl, h⟩ := intCase (K := fun j => fun st => lsub r l0 i j fun y => outT N d (.c ⟨.sl r, .sl f fs, y⟩) k st) (nn := 71) hz (by
                  cases z with
                  | c w => obtain ⟨t2, f2, j⟩ := w; cases t2 with
                    | int k2 => cases k2 <;> exact h
                    | _ => exact h
                  | _ => exact h)
                rw [intV hw]
                refine slice_lst (p := f ≠ .own ∧ (rowInfo P t).isSome = true ∧ (∀ e ∈ es, e.length = ((rowInfo P t).getD []).length)) ⟨?_, ?_, ?_⟩ g3.rel h
                · intro hf
                  rw [hf] at hc0
                  cases hc0
                · rw [h1]; rfl
                · intro e he
                  obtain ⟨e0, _, rfl⟩ := List.mem_map.1 he
                  rw [h1, encR_length e0 q2, Option.getD_some, h4, q1]
              | _ => cases h
            | _ => cases h
          | _ => cases h
      | _ => exact (evT_no (n := 73) h).elim
    | _ => exact (evT_no (n := 73) h).elim
  | _ => exact (evT_no (n := 73) h).elim
theorem opT_ref {o : Oper} {k : Co ρ} (h : opT N P o k vs = some y) (R : Rel vs st) : Law N vs st k y (opM P o) := by
  unfold opM
  cases ho : o.op with
  | move x => simp only [opT, ho] at h; exact tv_move R h
  | assign x => simp only [opT, ho] at h; exact tv_move R h
  | pick a b c => simp only [opT, ho] at h; exact tv_pick R h
  | alloc t => simp only [opT, ho] at h; exact tv_alloc R h
  | box t x => simp only [opT, ho] at h; exact tv_box R h
  | build t ps => simp only [opT, ho] at h; exact tv_build R h
  | buildSlice t n ps => simp only [opT, ho] at h; exact tv_buildSlice R h
  | makeSlice t l c => simp only [opT, ho] at h; exact tv_makeSlice R h
  | load t x => simp only [opT, ho] at h; exact tv_load R h
  | store t x z => simp only [opT, ho] at h; exact tv_store R h
  | nilCheck x => simp only [opT, ho] at h; exact tv_nilCheck R h
  | binOp op t x z t' =>
    simp only [opT, ho] at h
    simp only
    obtain ⟨v, lv, vs1, h, hv, g1, _⟩ := evT_ref (N := N) (m := fun v => ev z fun u => match binV P t op v u with
      | some r => out o.dst (.t (.v r))
      | none => .no) h R
    refine .of g1 ?_
    obtain ⟨u, lu, vs2, h, hu, g2, _⟩ := evT_ref (N := N) (m := fun u => match binV P t op lv u with
      | some r => out o.dst (.t (.v r))
      | none => .no) h g1.rel
    exact .of g2 (binT_ref g2.rel hv hu h)
  | unOp op t x => simp only [opT, ho] at h; exact tv_unOp R h
  | fieldAddr s x f => simp only [opT, ho] at h; exact tv_fieldAddr R h
  | field s x f => simp only [opT, ho] at h; exact tv_field R h
  | indexAddr t x i => simp only [opT, ho] at h; exact tv_indexAddr R h
  | index t x i => simp only [opT, ho] at h; exact tv_index R h
  | extract x i => simp only [opT, ho] at h; exact tv_extract R h
  | makeFunc g a b => simp only [opT, ho] at h; exact tv_makeFunc R h
  | slice t x lo hi mx =>
    cases mx with
    | none => simp only [opT, ho] at h; exact tv_slice R h
    | some m => simp only [opT, ho] at h; cases h
  | convert s t x => simp only [opT, ho] at h; exact tv_convert R h
  | call c =>
    simp only [opT, ho] at h
    cases hc : c.callee with
    | builtin b =>
      cases ha : c.args.toList with
      | nil => rw [hc, ha] at h; cases b <;> cases h
      | cons x xs =>
        cases xs with
        | nil =>
          rw [hc, ha] at h
          simp only [hc, ha]
          cases b with
          | len => exact tv_len R h
          | _ => cases h
        | cons z zs =>
          cases zs with
          | nil =>
            rw [hc, ha] at h
            simp only [hc, ha]
            cases b with
            | max => exact tv_max R h
            | append => exact tv_append R h
            | _ => cases h
          | cons _ _ => rw [hc, ha] at h; cases b <;> cases h
    | value f => rw [hc] at h; cases h
    | invoke r m => rw [hc] at h; cases h
  | _ => simp only [opT, ho] at h; cases h
end
end Go.Proofs.Ytoingpfepfhgkaa.TM
namespace Go.Proofs.Ytoingpfepfhgkaa.TM
open Go
def AP.arg : AP → List T → Arg
  | .one _ _, ts => .one (ts.headD .hole)
  | .agg _, ts => .agg ts
  | .ptr _, ts => .ptr ts
  | .own _ _, ts => .own (ts.headD .hole)
  | .owns _, ts => .owns ts
def argsL : List AP → List T → List Arg
  | [], _ => []
  | a :: as, ts => a.arg (ts.take a.len) :: argsL as (ts.drop a.len)
mutual
theorem encT_frz : ∀ (t : ST) (f : Fg) (x : V t), okF t f = true → encT t f.frz x = TM.frz (encT t f x)
  | .int k, f, x, h => by simp only [encT, TM.frz]
  | .bool, f, x, h => by simp only [encT, TM.frz]
  | .str, f, x, h => by simp only [encT, TM.frz]
  | .hole, f, x, h => by simp [okF] at h
  | .sl r, f, x, h => by
    cases f with
    | sl g fs =>
      simp only [okF] at h
      simp only [Fg.frz, encT, TM.frz, frzLL_map, List.map_map]
      congr 1
      refine List.map_congr_left fun e _ => ?_
      exact encR_frz r fs e h
    | _ => simp [okF] at h
  | .pt r, f, x, h => by
    cases f with
    | pt g fs =>
      simp only [okF] at h
      simp only [Fg.frz, encT, TM.frz]
      rw [encR_frz r fs x h]
    | _ => simp [okF] at h
  | .fn g r, f, x, h => by
    cases f with
    | fn fs =>
      simp only [okF] at h
      simp only [Fg.frz, encT, TM.frz]
      rw [encR_frz r fs x h]
    | _ => simp [okF] at h
theorem encR_frz : ∀ (r : List ST) (fs : List Fg) (x : R r), okFs r fs = true → encR r (Fg.frzs fs) x = frzL (encR r fs x)
  | [], fs, x, h => by simp only [encR, frzL]
  | t :: r, [], x, h => by simp [okFs] at h
  | t :: r, f :: fs, x, h => by
    simp only [okFs, Bool.and_eq_true] at h
    simp only [Fg.frzs, encR, frzL]
    rw [encT_frz t f (headR t r x) h.1, encR_frz r fs (tailR t r x) h.2]
end
structure Rd (N : Nat) (st : St) (vs vs' : VS) (l : List Ac) : Prop where
  same : Same vs vs'
  fits : fitsT N l st
  rd : ∀ x ∈ l, isRead x
  cov : Covers l vs.lg vs'.lg
theorem Rd.nil {N : Nat} {st : St} {vs : VS} : Rd N st vs vs [] := ⟨.rfl, trivial, by simp, .nil⟩
theorem fits_reads {N : Nat} {l l' : List Ac} {st : St} (h : ∀ x ∈ l, isRead x) : fitsT N (l ++ l') st ↔ fitsT N l st ∧ fitsT N l' st := by
  rw [fitsT_append, appT_reads _ _ h]
theorem Rd.trans {N : Nat} {st : St} {a b c : VS} {l l' : List Ac} (h : Rd N st a b l) (k : Rd N st b c l') : Rd N st a c (l ++ l') :=
  ⟨h.same.trans k.same, (fits_reads h.rd).2 ⟨h.fits, k.fits⟩, fun x hx => (List.mem_append.1 hx).elim (h.rd x) (k.rd x), h.cov.trans k.cov⟩
theorem Rd.rel {N : Nat} {st : St} {a b : VS} {l : List Ac} (h : Rd N st a b l) (R : Rel a st) : Rel b st := by
  have := R.lg b.lg
  rw [← h.same.1, ← h.same.2] at this
  exact this
section
variable {ρ : Type} {N : Nat} {vs vs' : VS} {st : St} {y : ρ}
theorem lendZ_some {t : ST} {f : Fg} {c : Cl} {k : Cl → Res ρ} (h : lendZ t f c k = some y) : ∃ x : V t, k ⟨t, f, x⟩ = some y ∧ encT t f x = frz c.enc := by
  unfold lendZ at h
  cases hc : (okF c.t c.f && Fg.beq c.f.frz f) with
  | true =>
    rw [hc] at h
    simp only [Bool.and_eq_true] at hc
    obtain ⟨e, h⟩ := castV_some h
    refine ⟨_, h, ?_⟩
    obtain ⟨t0, f0, x0⟩ := c
    simp only at e hc
    subst e
    rw [← Fg.beq_eq _ _ hc.2]
    exact encT_frz t0 f0 x0 hc.1
  | false =>
    rw [hc] at h
    simp only at h
    split at h
    · rename_i fs h1 h2
      refine ⟨_, h, ?_⟩
      obtain ⟨t0, f0, x0⟩ := c
      simp only at h1 h2
      subst h1
      subst h2
      simp [encT, Cl.enc, lnil, lis, TM.frz, frzLL]
    · cases h
theorem lendC_some {t : ST} {f : Fg} {c : Cl} {k : Cl → Res ρ} (h : lendC t f c k = some y) : ∃ x : V t, k ⟨t, f, x⟩ = some y ∧ (encT t f x = c.enc ∨ encT t f x = frz c.enc) := by
  unfold lendC at h
  cases hc : Fg.beq c.f f with
  | true =>
    rw [hc] at h
    obtain ⟨e, h⟩ := castV_some h
    refine ⟨_, h, .inl ?_⟩
    obtain ⟨t0, f0, x0⟩ := c
    simp only at e
    subst e
    rw [← Fg.beq_eq _ _ hc]
    rfl
  | false =>
    rw [hc] at h
    obtain ⟨x, h1, h2⟩ := lendZ_some h
    exact ⟨x, h1, .inr h2⟩
theorem lendZs_some : ∀ {r : List (ST × Fg)} {cs : List Cl} {k : List Cl → Res ρ}, lendZs r cs k = some y → ∃ xs, k xs = some y ∧ encs xs = frzL ((encs cs).take xs.length) ∧ xs.length = r.length
  | [], cs, k, h => ⟨[], h, by simp [encs, frzL], rfl⟩
  | (t, f) :: r, c :: cs, k, h => by
    simp only [lendZs] at h
    obtain ⟨x, h, h1⟩ := lendZ_some h
    obtain ⟨xs, h, h2, h3⟩ := lendZs_some h
    refine ⟨_, h, ?_, by simp [h3]⟩
    simp only [encs, List.map_cons, List.length_cons, List.take_succ_cons, frzL] at h2 ⊢
    rw [h2]
    congr 1
  | _ :: _, [], k, h => by cases h
theorem zipF_len : ∀ {r : List ST} {fs : List Fg}, fs.length = r.length → (zipF r fs).length = r.length
  | [], [], _ => rfl
  | t :: r, f :: fs, h => by simp only [zipF, List.length_cons]; rw [zipF_len (by simpa using h)]
  | [], _ :: _, h => by simp at h
  | _ :: _, [], h => by simp at h
theorem rB_fits {n : Nm} {x : Box} {st' : St} (h : fitsT N [.rB n x] st') : st'.b n = x := h.1
theorem rowC_rd {n : Nm} {p : Pth} {k : List Cl → Co ρ} (h : rowC n p k vs = some y) (R : Rel vs st) :
    ∃ row vs', k row vs' = some y ∧ rowAt (st.b n).cells (pthL p) = some (encs row) ∧ Rd N st vs vs' [.rB n (st.b n)] := by
  simp only [rowC, rdB] at h
  split at h
  · rename_i x hx
    obtain ⟨h1, h2⟩ := R.b n x hx
    obtain ⟨row, h, h3⟩ := getAt_ref _ _ _ h
    exact ⟨row, _, h, by rw [h2]; exact h3, ⟨rfl, rfl⟩, ⟨rfl, trivial⟩, by simp [isRead], .one (f := .rB n) rfl⟩
  · cases h
theorem encs_mkRow {r : List ST} {fs : List Fg} {cs : List Cl} {k : R r → Res ρ} (h : mkRow r fs cs k = some y) : ∃ e, k e = some y ∧ encR r fs e = encs cs ∧ cs.length = r.length ∧ fs.length = r.length :=
  let ⟨h1, h2⟩ := mkRow_len h
  let ⟨e, h3, h4⟩ := mkRow_some h
  ⟨e, h3, h4, h1, h2⟩
theorem free_idx {mv : List (Option Nm)} {n : Nm} (h : inM n mv = false) : mvIdx n 0 mv = none := by
  have key : ∀ (l : List (Option Nm)) (i : Nat), inM n l = false → mvIdx n i l = none := by
    intro l
    induction l with
    | nil => intro i _; rfl
    | cons o l ih =>
      intro i h
      cases o with
      | none => simp only [inM] at h; simp only [mvIdx]; exact ih _ h
      | some m =>
        simp only [inM, Bool.or_eq_false_iff] at h
        have : m ≠ n := by
          intro e
          subst e
          rw [nm_eq.2 rfl] at h
          exact absurd h.1 (by simp)
        simp only [mvIdx, if_neg this]
        exact ih _ h.2
  exact key mv 0 h
mutual
theorem lendT_ref : ∀ (v : TV) {lv : LV} {t : ST} {f : Fg} {k : Cl → Co ρ} {vs : VS}, lendT v t f k vs = some y → Rel vs st → RelV (Qs st.b) v lv →
    ∃ c vs' l, k c vs' = some y ∧ Rd N st vs vs' l ∧ ∀ (mv : List (Option Nm)) (lent : Bool), (lends? v = true → lent = true) → freeT mv v = true → ∀ st', fitsT N l st' → lend st' mv lent lv c.enc
  | .c x, lv, t, f, k, vs, h, R, hv => by
    simp only [lendT] at h
    obtain ⟨z, h, h1⟩ := lendC_some h
    simp only [RelV] at hv
    subst hv
    refine ⟨_, vs, [], h, .nil, fun mv lent hl hm st' _ => ?_⟩
    simp only [lend]
    exact h1
  | .ref n p (some s), lv, t, f, k, vs, h, R, hv => by
    unfold lendT at h
    cases h
  | .ref n p none, lv, t, f, k, vs, h, R, hv => by
    cases t with
    | sl r =>
      cases f with
      | sl g fs =>
        cases g with
        | fz =>
          simp only [lendT] at h
          obtain ⟨row, vs1, h, hrow, g1⟩ := rowC_rd (N := N) h R
          cases row with
          | nil => cases h
          | cons z rest =>
            obtain ⟨t1, f1, l⟩ := z
            cases t1 with
            | sl r' =>
              simp only at h
              cases hf : ownF f1 with
              | false => rw [hf] at h; cases h
              | true =>
                rw [hf] at h
                obtain ⟨x, h, h1⟩ := lendZ_some h
                obtain ⟨es, hes⟩ := ownF_enc (l := l) hf
                refine ⟨_, vs1, _, h, g1, fun mv lent hl hm st' hfit => ?_⟩
                simp only [RelV] at hv
                obtain ⟨hi, rfl, es', r0, hes', hhi⟩ := hv
                have e1 : encs (⟨.sl r', f1, l⟩ :: rest) = .sl .own es :: encs rest := by rw [← hes]; rfl
                rw [hrow, e1] at hes'
                cases hes'
                have h2 : (Cl.mk (.sl r) (.sl .fz fs) x).enc = .sl .fz (frzLL es) := by
                  show encT _ _ _ = _
                  rw [h1, hes]
                  rfl
                rw [h2]
                simp only [lend]
                refine ⟨hl rfl, free_idx (by simpa [freeT] using hm), ?_⟩
                rw [rB_fits hfit, hrow, e1]
                simp only [hhi, List.take_length, List.drop_zero]
            | _ => cases h
        | _ => cases h
      | _ => cases h
    | _ => cases h
  | .addr n p, lv, t, f, k, vs, h, R, hv => by
    cases t with
    | pt r =>
      cases f with
      | pt g fs =>
        cases g with
        | fz =>
          simp only [lendT] at h
          obtain ⟨row, vs1, h, hrow, g1⟩ := rowC_rd (N := N) h R
          obtain ⟨xs, h, h1, h2⟩ := lendZs_some h
          obtain ⟨e, h, h3, h4, h5⟩ := encs_mkRow h
          refine ⟨_, vs1, _, h, g1, fun mv lent hl hm st' hfit => ?_⟩
          rw [addrV hv]
          have h6 : (Cl.mk (.pt r) (.pt .fz fs) e).enc = .pt .fz (encs xs) := by
            show T.pt .fz (encR r fs e) = _
            rw [h3]
          rw [h6]
          simp only [lend]
          refine ⟨hl rfl, free_idx (by simpa [freeT] using hm), ?_⟩
          rw [rB_fits hfit, hrow]
          simp only
          rw [show (encs xs).length = xs.length by simp [encs]]
          exact h1
        | _ => cases h
      | _ => cases h
    | _ => cases h
  | .raddr cs, lv, t, f, k, vs, h, R, hv => by
    cases t with
    | pt r =>
      cases f with
      | pt g fs =>
        cases g with
        | fz =>
          simp only [lendT] at h
          cases hc : Nat.beq r.length cs.length with
          | false => rw [hc] at h; cases h
          | true =>
            rw [hc] at h
            obtain ⟨xs, h, h1, h2⟩ := lendZs_some h
            obtain ⟨e, h, h3, h4, h5⟩ := encs_mkRow h
            refine ⟨_, vs, [], h, .nil, fun mv lent hl hm st' _ => ?_⟩
            simp only [RelV] at hv
            subst hv
            have h6 : (Cl.mk (.pt r) (.pt .fz fs) e).enc = .pt .fz (encs xs) := by
              show T.pt .fz (encR r fs e) = _
              rw [h3]
            rw [h6]
            simp only [lend]
            refine ⟨trivial, .inr ?_⟩
            rw [h1, List.take_of_length_le]
            rw [h4, Nat.eq_of_beq_eq_true hc]
            simp [encs]
        | _ => cases h
      | _ => cases h
    | _ => cases h
  | .fn g xs, lv, t, f, k, vs, h, R, hv => by
    cases t with
    | fn g' r =>
      cases f with
      | fn fs =>
        simp only [lendT] at h
        cases hc : Nat.beq g g' with
        | false => rw [hc] at h; cases h
        | true =>
          rw [hc] at h
          simp only [RelV] at hv
          obtain ⟨us, rfl, hu⟩ := hv
          obtain ⟨cs, vs1, l, h, g1, h1, _⟩ := lendTs_ref xs h R hu
          obtain ⟨e, h, h3, h4, h5⟩ := encs_mkRow h
          refine ⟨_, vs1, l, h, g1, fun mv lent hl hm st' hfit => ?_⟩
          have h6 : (Cl.mk (.fn g' r) (.fn fs) e).enc = .fn (.func g') (encs cs) := by
            show T.fn (.func g') (encR r fs e) = _
            rw [h3]
          rw [h6]
          simp only [lend]
          exact ⟨by rw [Nat.eq_of_beq_eq_true hc], h1 mv lent (fun hx => hl (by simpa [lends?] using hx)) (by simpa [freeT] using hm) st' hfit⟩
      | _ => cases h
    | _ => cases h
  | .agg xs, lv, t, f, k, vs, h, R, hv => by cases t <;> cases f <;> cases h
  | .tup xs, lv, t, f, k, vs, h, R, hv => by cases t <;> cases f <;> cases h
  | .va xs, lv, t, f, k, vs, h, R, hv => by cases t <;> cases f <;> cases h
  | .dead, lv, t, f, k, vs, h, R, hv => by cases t <;> cases f <;> cases h
theorem lendTs_ref : ∀ (xs : List TV) {lvs : List LV} {r : List (ST × Fg)} {k : List Cl → Co ρ} {vs : VS}, lendTs xs r k vs = some y → Rel vs st → RelVs (Qs st.b) xs lvs →
    ∃ cs vs' l, k cs vs' = some y ∧ Rd N st vs vs' l ∧ (∀ (mv : List (Option Nm)) (lent : Bool), (lendss? xs = true → lent = true) → freeTs mv xs = true → ∀ st', fitsT N l st' → lends st' mv lent lvs (encs cs)) ∧ cs.length = r.length
  | [], lvs, r, k, vs, h, R, hv => by
    cases r with
    | nil =>
      simp only [RelVs] at hv
      subst hv
      exact ⟨[], vs, [], h, .nil, fun _ _ _ _ _ _ => by simp [encs, lends], rfl⟩
    | cons _ _ => cases h
  | x :: xs, [], r, k, vs, h, R, hv => by simp only [RelVs] at hv
  | x :: xs, v :: lvs, r, k, vs, h, R, hv => by
    cases r with
    | nil => cases h
    | cons tf r =>
      obtain ⟨t, f⟩ := tf
      simp only [lendTs] at h
      simp only [RelVs] at hv
      obtain ⟨c, vs1, l1, h, g1, k1⟩ := lendT_ref x h R hv.1
      obtain ⟨cs, vs2, l2, h, g2, k2, k3⟩ := lendTs_ref xs h (g1.rel R) hv.2
      refine ⟨c :: cs, vs2, l1 ++ l2, h, g1.trans g2, fun mv lent hl hm st' hfit => ?_, by simp [k3]⟩
      obtain ⟨q1, q2⟩ := (fits_reads g1.rd).1 hfit
      simp only [freeTs, Bool.and_eq_true] at hm
      simp only [encs, List.map_cons, lends]
      exact ⟨k1 mv lent (fun hx => hl (by simp [lendss?, hx])) hm.1 st' q1, k2 mv lent (fun hx => hl (by simp [lendss?, hx])) hm.2 st' q2⟩
end
end
end Go.Proofs.Ytoingpfepfhgkaa.TM
namespace Go.Proofs.Ytoingpfepfhgkaa.TM
open Go
def outsL : List (List (ST × Fg)) → List T → List (List T)
  | [], _ => []
  | o :: os, ts => ts.take o.length :: outsL os (ts.drop o.length)
section
variable {ρ : Type} {N : Nat} {vs vs' : VS} {st : St} {y : ρ}
theorem argsT_ref : ∀ {as : List AP} {xs : List TV} {lvs : List LV} {k : List Cl → List (Option Nm) → Co ρ} {vs : VS}, argsT xs as k vs = some y → Rel vs st → RelVs (Qs st.b) xs lvs →
    ∃ cs mv vs' l, k cs mv vs' = some y ∧ Rd N st vs vs' l ∧ mv.length = as.length ∧ ∀ (mv0 : List (Option Nm)) (lent : Bool), (lendsA? xs as = true → lent = true) → freeA mv0 xs as = true → ∀ st', fitsT N l st' → argsOK st' mv0 lent mv lvs (argsL as (encs cs))
  | [], xs, lvs, k, vs, h, R, hv => by
    cases xs with
    | nil =>
      simp only [RelVs] at hv
      subst hv
      exact ⟨[], [], vs, [], h, .nil, rfl, fun _ _ _ _ _ _ => by simp [argsL, argsOK]⟩
    | cons _ _ => cases h
  | a :: as, [], lvs, k, vs, h, R, hv => by cases h
  | a :: as, x :: xs, [], k, vs, h, R, hv => by simp only [RelVs] at hv
  | a :: as, x :: xs, v :: lvs, k, vs, h, R, hv => by
    simp only [RelVs] at hv
    cases a with
    | one t f =>
      simp only [argsT] at h
      obtain ⟨c, vs1, l1, h, g1, k1⟩ := lendT_ref (N := N) x h R hv.1
      obtain ⟨cs, mv, vs2, l2, h, g2, k2, k3⟩ := argsT_ref h (g1.rel R) hv.2
      refine ⟨c :: cs, none :: mv, vs2, l1 ++ l2, h, g1.trans g2, by simp [k2], fun mv0 lent hl hf st' hfit => ?_⟩
      obtain ⟨q1, q2⟩ := (fits_reads g1.rd).1 hfit
      simp only [freeA, Bool.and_eq_true] at hf
      simp only [encs, List.map_cons, argsL, AP.len, List.take_succ_cons, List.take_zero, List.drop_succ_cons, List.drop_zero, argsOK, AP.arg, List.headD_cons, argOK]
      exact ⟨⟨trivial, k1 mv0 lent (fun hh => hl (by simp [lendsA?, hh])) hf.1 st' q1⟩, k3 mv0 lent (fun hh => hl (by simp [lendsA?, hh])) hf.2 st' q2⟩
    | agg r =>
      cases x with
      | agg us =>
        simp only [argsT] at h
        simp only [RelV] at hv
        obtain ⟨⟨lus, rfl, hu⟩, hv2⟩ := hv
        obtain ⟨c, vs1, l1, h, g1, k1, k4⟩ := lendTs_ref (N := N) us h R hu
        obtain ⟨cs, mv, vs2, l2, h, g2, k2, k3⟩ := argsT_ref h (g1.rel R) hv2
        refine ⟨c ++ cs, none :: mv, vs2, l1 ++ l2, h, g1.trans g2, by simp [k2], fun mv0 lent hl hf st' hfit => ?_⟩
        obtain ⟨q1, q2⟩ := (fits_reads g1.rd).1 hfit
        simp only [freeA, Bool.and_eq_true, freeT] at hf
        have e1 : (encs (c ++ cs)).take r.length = encs c := by simp [encs, ← k4]
        have e2 : (encs (c ++ cs)).drop r.length = encs cs := by simp [encs, ← k4]
        simp only [argsL, AP.len, e1, e2, argsOK, AP.arg, argOK]
        exact ⟨⟨trivial, k1 mv0 lent (fun hh => hl (by simp [lendsA?, lends?, hh])) hf.1 st' q1⟩, k3 mv0 lent (fun hh => hl (by simp [lendsA?, hh])) hf.2 st' q2⟩
      | _ => cases h
    | ptr r =>
      cases x with
      | addr n p =>
        obtain ⟨c0, pr⟩ := p
        cases c0 with
        | succ _ => cases pr <;> cases h
        | zero =>
          cases pr with
          | cons _ _ => cases h
          | nil =>
            simp only [argsT, rdB] at h
            cases hb : lookB vs.b n with
            | none => rw [hb] at h; cases h
            | some bx =>
              rw [hb] at h
              simp only at h
              cases hc : (bx.real && Nat.beq bx.cells.length r.length) with
              | false => rw [hc] at h; cases h
              | true =>
                rw [hc] at h
                simp only [Bool.and_eq_true] at hc
                have hlen := Nat.eq_of_beq_eq_true hc.2
                obtain ⟨b1, b2⟩ := R.b n bx hb
                obtain ⟨cs, mv, vs2, l2, h, g2, k2, k3⟩ := argsT_ref h (R.lg _) hv.2
                refine ⟨bx.cells ++ cs, some n :: mv, vs2, [.rB n (st.b n)] ++ l2, h, Rd.trans (show Rd N st vs ⟨vs.s, vs.b, .rB n :: vs.lg⟩ [.rB n (st.b n)] from ⟨⟨rfl, rfl⟩, ⟨rfl, trivial⟩, by simp [isRead], .one (f := .rB n) rfl⟩) g2, by simp [k2], fun mv0 lent hl hf st' hfit => ?_⟩
                obtain ⟨q1, q2⟩ := hfit
                have e1 : (encs (bx.cells ++ cs)).take r.length = encs bx.cells := by simp [encs, ← hlen]
                have e2 : (encs (bx.cells ++ cs)).drop r.length = encs cs := by simp [encs, ← hlen]
                have hst : st'.b n = st.b n := q1
                rw [addrV hv.1]
                simp only [argsL, AP.len, e1, e2, argsOK, AP.arg, argOK]
                exact ⟨⟨trivial, rfl, by rw [hst, b1]; exact hc.1, by rw [hst, b2]⟩, k3 mv0 lent (fun hh => hl (by simpa [lendsA?] using hh)) (by simpa [freeA] using hf) st' q2⟩
      | _ => cases h
    | own t f => cases x <;> cases h
    | owns r => cases x <;> cases h
theorem gone_eq {d : Nat} {m : Nm} : goneN d m = gone d m := by
  unfold goneN gone
  rw [Bool.eq_iff_iff]
  simp
theorem inM_idx {n : Nm} : ∀ {mv : List (Option Nm)} {i : Nat}, inM n mv = (mvIdx n i mv).isSome
  | [], i => rfl
  | none :: mv, i => by simp only [inM, mvIdx]; exact inM_idx
  | some m :: mv, i => by
    simp only [inM, mvIdx]
    by_cases h : m = n
    · subst h
      rw [nm_eq.2 rfl]
      simp
    · have : nmEq n m = false := by
        cases hh : nmEq n m with
        | false => rfl
        | true => exact absurd (nm_eq.1 hh).symm h
      rw [this, if_neg h]
      simpa using inM_idx
mutual
theorem RelV.callK {b b' : Nm → Box} {d : Nat} {mv : List (Option Nm)} {args : List Arg} {outs : List (List T)} (hb : ∀ n, goneN d n = false → inM n mv = false → (b' n).cells = (b n).cells) : ∀ (v : TV) (lv : LV), RelV (Qs b) v lv → RelV (Qs b') (callK d mv v) (callV d mv args outs lv)
  | .c x, lv, h => by simp only [RelV] at h; subst h; simp only [Go.Proofs.Ytoingpfepfhgkaa.TM.callK, callV, RelV]
  | .ref m q none, lv, h => by
    simp only [RelV] at h
    obtain ⟨hi, rfl, h⟩ := h
    rw [Go.Proofs.Ytoingpfepfhgkaa.TM.callK, callV]
    split
    · simp only [RelV]
    · rename_i hc
      simp only [Bool.or_eq_false_iff] at hc
      rw [← gone_eq, hc.1]
      have : mvIdx m 0 mv = none := free_idx hc.2
      simp only [Bool.false_eq_true, if_false, this, RelV]
      refine ⟨hi, rfl, ?_⟩
      unfold Qs
      rw [hb m hc.1 hc.2]
      exact h
  | .ref m q (some (lo, hi)), lv, h => by
    simp only [RelV] at h
    obtain ⟨rfl, h2, L, h3, h⟩ := h
    rw [Go.Proofs.Ytoingpfepfhgkaa.TM.callK, callV]
    split
    · simp only [RelV]
    · rename_i hc
      simp only [Bool.or_eq_false_iff] at hc
      rw [← gone_eq, hc.1]
      have : mvIdx m 0 mv = none := free_idx hc.2
      simp only [Bool.false_eq_true, if_false, this, RelV]
      refine ⟨trivial, h2, L, h3, ?_⟩
      unfold Qs
      rw [hb m hc.1 hc.2]
      exact h
  | .addr m q, lv, h => by
    simp only [RelV] at h
    subst h
    rw [Go.Proofs.Ytoingpfepfhgkaa.TM.callK, callV]
    split
    · simp only [RelV]
    · rename_i hc
      simp only [Bool.or_eq_false_iff] at hc
      rw [← gone_eq, hc.1]
      simp only [Bool.false_eq_true, if_false]
      cases hm : mvIdx m 0 mv with
      | none => simp only [RelV]
      | some i =>
        have hin : inM m mv = true := by rw [inM_idx (i := 0), hm]; rfl
        rw [hin] at hc
        have : q.r = [] := by simpa using hc.2
        have hl : (pthL q).length = 1 := by rw [pthL_len, this]; rfl
        simp only [hl, if_true, RelV]
  | .raddr cs, lv, h => by
    simp only [RelV] at h
    subst h
    simp only [Go.Proofs.Ytoingpfepfhgkaa.TM.callK, callV, RelV]
  | .agg xs, lv, h => by
    simp only [RelV] at h
    obtain ⟨vs, rfl, h⟩ := h
    simp only [Go.Proofs.Ytoingpfepfhgkaa.TM.callK, callV, RelV]
    exact ⟨_, rfl, RelVs.callK hb xs vs h⟩
  | .tup xs, lv, h => by
    simp only [RelV] at h
    obtain ⟨vs, rfl, h⟩ := h
    simp only [Go.Proofs.Ytoingpfepfhgkaa.TM.callK, callV, RelV]
    exact ⟨_, rfl, RelVs.callK hb xs vs h⟩
  | .fn g xs, lv, h => by
    simp only [RelV] at h
    obtain ⟨vs, rfl, h⟩ := h
    simp only [Go.Proofs.Ytoingpfepfhgkaa.TM.callK, callV, RelV]
    exact ⟨_, rfl, RelVs.callK hb xs vs h⟩
  | .va xs, lv, h => by
    simp only [RelV] at h
    obtain ⟨vs, rfl, h⟩ := h
    simp only [Go.Proofs.Ytoingpfepfhgkaa.TM.callK, callV, RelV]
    exact ⟨_, rfl, RelVs.callK hb xs vs h⟩
  | .dead, lv, h => by simp only [Go.Proofs.Ytoingpfepfhgkaa.TM.callK, RelV]
theorem RelVs.callK {b b' : Nm → Box} {d : Nat} {mv : List (Option Nm)} {args : List Arg} {outs : List (List T)} (hb : ∀ n, goneN d n = false → inM n mv = false → (b' n).cells = (b n).cells) : ∀ (xs : List TV) (vs : List LV), RelVs (Qs b) xs vs → RelVs (Qs b') (callKs d mv xs) (callVs d mv args outs vs)
  | [], vs, h => by simp only [RelVs] at h; subst h; simp only [callKs, callVs, RelVs]
  | x :: xs, [], h => by simp only [RelVs] at h
  | x :: xs, v :: vs, h => by
    simp only [RelVs] at h
    simp only [callKs, callVs, RelVs]
    exact ⟨RelV.callK hb x v h.1, RelVs.callK hb xs vs h.2⟩
end
theorem resTVs_rel {b : Nm → Box} {d : Nat} : ∀ (as : List AP) (cs : List Cl) (j : Nat), (as.flatMap AP.cts).length = cs.length → (∀ a ∈ as, a.isRes = true) →
    (∀ i, (b (d, j + i)) = resBox (argsL as (encs cs)) i) → RelVs (Qs b) (resTVs d j as cs) (resLVs d j (argsL as (encs cs)))
  | [], cs, j, _, _, _ => by simp [resTVs, argsL, resLVs, RelVs]
  | a :: as, cs, j, hl, ha, hb => by
    simp only [resTVs, argsL, resLVs, RelVs]
    have hb0 := hb 0
    have hcts : a.cts.length = a.len := by cases a <;> rfl
    have hle : a.len ≤ cs.length := by
      rw [List.flatMap_cons, List.length_append, hcts] at hl
      omega
    refine ⟨?_, ?_⟩
    · have hbox : (b (d, j)).cells = encs (cs.take a.len) := by
        rw [show j = j + 0 from rfl, hb0]
        cases a with
        | one t f =>
          cases cs with
          | nil => simp [AP.len] at hle
          | cons c cs => simp [argsL, resBox, AP.arg, Arg.given, AP.len, encs]
        | agg r => simp [argsL, resBox, AP.arg, Arg.given, AP.len, encs]
        | ptr r => simp [argsL, resBox, AP.arg, AP.len, encs]
        | own t f => have := ha _ (by simp : AP.own t f ∈ AP.own t f :: as); cases this
        | owns r => have := ha _ (by simp : AP.owns r ∈ AP.owns r :: as); cases this
      cases a with
      | one t f =>
        cases cs with
        | nil => simp [AP.len] at hle
        | cons c cs =>
          simp only [AP.len, List.take_succ_cons, List.take_zero, encs, List.map_cons, List.map_nil, AP.arg, List.headD_cons, resTV, resOne] at hbox ⊢
          exact seenT_rel (p := ⟨0, []⟩) (row := []) (by rw [hbox]; rfl)
      | agg r =>
        simp only [AP.len, AP.arg, resTV, resOne, RelV] at hbox ⊢
        rw [encs_take]
        exact ⟨_, rfl, seensT_rel (p := ⟨0, []⟩) _ 0 (row := []) (by rw [hbox, List.append_nil]; rfl)⟩
      | ptr r =>
        simp only [AP.arg, resTV, resOne, RelV]
        rfl
      | own t f => have := ha _ (by simp : AP.own t f ∈ AP.own t f :: as); cases this
      | owns r => have := ha _ (by simp : AP.owns r ∈ AP.owns r :: as); cases this
    · have := resTVs_rel (b := b) (d := d) as (cs.drop a.len) (j + 1) (by
        rw [List.flatMap_cons, List.length_append, hcts] at hl
        rw [List.length_drop]
        omega) (fun x hx => ha x (by simp [hx])) (fun i => by
        have := hb (i + 1)
        rw [show j + 1 + i = j + (i + 1) by omega, this]
        simp only [argsL]
        rw [← encs_drop]
        cases a <;> rfl)
      rw [← encs_drop] at this
      exact this
end
end Go.Proofs.Ytoingpfepfhgkaa.TM
namespace Go.Proofs.Ytoingpfepfhgkaa.TM
open Go
mutual
theorem noFz_enc : ∀ (t : ST) (f : Fg) (x : V t), f.noFz = true → noFz (encT t f x)
  | .int k, f, x, h => by simp only [encT, noFz]
  | .bool, f, x, h => by simp only [encT, noFz]
  | .str, f, x, h => by simp only [encT, noFz]
  | .hole, f, x, h => by simp only [encT, noFz]
  | .sl r, f, x, h => by
    cases f with
    | sl g fs =>
      simp only [Fg.noFz, Bool.and_eq_true, decide_eq_true_eq] at h
      simp only [encT, noFz]
      refine ⟨h.1, ?_⟩
      have : ∀ l : List (R r), noFzLL (l.map fun e => encR r fs e) := by
        intro l
        induction l with
        | nil => simp only [List.map_nil, noFzLL]
        | cons e l ih =>
          simp only [List.map_cons, noFzLL]
          exact ⟨noFzs_enc r fs e h.2, ih⟩
      exact this _
    | _ => simp [encT, noFz, noFzLL]
  | .pt r, f, x, h => by
    cases f with
    | pt g fs =>
      simp only [Fg.noFz, Bool.and_eq_true, decide_eq_true_eq] at h
      simp only [encT, noFz]
      exact ⟨h.1, noFzs_enc r fs x h.2⟩
    | _ => simp only [encT, noFz]
  | .fn g r, f, x, h => by
    cases f with
    | fn fs =>
      simp only [Fg.noFz] at h
      simp only [encT, noFz]
      exact noFzs_enc r fs x h
    | _ => simp only [encT, noFz]
theorem noFzs_enc : ∀ (r : List ST) (fs : List Fg) (x : R r), Fg.noFzs fs = true → noFzL (encR r fs x)
  | [], fs, x, h => by simp only [encR, noFzL]
  | t :: r, [], x, h => by simp only [encR, noFzL]
  | t :: r, f :: fs, x, h => by
    simp only [Fg.noFzs, Bool.and_eq_true] at h
    simp only [encR, noFzL]
    exact ⟨noFz_enc t f _ h.1, noFzs_enc r fs _ h.2⟩
end
theorem noFz_cells : ∀ (cs : List Cl), Fg.noFzs (cs.map (·.f)) = true → noFzL (encs cs)
  | [], _ => by simp [encs, noFzL]
  | c :: cs, h => by
    simp only [List.map_cons, Fg.noFzs, Bool.and_eq_true] at h
    have := noFz_cells cs h.2
    simp only [encs, List.map_cons, noFzL] at this ⊢
    exact ⟨noFz_enc c.t c.f c.x h.1, this⟩
theorem noFzL_iff : ∀ {ts : List T}, noFzL ts ↔ ∀ t ∈ ts, noFz t
  | [] => by simp [noFzL]
  | t :: ts => by simp [noFzL, noFzL_iff (ts := ts)]
section
variable {ρ : Type} {N : Nat} {vs vs' : VS} {st : St} {y : ρ}
theorem lookB_append : ∀ (a b : List (Nm × VB)) (n : Nm), lookB (a ++ b) n = match lookB a n with | some x => some x | none => lookB b n
  | [], b, n => rfl
  | (m, v) :: a, b, n => by
    simp only [List.cons_append, lookB]
    cases nmEq m n with
    | true => rfl
    | false => exact lookB_append a b n
theorem lookB_drop {d : Nat} : ∀ (l : List (Nm × VB)) (n : Nm) (x : VB), lookB (dropB d l) n = some x → goneN d n = false ∧ lookB l n = some x
  | [], n, x, h => by cases h
  | (m, v) :: l, n, x, h => by
    simp only [dropB] at h
    cases hg : goneN d m with
    | true =>
      rw [hg] at h
      obtain ⟨h1, h2⟩ := lookB_drop l n x h
      refine ⟨h1, ?_⟩
      simp only [lookB]
      have : nmEq m n = false := by
        cases hh : nmEq m n with
        | false => rfl
        | true => rw [nm_eq.1 hh, h1] at hg; cases hg
      rw [this]
      exact h2
    | false =>
      rw [hg] at h
      simp only [lookB] at h ⊢
      cases hh : nmEq m n with
      | true => rw [hh] at h; rw [nm_eq.1 hh] at hg; exact ⟨hg, h⟩
      | false => rw [hh] at h; exact lookB_drop l n x h
theorem lookB_res {d : Nat} : ∀ (as : List AP) (cs : List Cl) (j : Nat) (n : Nm) (x : VB), (as.flatMap AP.cts).length = cs.length → (∀ a ∈ as, a.isRes = true) → lookB (resBs d j as cs) n = some x →
    ∃ i, n = (d, j + i) ∧ (resBox (argsL as (encs cs)) i).real = x.real ∧ (resBox (argsL as (encs cs)) i).cells = encs x.cells
  | [], cs, j, n, x, _, _, h => by cases h
  | a :: as, cs, j, n, x, hl, ha, h => by
    simp only [resBs, lookB] at h
    have hcts : a.cts.length = a.len := by cases a <;> rfl
    have hle : a.len ≤ cs.length := by
      rw [List.flatMap_cons, List.length_append, hcts] at hl
      omega
    cases hn : nmEq (d, j) n with
    | true =>
      rw [hn] at h
      cases h
      refine ⟨0, (nm_eq.1 hn).symm, ?_⟩
      cases a with
      | one t f =>
        cases cs with
        | nil => simp [AP.len] at hle
        | cons c cs => simp [argsL, resBox, AP.arg, Arg.given, AP.len, encs, AP.isPtr]
      | agg r => simp [argsL, resBox, AP.arg, Arg.given, AP.len, encs, AP.isPtr]
      | ptr r => simp [argsL, resBox, AP.arg, AP.len, encs, AP.isPtr]
      | own t f => have := ha _ (by simp : AP.own t f ∈ AP.own t f :: as); cases this
      | owns r => have := ha _ (by simp : AP.owns r ∈ AP.owns r :: as); cases this
    | false =>
      rw [hn] at h
      obtain ⟨i, h1, h2, h3⟩ := lookB_res as (cs.drop a.len) (j + 1) n x (by
        rw [List.flatMap_cons, List.length_append, hcts] at hl
        rw [List.length_drop]
        omega) (fun x hx => ha x (by simp [hx])) h
      refine ⟨i + 1, by rw [h1, show j + (i + 1) = j + 1 + i by omega], ?_⟩
      have e : resBox (argsL (a :: as) (encs cs)) (i + 1) = resBox (argsL as (encs (cs.drop a.len))) i := by
        simp only [argsL]
        rw [← encs_drop]
        cases a <;> rfl
      rw [e]
      exact ⟨h2, h3⟩
theorem mvIdx_shift {n : Nm} : ∀ (mv : List (Option Nm)) (i : Nat), mvIdx n (i + 1) mv = (mvIdx n i mv).map (· + 1)
  | [], i => rfl
  | none :: mv, i => by simp only [mvIdx]; exact mvIdx_shift mv (i + 1)
  | some m :: mv, i => by
    simp only [mvIdx]
    split
    · rfl
    · exact mvIdx_shift mv (i + 1)
theorem nodup_ok : ∀ {mv : List (Option Nm)}, nodupM mv = true → mvOK mv
  | [], _ => trivial
  | none :: mv, h => by simp only [nodupM] at h; simp only [mvOK]; exact nodup_ok h
  | some n :: mv, h => by
    simp only [nodupM, Bool.and_eq_true] at h
    simp only [mvOK]
    refine ⟨free_idx ?_, nodup_ok h.2⟩
    have key : ∀ l : List (Option Nm), nodupM.go n l = true → inM n l = false := by
      intro l
      induction l with
      | nil => intro _; rfl
      | cons o l ih =>
        intro h
        cases o with
        | none => exact ih h
        | some m =>
          simp only [nodupM.go, Bool.and_eq_true, Bool.not_eq_true'] at h
          simp only [inM, Bool.or_eq_false_iff]
          exact ⟨h.1, ih h.2⟩
    exact key mv h.1
theorem backB_spec : ∀ (mv : List (Option Nm)) (os : List (List (ST × Fg))) (cs : List Cl) (l : List (Nm × VB)) (n : Nm) (x : VB), mvOK mv → mv.length = os.length → lookB (backB mv os cs l) n = some x →
    (mvIdx n 0 mv = none ∧ lookB l n = some x) ∨ (∃ i z, mvIdx n 0 mv = some i ∧ lookB l n = some z ∧ x.real = z.real ∧ encs x.cells = (outsL os (encs cs)).getD i [])
  | [], os, cs, l, n, x, _, hl, h => by
    cases os with
    | nil => exact .inl ⟨rfl, h⟩
    | cons _ _ => simp at hl
  | o :: mv, [], cs, l, n, x, _, hl, h => by simp at hl
  | none :: mv, o :: os, cs, l, n, x, hm, hl, h => by
    simp only [backB] at h
    simp only [mvOK] at hm
    rcases backB_spec mv os _ l n x hm (by simpa using hl) h with ⟨h1, h2⟩ | ⟨i, z, h1, h2, h3, h4⟩
    · left
      exact ⟨by simp only [mvIdx]; rw [show (0 + 1) = 0 + 1 from rfl, mvIdx_shift, h1]; rfl, h2⟩
    · right
      refine ⟨i + 1, z, by simp only [mvIdx]; rw [mvIdx_shift, h1]; rfl, h2, h3, ?_⟩
      rw [h4]
      simp only [outsL, encs_drop, List.getD_cons_succ]
  | some m :: mv, o :: os, cs, l, n, x, hm, hl, h => by
    simp only [backB] at h
    simp only [mvOK] at hm
    have hl' : mv.length = os.length := by simpa using hl
    by_cases hmn : m = n
    · subst hmn
      rcases backB_spec mv os _ _ m x hm.2 hl' h with ⟨h1, h2⟩ | ⟨i, z, h1, h2, h3, h4⟩
      · cases hlk : lookB l m with
        | none => rw [hlk] at h2; simp only at h2; rw [hlk] at h2; cases h2
        | some z =>
          rw [hlk] at h2
          simp only [lookB, nm_eq.2 rfl] at h2
          cases h2
          right
          refine ⟨0, z, by simp [mvIdx], rfl, rfl, ?_⟩
          simp only [outsL, List.getD_cons_zero, encs_take]
      · rw [hm.1] at h1
        cases h1
    · have hne : nmEq m n = false := by
        cases hh : nmEq m n with
        | false => rfl
        | true => exact absurd (nm_eq.1 hh) hmn
      have hlk : lookB (match lookB l m with
        | some x => (m, ⟨x.real, cs.take o.length⟩) :: l
        | none => l) n = lookB l n := by
        cases lookB l m with
        | none => rfl
        | some z => simp only [lookB, hne]
      rcases backB_spec mv os _ _ n x hm.2 hl' h with ⟨h1, h2⟩ | ⟨i, z, h1, h2, h3, h4⟩
      · left
        exact ⟨by simp only [mvIdx]; rw [if_neg hmn, mvIdx_shift, h1]; rfl, hlk.symm.trans h2⟩
      · right
        refine ⟨i + 1, z, by simp only [mvIdx]; rw [if_neg hmn, mvIdx_shift, h1]; rfl, hlk.symm.trans h2, h3, ?_⟩
        rw [h4]
        simp only [outsL, encs_drop, List.getD_cons_succ]
theorem allRes_mem : ∀ {as : List AP}, allRes as = true → ∀ a ∈ as, a.isRes = true
  | [], _, a, h => by simp at h
  | x :: as, h, a, ha => by
    simp only [allRes, Bool.and_eq_true] at h
    rcases List.mem_cons.1 ha with rfl | ha
    · exact h.1
    · exact allRes_mem h.2 a ha
theorem tup_rel {Q : Nm → Pth → Nat → Prop} {xs : List TV} {us : List LV} (h : RelVs Q xs us) : RelV Q (tupT xs) (tupLV us) := by
  cases xs with
  | nil => simp only [RelVs] at h; subst h; simp only [tupT, tupLV, RelV]; exact ⟨[], rfl, by simp only [RelVs]⟩
  | cons x xs =>
    cases us with
    | nil => simp only [RelVs] at h
    | cons u us =>
      have h' := h
      simp only [RelVs] at h
      cases xs with
      | nil =>
        have : us = [] := by have := h.2; simp only [RelVs] at this; exact this
        subst this
        exact h.1
      | cons x2 xs =>
        cases us with
        | nil => have := h.2; simp only [RelVs] at this
        | cons u2 us => simp only [tupT, tupLV, RelV]; exact ⟨_, rfl, h'⟩
def Lb.outsT (l : Lb) (cs : List Cl) : List (List T) := outsL l.outs (encs (cs.take (outLen l)))
def Lb.resT (l : Lb) (cs : List Cl) : List Arg := argsL l.res (encs (cs.drop (outLen l)))
theorem afterT_rel {l : Lb} {d : Nat} {mv : List (Option Nm)} {cs : List Cl} {args : List Arg} (R : Rel vs st) (hcs : cs.length = l.outT.length) (hm : mvOK mv) (hl : l.outs.length = mv.length) (hr : allRes l.res = true) :
    Rel (afterT l d mv cs vs) (afterCall st d mv args (l.outsT cs) (l.resT cs)) := by
  have hlen : (l.res.flatMap AP.cts).length = (cs.drop (outLen l)).length := by
    rw [List.length_drop, hcs]
    unfold Lb.outT outLen
    rw [List.length_append]
    omega
  refine ⟨fun t => ?_, fun n x hx => ?_⟩
  · by_cases ht : t = d
    · subst ht
      have e : lookS (afterT l t mv cs vs).s t = tupT (resTVs t 2 l.res (cs.drop (outLen l))) := by
        simp only [afterT, lookS]
        rw [show Nat.beq t t = true from Nat.beq_refl t]
      rw [e]
      simp only [afterCall, if_true, resLV]
      refine tup_rel (resTVs_rel _ _ _ hlen (allRes_mem hr) fun i => ?_)
      have hg : gone t (t, 2 + i) = true := by simp [gone]
      rw [if_pos hg]
      simp only [Lb.resT]
      rw [show 2 + i - 2 = i by omega]
    · have hbt : Nat.beq d t = false := by
        cases hb : Nat.beq d t with
        | false => rfl
        | true => exact absurd (Nat.eq_of_beq_eq_true hb).symm ht
      have e : lookS (afterT l d mv cs vs).s t = callK d mv (lookS vs.s t) := by
        simp only [afterT, lookS, hbt]
        exact look_killS _ (by simp [callK]) _ _
      rw [e]
      simp only [afterCall, if_neg ht]
      refine RelV.callK (fun n hg hn => ?_) _ _ (R.s t)
      rw [gone_eq] at hg
      rw [if_neg (by rw [hg]; simp), free_idx hn]
  · simp only [afterT] at hx
    rw [lookB_append] at hx
    simp only [afterCall]
    cases h1 : lookB (resBs d 2 l.res (cs.drop (outLen l))) n with
    | some z =>
      rw [h1] at hx
      cases hx
      obtain ⟨i, rfl, h2, h3⟩ := lookB_res _ _ _ _ _ hlen (allRes_mem hr) h1
      have hg : gone d (d, 2 + i) = true := by simp [gone]
      rw [if_pos hg, show 2 + i - 2 = i by omega]
      exact ⟨h2, h3⟩
    | none =>
      rw [h1] at hx
      obtain ⟨h2, h3⟩ := lookB_drop _ _ _ hx
      rw [gone_eq] at h2
      rw [if_neg (by rw [h2]; simp)]
      rcases backB_spec _ _ _ _ _ _ hm hl.symm h3 with ⟨h4, h5⟩ | ⟨i, z, h4, h5, h6, h7⟩
      · rw [h4]
        exact R.b n x h5
      · rw [h4]
        refine ⟨by rw [h6]; exact (R.b n z h5).1, ?_⟩
        exact h7.symm
end
end Go.Proofs.Ytoingpfepfhgkaa.TM
namespace Go.Proofs.Ytoingpfepfhgkaa.TM
open Go
def stk (body : Code) : List Nat → List It
  | [] => []
  | i :: q => match codeAt body q.reverse with
    | some (.seq _ z) => if i = 0 then .c z :: stk body q else stk body q
    | some (.block id _) => .blk id :: stk body q
    | some (.loop x) => .lp x :: stk body q
    | _ => stk body q
def Lb.cells (l : Lb) (z : R l.outS) : List Cl := ofRow l.outT z
def J (P : Program) (l : Lb) (x : R l.inS) (z : R l.outS) : Prop := match l.q with
  | none => Fun P l.f (argsL l.args (encs (ofRow l.inT x))) (l.outsT (l.cells z)) (l.resT (l.cells z))
  | some q => ∀ (C : Ctx) (fn : Func) (c node : Code) (st : St), P.funcs[l.f]? = some fn → fn.body = some c → codeAt c q.reverse = some node → C.P = P → C.N = fn.ntmps →
      Rel (l.start x) st → Good C l.f (Post C (l.outsT (l.cells z)) (l.resT (l.cells z))) (.c node :: stk c q) st
def Right (P : Program) (rec : Rec) : Prop := ∀ l x z, rec l x = some z → J P l x z
section
variable {ρ : Type} {N : Nat} {vs vs' : VS} {st : St} {y : ρ}
theorem evT_rd {x : Operand} {k : TV → Co ρ} (h : evT x k vs = some y) (R : Rel vs st) :
    ∃ v lv vs' l, k v vs' = some y ∧ RelV (Qs st.b) v lv ∧ Rd N st vs vs' l ∧ ∀ st', fitsT N l st' → st'.ev x = some lv := by
  cases x with
  | tmp t => exact ⟨_, st.s t, _, [.rS t (st.s t)], h, R.s t, ⟨⟨rfl, rfl⟩, ⟨rfl, trivial⟩, by simp [isRead], .one (f := .rS t (lookS vs.s t)) ⟨rfl, (R.s t).t⟩⟩, fun st' hf => by have : st'.s t = st.s t := hf.1; simp only [St.ev, this]⟩
  | const v => exact ⟨_, _, _, [], h, rel_const v, .nil, fun _ _ => rfl⟩
  | func f => exact ⟨.fn f [], .fn (.func f) [], vs, [], h, (show RelV (Qs st.b) (.fn f []) (.fn (.func f) []) from by simp [RelV, RelVs]), .nil, fun _ _ => rfl⟩
  | global g => cases h
theorem evTs_rd : ∀ {xs : List Operand} {vs : VS} {k : List TV → Co ρ}, evTs xs k vs = some y → Rel vs st →
    ∃ v lv vs' l, k v vs' = some y ∧ RelVs (Qs st.b) v lv ∧ Rd N st vs vs' l ∧ ∀ st', fitsT N l st' → st'.evL xs = some lv
  | [], vs, k, h, R => ⟨[], [], vs, [], h, by simp [RelVs], .nil, fun _ _ => rfl⟩
  | x :: xs, vs, k, h, R => by
    obtain ⟨v, lv, vs1, l1, h, hv, g1, k1⟩ := evT_rd (N := N) h R
    obtain ⟨us, lus, vs2, l2, h, hu, g2, k2⟩ := evTs_rd h (g1.rel R)
    refine ⟨_, lv :: lus, _, _, h, by simp only [RelVs]; exact ⟨hv, hu⟩, g1.trans g2, fun st' hf => ?_⟩
    obtain ⟨q1, q2⟩ := (fits_reads g1.rd).1 hf
    simp only [St.evL, k1 st' q1, k2 st' q2]
theorem pickA_some {g : Nat} {bs : List (Nm × VB)} {us : List TV} : ∀ {ls : List Lb} {l : Lb}, pickA g bs us ls = some l → l.q = none ∧ l.f = g
  | [], _, h => by cases h
  | l0 :: ls, l, h => by
    simp only [pickA] at h
    split at h
    · rename_i hc
      cases h
      simp only [Bool.and_eq_true] at hc
      refine ⟨?_, Nat.eq_of_beq_eq_true hc.2.1⟩
      have := hc.1
      unfold isEntry at this
      cases hq : l0.q with
      | none => rfl
      | some q => rw [hq] at this; cases this
    · exact pickA_some h
theorem resT_noFz {l : Lb} {cs : List Cl} (h : noFzR l = true) (hcs : cs.map (fun c => (c.t, c.f)) = l.outT) : backOK true (l.outsT cs) (l.resT cs) := by
  intro _
  have hall : Fg.noFzs (cs.map (·.f)) = true := by
    have : cs.map (·.f) = l.outT.map (·.2) := by rw [← hcs]; simp
    rw [this]
    exact h
  have hc := noFzL_iff.1 (noFz_cells cs hall)
  have sub : ∀ ts : List T, (∀ t ∈ ts, t ∈ encs cs) → noFzL ts := fun ts ht => noFzL_iff.2 fun t h => hc t (ht t h)
  constructor
  · -- the results
    have key : ∀ (as : List AP) (ts : List T), (∀ t ∈ ts, t ∈ encs cs) → ∀ r ∈ argsL as ts, noFzL r.given := by
      intro as
      induction as with
      | nil => intro ts _ r hr; simp [argsL] at hr
      | cons a as ih =>
        intro ts hts r hr
        simp only [argsL, List.mem_cons] at hr
        rcases hr with rfl | hr
        · have htk : ∀ t ∈ ts.take a.len, t ∈ encs cs := fun t ht => hts t (List.mem_of_mem_take ht)
          cases a with
          | one t f =>
            simp only [AP.arg, Arg.given, noFzL, and_true]
            cases ts with
            | nil => simp [noFz]
            | cons t0 ts => exact hc t0 (hts t0 (by simp))
          | agg r => exact sub _ htk
          | ptr r => simp only [AP.arg, Arg.given, noFzL, noFz, and_true]; exact ⟨by simp, sub _ htk⟩
          | own t f => simp [AP.arg, Arg.given, noFzL]
          | owns r => simp [AP.arg, Arg.given, noFzL]
        · exact ih _ (fun t ht => hts t (List.mem_of_mem_drop ht)) r hr
    exact key l.res _ fun t ht => by
      rw [← encs_drop] at ht
      exact List.mem_of_mem_drop ht
  · have key : ∀ (os : List (List (ST × Fg))) (ts : List T), (∀ t ∈ ts, t ∈ encs cs) → ∀ o ∈ outsL os ts, noFzL o := by
      intro os
      induction os with
      | nil => intro ts _ o ho; simp [outsL] at ho
      | cons x os ih =>
        intro ts hts o ho
        simp only [outsL, List.mem_cons] at ho
        rcases ho with rfl | ho
        · exact sub _ fun t ht => hts t (List.mem_of_mem_take ht)
        · exact ih _ (fun t ht => hts t (List.mem_of_mem_drop ht)) o ho
    exact key l.outs _ fun t ht => by
      rw [← encs_take] at ht
      exact List.mem_of_mem_take ht
structure CallOK (P : Program) (N : Nat) (vs : VS) (st : St) (dr : Bool) (o : Oper) (vs' : VS) (f : FuncId) (lvs : List LV) (d : Nat) (args res : List Arg) (outs : List (List T)) (mv : List (Option Nm)) (lent : Bool) (reads : List Ac) : Prop where
  hd : d < N
  hfn : Fun P f args outs res
  hmv : mvOK mv
  len : outs.length = mv.length
  back : backOK lent outs res
  rel : Rel vs' (afterCall st d mv args outs res)
  fits : fitsT N reads st
  rd : ∀ x ∈ reads, isRead x
  ok : ∀ st', fitsT N reads st' → callOf st' o = some (f, lvs, d) ∧ argsOK st' mv lent mv lvs args
  free : dr = true → ∀ (i : Nat) (n : Nm), mv[i]? = some (some n) → gone d n = false
  cov : dr = true → Covers (callT reads d mv outs res) vs.lg vs'.lg
theorem outsL_len : ∀ (os : List (List (ST × Fg))) (ts : List T), (outsL os ts).length = os.length
  | [], _ => rfl
  | o :: os, ts => by simp [outsL, outsL_len os]
theorem notG_spec {d : Nat} : ∀ {mv : List (Option Nm)}, notG d mv = true → ∀ (i : Nat) (n : Nm), mv[i]? = some (some n) → gone d n = false
  | [], _, i, n, h => by simp at h
  | none :: mv, hm, i, n, h => by
    cases i with
    | zero => simp at h
    | succ i => exact notG_spec (mv := mv) hm i n (by simpa using h)
  | some m :: mv, hm, i, n, h => by
    simp only [notG, Bool.and_eq_true, Bool.not_eq_true'] at hm
    cases i with
    | zero => simp at h; subst h; rw [← gone_eq]; exact hm.1
    | succ i => exact notG_spec hm.2 i n (by simpa using h)
theorem mvTs_cov {outs : List (List T)} : ∀ (mv : List (Option Nm)) (i : Nat), ∀ a ∈ mvTs outs i mv, ∃ f ∈ mvF mv, Cov f a
  | [], i, a, h => by simp [mvTs] at h
  | none :: mv, i, a, h => mvTs_cov mv (i + 1) a h
  | some n :: mv, i, a, h => by
    simp only [mvTs, List.mem_cons] at h
    rcases h with rfl | rfl | h
    · exact ⟨.km n, by simp [mvF], rfl⟩
    · exact ⟨.wB n, by simp [mvF], rfl⟩
    · obtain ⟨f, h1, h2⟩ := mvTs_cov mv (i + 1) a h
      exact ⟨f, by simp [mvF, h1], h2⟩
theorem wBs_cov {d : Nat} : ∀ (as : List AP) (ts : List T) (j : Nat), ∀ a ∈ wBs d j (argsL as ts), ∃ f ∈ wBs? d j as, Cov f a
  | [], ts, j, a, h => by simp [argsL, wBs] at h
  | x :: as, ts, j, a, h => by
    simp only [argsL, wBs, List.mem_cons] at h
    rcases h with rfl | h
    · exact ⟨.wB (d, j), by simp [wBs?], rfl⟩
    · obtain ⟨f, h1, h2⟩ := wBs_cov as _ (j + 1) a h
      exact ⟨f, by simp [wBs?, h1], h2⟩
theorem callC_ref {E : En} {rec : Rec} {dr : Bool} {o : Oper} {k : Co ρ} (hJ : Right E.P rec) (h : callC E rec dr o k vs = some y) (R : Rel vs st) :
    ∃ vs' f lvs d args res outs mv lent reads, k vs' = some y ∧ CallOK E.P E.N vs st dr o vs' f lvs d args res outs mv lent reads := by
  unfold callC at h
  cases hop : o.op with
  | call c =>
    cases hd : o.dst with
    | none => rw [hop, hd] at h; cases h
    | some d =>
      rw [hop, hd] at h
      simp only at h
      cases hcal : c.callee with
      | value fo =>
        rw [hcal] at h
        simp only at h
        obtain ⟨fv, lf, vs1, l1, h, hfv, g1, k1⟩ := evT_rd (N := E.N) h R
        obtain ⟨us, lus, vs2, l2, h, hus, g2, k2⟩ := evTs_rd (N := E.N) h (g1.rel R)
        cases fv with
        | fn g caps =>
          simp only [RelV] at hfv
          obtain ⟨lcaps, rfl, hcaps⟩ := hfv
          simp only at h
          cases hp : pickA g vs2.b (us ++ caps) (E.tb g) with
          | none => rw [hp] at h; cases h
          | some l =>
            rw [hp] at h
            simp only at h
            obtain ⟨hq, hlf⟩ := pickA_some hp
            obtain ⟨cs, mv, vs3, l3, h, g3, k3, k4⟩ := argsT_ref (N := E.N) h (g2.rel (g1.rel R)) (hus.append hcaps)
            cases hc : (Nat.blt d E.N && (nodupM mv && (freeA mv (us ++ caps) l.args && (Nat.beq l.outs.length mv.length && allRes l.res && (!dr || notG d mv) && (noFzR l || !lendsA? (us ++ caps) l.args))))) with
            | false => rw [hc] at h; cases h
            | true =>
              rw [hc] at h
              simp only [Bool.and_eq_true] at hc
              obtain ⟨c1, c2, c3, ⟨⟨c4, c5⟩, c6⟩, c7⟩ := hc
              simp only at h
              obtain ⟨x, h, hx⟩ := toRow_some h
              unfold call_ at h
              cases hz : rec l x with
              | none => rw [hz] at h; cases h
              | some z =>
                rw [hz] at h
                simp only [Option.bind_some] at h
                have hj := hJ l x z hz
                unfold J at hj
                rw [hq] at hj
                simp only at hj
                rw [hx, hlf] at hj
                have hmv := nodup_ok c2
                have hlen := Nat.eq_of_beq_eq_true c4
                have hall := g1.trans (g2.trans g3)
                have hlent : ∃ lent : Bool, (lendsA? (us ++ caps) l.args = true → lent = true) ∧ backOK lent (l.outsT (ofRow l.outT z)) (l.resT (ofRow l.outT z)) := by
                  cases hn : noFzR l with
                  | true => exact ⟨true, fun _ => rfl, resT_noFz hn (ofRow_cts _ _)⟩
                  | false =>
                    rw [hn] at c7
                    refine ⟨false, fun hh => ?_, fun hh => by cases hh⟩
                    rw [hh] at c7
                    cases c7
                obtain ⟨lent, hl1, hl2⟩ := hlent
                have hrel : Rel (afterT l d mv (ofRow l.outT z) vs3) (afterCall st d mv (argsL l.args (encs cs)) (l.outsT (ofRow l.outT z)) (l.resT (ofRow l.outT z))) := by
                  refine afterT_rel (hall.rel R) ?_ hmv hlen c5
                  have := congrArg List.length (ofRow_cts l.outT z)
                  simpa using this
                refine ⟨_, g, lus ++ lcaps, d, argsL l.args (encs cs), l.resT (ofRow l.outT z), l.outsT (ofRow l.outT z), mv, lent, l1 ++ (l2 ++ l3), h, ?_⟩
                refine ⟨by simpa using c1, hj, hmv, ?_, hl2, hrel, hall.fits, hall.rd, fun st' hf => ?_, fun hdr => ?_, fun hdr => ?_⟩
                · rw [← hlen]
                  exact outsL_len _ _
                · obtain ⟨q1, q2⟩ := (fits_reads g1.rd).1 hf
                  obtain ⟨q2, q3⟩ := (fits_reads g2.rd).1 q2
                  refine ⟨?_, k4 mv lent hl1 c3 st' q3⟩
                  unfold callOf
                  rw [hop, hd]
                  simp only [hcal, k1 st' q1, k2 st' q2]
                · rw [hdr] at c6
                  exact notG_spec (by simpa using c6)
                · have hcov := hall.cov
                  unfold callT
                  refine hcov.trans ?_
                  refine ⟨.wS d (tupT (resTVs d 2 l.res ((ofRow l.outT z).drop (outLen l)))) :: (wBs? d 2 l.res ++ (mvF mv ++ [.gn d])), by simp [afterT], fun a ha => ?_⟩
                  simp only [List.mem_cons, List.mem_append, List.not_mem_nil, or_false] at ha
                  rcases ha with rfl | ha | ha | rfl
                  · exact ⟨.gn d, by simp, rfl⟩
                  · obtain ⟨f, h1, h2⟩ := mvTs_cov _ _ a ha
                    exact ⟨f, by simp [h1], h2⟩
                  · obtain ⟨f, h1, h2⟩ := wBs_cov _ _ _ a ha
                    exact ⟨f, by simp [h1], h2⟩
                  · refine ⟨_, List.mem_cons_self, rfl, ?_⟩
                    have := (hrel.s d).t
                    simp only [afterT, lookS, Nat.beq_refl, afterCall, if_true] at this
                    exact this
        | _ => cases h
      | _ => rw [hcal] at h; cases h
  | _ => rw [hop] at h; cases h
end
end Go.Proofs.Ytoingpfepfhgkaa.TM
