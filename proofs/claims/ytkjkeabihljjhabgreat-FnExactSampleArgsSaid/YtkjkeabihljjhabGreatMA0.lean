/- Part 1 of a machine that runs the functions of a program over plain values, and of the proof that its runs are runs of the program. No condition. -/
import Derived.WalkKit
import Derived.Laws.StructEq
import Derived.Laws.Rows
import Derived.Lib.AppendStr
namespace Go.Proofs.YtkjkeabihljjhabGreat
namespace TM
open Go
inductive Fl | own | nw | fz
 deriving DecidableEq
inductive T where
 |v (x:Value)
 |sl (f:Fl) (es:List (List T))
 |pt (f:Fl) (cs:List T)
 |fn (g:Fn) (caps:List T)
 |hole
abbrev Nm:=Nat×Nat
inductive LV where
 |t (x:T)
 |ref (n:Nm) (p:List Nat) (lo hi:Nat)
 |addr (n:Nm) (p:List Nat)
 |raddr (cs:List T)
 |agg (xs:List LV)
 |tup (xs:List LV)
 |fn (g:Fn) (caps:List LV)
 |va (xs:List LV)
 |dead
inductive CV where
 |one (x:T)
 |agg (cs:List T)
structure Box where
 real:Bool
 cells:List T
structure St where
 s:Nat→LV
 b:Nm→Box
def rowAt:List T→List Nat→Option (List T)
 |_,[]=>none
 |cs,[c]=>some (cs.drop c)
 |cs,c :: i :: rest=>match cs.drop c with
  |.sl .own es :: _=>match es[i]? with
   |some e=>rowAt e rest
   |none=>none
  |_=>none
def setAt:List T→List Nat→T→Option (List T)
 |_,[],_=>none
 |cs,[c],x=>if c<cs.length then some (cs.set c x) else none
 |cs,c :: i :: rest,x=>match cs.drop c with
  |.sl .own es :: _=>match es[i]? with
   |some e=>match setAt e rest x with
    |some e'=>some (cs.set c (.sl .own (es.set i e')))
    |none=>none
   |none=>none
  |_=>none
def bump (o:Nat):List Nat→List Nat
 |[]=>[]
 |[c]=>[c+o]
 |c :: d :: rest=>c :: bump o (d :: rest)
def killsV (n:Nm) (p:List Nat):LV→Bool
 |.ref m q _ _=>m==n&&p.isPrefixOf q
 |.addr m q=>m==n&&p.isPrefixOf q&&p.length<q.length
 |_=>false
mutual
def killV (n:Nm) (p:List Nat):LV→LV
 |.ref m q lo hi=>if m=n∧p.isPrefixOf q then .dead else .ref m q lo hi
 |.addr m q=>if m=n∧p.isPrefixOf q∧p.length<q.length then .dead else .addr m q
 |.agg xs=>.agg (killVs n p xs)
 |.tup xs=>.tup (killVs n p xs)
 |.fn g xs=>.fn g (killVs n p xs)
 |.va xs=>.va (killVs n p xs)
 |.t x=>.t x
 |.raddr cs=>.raddr cs
 |.dead=>.dead
def killVs (n:Nm) (p:List Nat):List LV→List LV
 |[]=>[]
 |x :: xs=>killV n p x :: killVs n p xs
end
def partOf (v:LV) (i:Nat):Option LV:=match v with
 |.tup xs=>xs[i]?
 |_=>none
def hdrLen (cs:List T) (c:Nat):Option Nat:=match cs.drop c with
 |.sl .own es :: _=>some es.length
 |_=>none
inductive M (α:Type) where
 |ok (a:α)
 |no
 |rdS (t:Nat) (k:LV→M α)
 |rdX (t i:Nat) (k:LV→M α)
 |rdB (n:Nm) (k:Box→M α)
 |wrS (t:Nat) (v:LV) (k:M α)
 |wrB (n:Nm) (x:Box) (k:M α)
 |kill (n:Nm) (p:List Nat) (k:M α)
 |rdH (n:Nm) (c:Nat) (k:Option Nat→M α)
 |hoB (n:Nm) (p:List Nat) (k:M α)
def M.run {α:Type} (N:Nat):M α→St→Option (α×St)
 |.ok a,st=>some (a,st)
 |.no,_=>none
 |.rdS t k,st=>(k (st.s t)).run N st
 |.rdX t i k,st=>match partOf (st.s t) i with
  |some y=>(k y).run N st
  |none=>none
 |.rdB n k,st=>(k (st.b n)).run N st
 |.wrS t v k,st=>if t<N then k.run N ⟨fun u=>if u=t then v else st.s u,st.b⟩ else none
 |.wrB n x k,st=>k.run N ⟨st.s,fun m=>if m=n then x else st.b m⟩
 |.kill n p k,st=>k.run N ⟨fun u=>killV n p (st.s u),st.b⟩
 |.rdH n c k,st=>(k (hdrLen (st.b n).cells c)).run N st
 |.hoB n p k,st=>match setAt (st.b n).cells p .hole with
  |some cs=>k.run N ⟨st.s,fun m=>if m=n then ⟨(st.b n).real,cs⟩ else st.b m⟩
  |none=>none
def isAgg (P:Program) (t:TypeId):Option Bool:=match P.underlying t with | some (.struct _) | some (.array _ _)=>some true | some _=>some false | none=>none
def fieldAt (P:Program) (s:TypeId) (f:Nat):Option Field:=match P.underlying s with | some (.struct fs)=>fs[f]? | _=>none
def ofC:Value→T
 |.slice none 0 0=>.sl .own []
 |x=>.v x
def zeroT (P:Program) (t:TypeId):Option (List T):=((P.info? t).bind (·.zero)).bind fun z=>if z.cells.toList.all (·.oneCell')=true then some (z.cells.toList.map ofC) else none
def buildInfo (P:Program) (t:TypeId):Option (List T×List (Nat×Nat)):=match zeroT P t,P.underlying t with
 |some z,some (.struct fs)=>(fs.toList.mapM fun f=>(P.info? f.type).map fun i=>(f.offset,i.size)).map fun l=>(z,l)
 |_,_=>none
def rowInfo (P:Program) (t:TypeId):Option (List T):=match P.underlying t with
 |some (.slice e)=>match zeroT P e with
  |some z=>if z.length=P.cellsOf e∧0<z.length∧(P.info? e).elim 0 (·.bytes)≤4096 then some z else none
  |none=>none
 |_=>none
def ofConst:Value→LV
 |.agg cs=>if cs.toList.all (·.oneCell')=true then .agg (cs.toList.map fun c=>.t (ofC c)) else .dead
 |.tuple _=>.dead
 |x=>.t (ofC x)
def ev {α:Type} (x:Operand) (k:LV→M α):M α:=match x with
 |.tmp t=>.rdS t k
 |.const v=>k (ofConst v)
 |.func f=>k (.fn (.func f) [])
 |.global _=>.no
def evs {α:Type}:List Operand→(List LV→M α)→M α
 |[],k=>k []
 |x :: xs,k=>ev x fun v=>evs xs fun vs=>k (v :: vs)
def evParts {α:Type}:List (Nat×Operand)→(List (Nat×LV)→M α)→M α
 |[],k=>k []
 |(i,x) :: xs,k=>ev x fun v=>evParts xs fun vs=>k ((i,v) :: vs)
def out (d:Option Nat) (v:LV):M Unit:=match d with
 |some t=>.wrS t v (.ok ())
 |none=>.ok ()
def close {α:Type}:LV→(T→M α)→M α
 |.t .hole,_=>.no
 |.t x,k=>k x
 |.ref n p 0 hi,k=>.rdB n fun bx=>match rowAt bx.cells p with
  |some (.sl .own es :: _)=>if hi=es.length∨0<hi then match setAt bx.cells p .hole with
   |some cs=>if p.length=1 then .wrB n ⟨bx.real,cs⟩ (.kill n p (k (.sl .own (es.take hi)))) else .hoB n p (.kill n p (k (.sl .own (es.take hi))))
   |none=>.no
   else .no
  |_=>.no
 |.fn g [],k=>k (.fn g [])
 |_,_=>.no
def closes {α:Type}:List LV→(List T→M α)→M α
 |[],k=>k []
 |x :: xs,k=>close x fun c=>closes xs fun cs=>k (c :: cs)
def closeC {α:Type}:LV→(List T→M α)→M α
 |.agg xs,k=>closes xs k
 |x,k=>close x fun c=>k [c]
def closeParts {α:Type}:List (Nat×LV)→(List (Nat×List T)→M α)→M α
 |[],k=>k []
 |(i,x) :: xs,k=>closeC x fun c=>closeParts xs fun cs=>k ((i,c) :: cs)
def seen (n:Nm) (p:List Nat):T→LV
 |.v x=>.t (.v x)
 |.sl .own es=>.ref n p 0 es.length
 |.sl .nw es=>.t (.sl .nw es)
 |.sl .fz es=>.t (.sl .fz es)
 |.pt .own _=>.dead
 |.pt .nw cs=>.raddr cs
 |.pt .fz cs=>.raddr cs
 |.fn g []=>.t (.fn g [])
 |.fn _ _=>.dead
 |.hole=>.dead
def seens (n:Nm) (p:List Nat):Nat→List T→List LV
 |_,[]=>[]
 |j,x :: xs=>seen n (bump j p) x :: seens n p (j+1) xs
def frozenT:T→Bool
 |.sl .own (_ :: _)=>false
 |.pt .own _=>false
 |.hole=>false
 |_=>true
def stores {α:Type} (n:Nm) (p:List Nat):Nat→List T→M α→M α
 |_,[],k=>k
 |j,x :: xs,k=>.rdB n fun bx=>match rowAt bx.cells (bump j p),setAt bx.cells (bump j p) x with
  |some (old :: _),some cs=>
   let next:=M.wrB n ⟨bx.real,cs⟩ (stores n p (j+1) xs k)
   match old with
   |.sl .own _=>.kill n (bump j p) next
   |_=>next
  |_,_=>.no
def fresh {α:Type} (d:Nat) (x:Box) (k:M α):M α:=.kill (d,0) [] (.wrB (d,0) x k)
def small:Nat:=1099511627776
def cmpI (op:BinOp) (a b:Int):Option Bool:=match op with
 |.eql=>some (a==b) | .neq=>some (a != b) | .lss=>some (decide (a<b)) | .leq=>some (decide (a≤b)) | .gtr=>some (decide (b<a)) | .geq=>some (decide (b≤a))
 |_=>none
def bitI (k:IntKind) (op:BinOp) (a b:Int):Option Int:=match op with
 |.and=>some (k.wrap (BitVec.ofInt k.bits a &&& BitVec.ofInt k.bits b).toNat)
 |.or=>some (k.wrap (BitVec.ofInt k.bits a ||| BitVec.ofInt k.bits b).toNat)
 |.xor=>some (k.wrap (BitVec.ofInt k.bits a ^^^ BitVec.ofInt k.bits b).toNat)
 |_=>none
def shI (k:IntKind) (op:BinOp) (a b:Int):Option Int:=match op with
 |.shl=>some (k.wrap (a * 2 ^ min b.toNat k.bits))
 |.shr=>some (a.fdiv (2 ^ min b.toNat k.bits))
 |_=>none
def ariI (k:IntKind) (op:BinOp) (a b:Int):Option Int:=match op with
 |.add=>some (k.wrap (a+b))
 |.sub=>some (k.wrap (a-b))
 |.mul=>some (k.wrap (a * b))
 |.quo=>if b=0 then none else some (k.wrap (a.tdiv b))
 |.rem=>if b=0 then none else some (a.tmod b)
 |_=>none
def intB (op:BinOp) (k l:IntKind) (a b:Int):Option Value:=match shI k op a b with
 |some r=>if b<0 then none else some (.int k r)
 |none=>if k=l then match ariI k op a b,bitI k op a b with
   |some r,_=>some (.int k r)
   |none,some r=>some (.int k r)
   |none,none=>(cmpI op a b).map .bool
  else none
def flat1 (d:Option TypeDesc) (x y:LV):Option Bool:=match d,x,y with
 |some .bool,.t (.v (.bool a)),.t (.v (.bool b))=>some (a==b)
 |some (.int _),.t (.v (.int k a)),.t (.v (.int l b))=>if k=l then some (a==b) else none
 |some .string,.t (.v (.string a)),.t (.v (.string b))=>some (a.data.toList==b.data.toList)
 |_,_,_=>none
def eqFs (P:Program):List Field→List LV→List LV→Option Bool
 |[],_,_=>some true
 |f :: fs,xs,ys=>if (f.name== "_")=true then none else match xs[f.offset]?,ys[f.offset]? with
  |some x,some y=>match flat1 (P.underlying f.type) x y,eqFs P fs xs ys with
   |some r,some s=>some (r&&s)
   |_,_=>none
  |_,_=>none
def binV (P:Program) (t:TypeId) (op:BinOp) (x y:LV):Option Value:=match x,y with
 |.t (.v (.int k a)),.t (.v (.int l b))=>intB op k l a b
 |.t (.v (.string a)),.t (.v (.string b))=>match op with
  |.eql=>some (.bool (a.data.toList==b.data.toList))
  |.neq=>some (.bool (a.data.toList != b.data.toList))
  |.lss=>some (.bool (Op.bytesLess a.data.toList b.data.toList))
  |.geq=>some (.bool (!Op.bytesLess a.data.toList b.data.toList))
  |.add=>if a.size+b.size≤small then some (.string (a++b)) else none
  |_=>none
 |.t (.v (.bool a)),.t (.v (.bool b))=>match P.underlying t with
  |some .bool=>match op with
   |.eql=>some (.bool (a==b))
   |.neq=>some (.bool (a != b))
   |_=>none
  |_=>none
 |.agg xs,.agg ys=>match P.underlying t with
  |some (.struct fs)=>if P.stoodInHeld t=false∧P.eqGuardType P.depth t=false then match eqFs P fs.toList xs ys with
   |some r=>match op with
    |.eql=>some (.bool r)
    |.neq=>some (.bool (!r))
    |_=>none
   |none=>none
   else none
  |_=>none
 |_,_=>none
def LV.isDead:LV→Bool
 |.dead=>true
 |_=>false
def LV.cells:LV→List LV
 |.agg xs=>xs
 |x=>[x]
def fillL (fs:List (Nat×Nat)):List LV→List (Nat×LV)→Option (List LV)
 |cs,[]=>some cs
 |cs,(i,x) :: rest=>match fs[i]? with
  |some (o,sz)=>if x.cells.length=sz∧o+sz≤cs.length∧x.isDead=false then fillL fs (cs.take o++x.cells++cs.drop (o+sz)) rest else none
  |none=>none
def fillE (wd:Nat):Nat→List (Nat×List T)→Option (List (List T))
 |_,[]=>some []
 |s,(i,c) :: rest=>if c.length=wd∧i=s then (fillE wd (s+1) rest).map (c :: ·) else none
def bytesOf:List (List T)→Option (List UInt8)
 |[]=>some []
 |[.v (.int .u8 k)] :: es=>if 0≤k∧k<256 then (bytesOf es).map (UInt8.ofNat k.toNat :: ·) else none
 |_=>none
def ofBytes (s:ByteArray):List (List T):=s.data.toList.map fun c=>[.v (.int .u8 c.toNat)]
def flatE (e:List T):Bool:=e.all fun x=>match x with | .v _=>true | _=>false
def fullA (cs:List T) (p:List Nat):Bool:=match rowAt cs p with
 |some (.sl .own (_ :: _) :: _)=>true
 |_=>false
def headM (z:List T) (v:LV) (k:Bool→T→M Unit):M Unit:=match v with
 |.ref n p lo hi=>.rdB n fun bx=>if lo=0∧hi=0∧fullA bx.cells p=true then close (.ref n p 0 1) fun a=>match a with
   |.sl .own [e]=>if e.length=z.length then k true (.sl .own []) else .no
   |_=>.no
  else close (.ref n p lo hi) fun a=>k false a
 |v=>close v fun a=>k false a
def finApp (z:List T) (d:Nat) (ne:Bool) (a b:T):M Unit:=match a,b with
 |.sl .own es,.sl _ es'=>if (ne=true→es'≠[])∧(es++es').length≤1073741824∧(∀ e'∈es++es',e'.length=z.length) then
   fresh d ⟨false,[.sl .own (es++es')]⟩ (.wrS d (.ref (d,0) [0] 0 (es++es').length) (.ok ())) else .no
 |_,_=>.no
def twoM (z:List T) (d:Nat) (v u:LV):M Unit:=match flatE z,u with
 |true,.ref m q lo hi=>.rdB m fun bx=>match rowAt bx.cells q with
  |some (.sl .own es :: _)=>if lo≤hi∧hi≤es.length∧es.all flatE=true then headM z v fun ne a=>finApp z d ne a (.sl .nw ((es.take hi).drop lo)) else .no
  |_=>.no
 |_,u=>headM z v fun ne a=>close u fun b=>finApp z d ne a b
def appendM (P:Program) (c:Call) (dst:Option Nat) (x y:Operand):M Unit:=match dst,c.argTypes.toList with
 |some d,[t0,t1]=>match P.underlying t0 with
  |some (.slice _)=>match rowInfo P t0 with
   |some z=>if t1=t0 then ev x fun v=>ev y fun u=>twoM z d v u
    else match P.underlying t1 with
     |some .string=>ev x fun v=>ev y fun u=>close v fun a=>match a,u,z with
      |.sl .own es,.t (.v (.string s)),[_]=>if (es++ofBytes s).length≤1073741824∧(∀ e'∈es,e'.length=z.length) then
        fresh d ⟨false,[.sl .own (es++ofBytes s)]⟩ (.wrS d (.ref (d,0) [0] 0 (es++ofBytes s).length) (.ok ())) else .no
      |_,_,_=>.no
     |_=>.no
   |none=>.no
  |_=>.no
 |_,_=>.no
def bytesL:List (List T)→Option (List UInt8)
 |[]=>some []
 |[.v (.int .u8 n)] :: es=>match bytesL es with
  |some bs=>some (UInt8.ofNat n.toNat :: bs)
  |none=>none
 |_ :: _=>none
def loadB (P:Program) (t:TypeId) (d:Option Nat) (n:Nm) (p:List Nat):M Unit:=.rdB n fun bx=>match rowAt bx.cells p with
 |some row=>match isAgg P t with
  |some true=>if P.cellsOf t≤row.length then out d (.agg (seens n p 0 (row.take (P.cellsOf t)))) else .no
  |some false=>match row with
   |y :: _=>out d (seen n (bump 0 p) y)
   |[]=>.no
  |none=>.no
 |none=>.no
def loadM (P:Program) (t:TypeId) (d:Option Nat) (n:Nm) (p:List Nat):M Unit:=match p,isAgg P t with
 |[c],some false=>.rdH n c fun o=>match o with
  |some hi=>out d (.ref n [c] 0 hi)
  |none=>loadB P t d n p
 |_,_=>loadB P t d n p
def oneV:List T→Bool
 |[.v _]=>true
 |_=>false
def clearL (es:List (List T)) (lo hi:Nat) (z:Value):List (List T):=es.take lo++List.replicate (hi-lo) [.v z]++es.drop hi
def clearM (P:Program) (c:Call) (dst:Option Nat) (t0:Nat):M Unit:=match dst,c.argTypes.toList with
 |none,[t]=>match rowInfo P t with
  |some [.v z]=>.rdS t0 fun v=>match v with
   |.ref n p lo hi=>.rdB n fun bx=>match rowAt bx.cells p with
    |some (.sl .own es :: _)=>if lo≤hi∧hi≤es.length∧es.all oneV=true then match setAt bx.cells p (.sl .own (clearL es lo hi z)) with
     |some cs=>.wrB n ⟨bx.real,cs⟩ (.ok ())
     |none=>.no
     else .no
    |_=>.no
   |_=>.no
  |_=>.no
 |_,_=>.no
def opM (P:Program) (o:Oper):M Unit:=
 match o.op with
 |.move x | .assign x=>ev x fun v=>out o.dst v
 |.pick c a b=>ev c fun vc=>ev a fun va=>ev b fun vb=>match vc with
  |.t (.v (.bool r))=>out o.dst (if r=true then va else vb)
  |_=>.no
 |.alloc t=>match o.dst,zeroT P t with
  |some d,some cs=>fresh d ⟨true,cs⟩ (.wrS d (.addr (d,0) [0]) (.ok ()))
  |_,_=>.no
 |.box _ x=>match o.dst with
  |some d=>ev x fun v=>closeC v fun cs=>fresh d ⟨true,cs⟩ (.wrS d (.addr (d,0) [0]) (.ok ()))
  |none=>.no
 |.build t parts=>match buildInfo P t with
  |some (cs,fs)=>evParts parts.toList fun vs=>match fillL fs (cs.map .t) vs with
   |some xs=>out o.dst (.agg xs)
   |none=>.no
  |none=>.no
 |.buildSlice t len parts=>match o.dst,rowInfo P t with
  |some d,some z=>if len * z.length≤16777216 then evParts parts.toList fun vs=>closeParts vs fun cs=>match fillE z.length 0 cs with
    |some es=>if es.length=len then fresh d ⟨false,[.sl .own es]⟩ (.wrS d (.ref (d,0) [0] 0 len) (.ok ())) else .no
    |none=>.no
   else .no
  |_,_=>.no
 |.makeSlice t l c=>match o.dst,rowInfo P t with
  |some d,some z=>ev l fun v=>ev c fun u=>match v,u with
    |.t (.v (.int .i64 n)),.t (.v (.int .i64 m))=>if 0≤n∧n≤1073741824∧m=n then fresh d ⟨false,[.sl .own (List.replicate n.toNat z)]⟩ (.wrS d (.ref (d,0) [0] 0 n.toNat) (.ok ())) else .no
    |_,_=>.no
  |_,_=>.no
 |.load t x=>ev x fun v=>match v with
  |.addr n p=>loadM P t o.dst n p
  |.raddr cs=>match isAgg P t with
   |some true=>if P.cellsOf t≤cs.length then out o.dst (.agg ((cs.take (P.cellsOf t)).map .t)) else .no
   |some false=>match cs with
    |y :: _=>out o.dst (.t y)
    |[]=>.no
   |none=>.no
  |.va xs=>match isAgg P t with
   |some true=>if P.cellsOf t≤xs.length then out o.dst (.agg (xs.take (P.cellsOf t))) else .no
   |some false=>match xs with
    |y :: _=>out o.dst y
    |[]=>.no
   |none=>.no
  |_=>.no
 |.store t x y=>ev x fun v=>match v with
  |.addr n p=>ev y fun u=>closeC u fun cs=>if P.cellsOf t=cs.length∧0<cs.length then stores n p 0 cs (out o.dst .dead) else .no
  |_=>.no
 |.nilCheck x=>ev x fun v=>match v with
  |.addr n p=>out o.dst (.addr n p)
  |.raddr cs=>out o.dst (.raddr cs)
  |_=>.no
 |.binOp op t x y _=>ev x fun v=>ev y fun u=>match binV P t op v u with
  |some r=>out o.dst (.t (.v r))
  |none=>.no
 |.unOp op _ x=>ev x fun v=>match op,v with
  |.not,.t (.v (.bool b))=>out o.dst (.t (.v (.bool (!b))))
  |.neg,.t (.v (.int .i64 n))=>out o.dst (.t (.v (.int .i64 (IntKind.i64.wrap (-n)))))
  |_,_=>.no
 |.fieldAddr s x f=>match fieldAt P s f with
  |some fl=>if 0<P.cellsOf fl.type then ev x fun v=>match v with
   |.addr n p=>out o.dst (.addr n (bump fl.offset p))
   |.raddr cs=>out o.dst (.raddr (cs.drop fl.offset))
   |.va xs=>out o.dst (.va (xs.drop fl.offset))
   |_=>.no
   else .no
  |none=>.no
 |.field s x f=>match fieldAt P s f with
  |some fl=>ev x fun v=>match v with
   |.agg xs=>match isAgg P fl.type with
    |some true=>if fl.offset+P.cellsOf fl.type≤xs.length then out o.dst (.agg ((xs.drop fl.offset).take (P.cellsOf fl.type))) else .no
    |some false=>match xs[fl.offset]? with
     |some y=>out o.dst y
     |none=>.no
    |none=>.no
   |_=>.no
  |none=>.no
 |.indexAddr t x i=>match P.underlying t with
  |some (.slice el)=>ev x fun v=>ev i fun w=>match v,w with
   |.t (.sl f es),.t (.v (.int .i64 k))=>if 0≤k then (match es[k.toNat]? with
    |some e=>if f=.own∨e.length≠P.cellsOf el then .no else out o.dst (.raddr e)
    |none=>.no) else .no
   |.ref n p lo hi,.t (.v (.int .i64 k))=>.rdB n fun bx=>match rowAt bx.cells p with
    |some (.sl .own es :: _)=>match es[lo+k.toNat]? with
     |some e=>if 0≤k∧k<(hi:Int)-lo∧e.length=P.cellsOf el then out o.dst (.addr n (p++[lo+k.toNat,0])) else .no
     |none=>.no
    |_=>.no
   |_,_=>.no
  |_=>.no
 |.index t x i=>match P.underlying t with
  |some .string=>ev x fun v=>ev i fun w=>match v,w with
   |.t (.v (.string s)),.t (.v (.int _ k))=>if 0≤k then (match s.data[k.toNat]? with
    |some c=>out o.dst (.t (.v (.int .u8 c.toNat)))
    |none=>.no) else .no
   |_,_=>.no
  |_=>.no
 |.extract x i=>match x with
  |.tmp t=>.rdX t i fun y=>out o.dst y
  |_=>.no
 |.makeFunc g first caps=>if first.isEmpty=true then evs caps.toList fun vs=>out o.dst (.fn g vs) else .no
 |.slice t x lo hi none=>ev x fun v=>ev (lo.getD (.const (.int .i64 0))) fun l=>
   match v with
   |.t (.v (.string s))=>ev (hi.getD (.const (.int .i64 s.size))) fun h=>match P.underlying t,l,h with
    |some .string,.t (.v (.int .i64 a)),.t (.v (.int .i64 b))=>if 0≤a∧a≤b∧b≤(s.size:Int) then out o.dst (.t (.v (.string (s.extract a.toNat b.toNat)))) else .no
    |_,_,_=>.no
   |.t (.sl f es)=>ev (hi.getD (.const (.int .i64 es.length))) fun h=>match l,h with
    |.t (.v (.int .i64 a)),.t (.v (.int .i64 b))=>if 0≤a∧a≤b∧b≤(es.length:Int)∧f≠.own∧(rowInfo P t).isSome=true∧(∀ e∈es,e.length=((rowInfo P t).getD []).length) then out o.dst (.t (.sl f ((es.take b.toNat).drop a.toNat))) else .no
    |_,_=>.no
   |.ref n p lo' hi'=>.rdB n fun bx=>match rowAt bx.cells p with
    |some (.sl .own es :: _)=>ev (hi.getD (.const (.int .i64 ((hi':Int)-lo')))) fun h=>match l,h with
     |.t (.v (.int .i64 a)),.t (.v (.int .i64 b))=>if 0≤a∧a≤b∧b≤(hi':Int)-lo'∧(rowInfo P t).isSome=true∧(∀ e∈es,e.length=((rowInfo P t).getD []).length) then out o.dst (.ref n p (lo'+a.toNat) (lo'+b.toNat)) else .no
     |_,_=>.no
    |_=>.no
   |_=>.no
 |.convert src dst x=>match P.underlying src,P.underlying dst with
  |some (.int _),some (.int k)=>ev x fun v=>match v with
   |.t (.v (.int _ n))=>out o.dst (.t (.v (.int k (k.wrap n))))
   |_=>.no
  |some .string,some .string=>ev x fun v=>match v with
   |.t (.v (.string s))=>out o.dst (.t (.v (.string s)))
   |_=>.no
  |some (.slice e),some .string=>match P.underlying e with
   |some (.int .u8)=>ev x fun v=>match v with
    |.t (.sl _ es)=>match bytesL es with
     |some bs=>out o.dst (.t (.v (.string ⟨bs.toArray⟩)))
     |none=>.no
    |.ref n p 0 hi=>.rdB n fun bx=>match rowAt bx.cells p with
     |some (.sl .own es :: _)=>match bytesL es with
      |some bs=>if hi=es.length then out o.dst (.t (.v (.string ⟨bs.toArray⟩))) else .no
      |none=>.no
     |_=>.no
    |_=>.no
   |_=>.no
  |_,_=>.no
 |.call c=>match c.callee,c.args.toList with
  |.builtin .len,[x]=>match (c.argTypes[0]?).bind P.underlying with
   |some .string=>ev x fun v=>match v with
    |.t (.v (.string s))=>out o.dst (.t (.v (.int .i64 s.size)))
    |_=>.no
   |some (.slice _)=>ev x fun v=>match v with
    |.t (.sl _ es)=>out o.dst (.t (.v (.int .i64 es.length)))
    |.ref _ _ lo hi=>out o.dst (.t (.v (.int .i64 ((hi-lo:Nat):Int))))
    |_=>.no
   |_=>.no
  |.builtin .max,[x,y]=>ev x fun v=>ev y fun u=>match v,u with
   |.t (.v (.int .i64 a)),.t (.v (.int .i64 b))=>out o.dst (.t (.v (.int .i64 (if b > a then b else a))))
   |_,_=>.no
  |.builtin .append,[x,y]=>appendM P c o.dst x y
  |.builtin .clear,[.tmp t0]=>clearM P c o.dst t0
  |_,_=>.no
 |_=>.no
def isCall (o:Oper):Bool:=match o.op with | .call c=>(match c.callee with | .value _=>true | _=>false) | _=>false
def guardOf (ops:Array Oper) (o:Oper):Option (Option Nat×Bool):=match o.guard with
 |none=>none
 |some (j,w)=>some ((ops[j]?).bind (·.dst),w)
inductive It where
 |c (c:Code)
 |blk (id:Nat)
 |lp (body:Code)
 |ops (all:Array Oper) (rest:List Oper)
inductive Tree where
 |ret (st:St)
 |susp (k:List It) (st:St)
 |bad
def exits (id:Nat):List It→Option (List It)
 |[]=>none
 |.blk i :: k=>if i=id then some k else exits id k
 |_ :: k=>exits id k
def St.know (st:St) (t:Nat) (b:Bool):St:=⟨fun u=>if u=t then .t (.v (.bool b)) else st.s u,st.b⟩
def ex (P:Program) (N:Nat):Nat→List It→St→Tree
 |0,_,_=>.bad
 |_+1,[],st=>.ret st
 |n+1,.blk _ :: k,st=>ex P N n k st
 |_+1,.lp x :: k,st=>.susp (.lp x :: k) st
 |n+1,.ops _ [] :: k,st=>ex P N n k st
 |n+1,.ops all (o :: rest) :: k,st=>
  match guardOf all o with
  |none=>if isCall o=true then .susp (.ops all (o :: rest) :: k) st else
   match (opM P o).run N st with
   |some (_,st')=>ex P N n (.ops all rest :: k) st'
   |none=>.bad
  |some (some d,w)=>match st.s d with
   |.t (.v (.bool r))=>if r=w then
     (if isCall o=true then .susp (.ops all (o :: rest) :: k) (st.know d w) else
      match (opM P o).run N (st.know d w) with
      |some (_,st')=>ex P N n (.ops all rest :: k) st'
      |none=>.bad)
    else
     (match (out o.dst .dead).run N (st.know d (!w)) with
      |some (_,st')=>ex P N n (.ops all rest :: k) st'
      |none=>.bad)
   |_=>.bad
  |some (none,_)=>.bad
 |n+1,.c (.skip) :: k,st=>ex P N n k st
 |_+1,.c (.ret) :: _,st=>.ret st
 |n+1,.c (.seq x y) :: k,st=>ex P N n (.c x :: .c y :: k) st
 |n+1,.c (.block i x) :: k,st=>ex P N n (.c x :: .blk i :: k) st
 |n+1,.c (.exit i) :: k,st=>match exits i k with | some k'=>ex P N n k' st | none=>.bad
 |n+1,.c (.cond c x y) :: k,st=>match c with
  |.tmp t=>match st.s t with
   |.t (.v (.bool b))=>if b=true then ex P N n (.c x :: k) (st.know t true) else ex P N n (.c y :: k) (st.know t false)
   |_=>.bad
  |_=>.bad
 |n+1,.c (.region _ ops false) :: k,st=>ex P N n (.ops ops ops.toList :: k) st
 |_+1,.c (.region i ops true) :: k,st=>.susp (.c (.region i ops true) :: k) st
 |_+1,.c (.loop x) :: k,st=>.susp (.c (.loop x) :: k) st
 |_+1,.c _ :: _,_=>.bad
end TM
namespace TM
open Go
inductive Root where
 |box (n:Nm)
 |held (j:Nat)
 deriving DecidableEq
abbrev Lab:=Root×List Nat
def Lab.add (l:Lab) (i:Nat):Lab:=(l.1,l.2++[i])
abbrev Labs:=Nat→Option Lab
def noLab:Labs:=fun _=>none
def maxCap:Nat:=9223372036854775807
def Fl.labs:Fl→Labs→Labs
 |.own,L=>L
 |_,_=>noLab
mutual
def RepC (Z:Fl→Nat→Prop) (w:World):Labs→Lab→T→Value→Prop
 |_,_,.v x,u=>u=x∧x.oneCell'=true
 |L,l,.sl f es,u=>∃ a cap,u=.slice a es.length cap∧es.length≤cap∧cap≤maxCap ∧
   ((es=[]∧(f=.own→cap=0)) ∨
    ∃ b off cs ty fr wd,a=some ⟨b,off,none⟩∧(0<wd∧(f=.own→es≠[]))∧w.heap[b]?=some (.cells cs ty fr)∧off+es.length * wd≤cs.size∧(∀ e∈es,e.length=wd) ∧
      (f=.own→L b=some l∧off=0∧fr=(0,0)∧cs.size=cap * wd)∧(f≠.own→Z f b) ∧
      RepLL Z w (f.labs L) l 0 es (cs.toList.drop off))
 |L,l,.pt f cs,u=>∃ b off vs ty fr,u=.pointer (some ⟨b,off,none⟩)∧w.heap[b]?=some (.cells vs ty fr) ∧
   (f=.own→L b=some l∧fr=(0,0)∧off=0∧vs.size=cs.length)∧(f≠.own→Z f b)∧RepL Z w (f.labs L) l 0 cs (vs.toList.drop off)
 |L,l,.fn g caps,u=>∃ vs,u=.func g #[] vs∧vs.size=caps.length∧RepL Z w L l 0 caps vs.toList
 |_,_,.hole,u=>u.oneCell'=true
def RepL (Z:Fl→Nat→Prop) (w:World):Labs→Lab→Nat→List T→List Value→Prop
 |_,_,_,[],_=>True
 |_,_,_,_ :: _,[]=>False
 |L,l,c,t :: ts,u :: us=>RepC Z w L (l.add c) t u∧RepL Z w L l (c+1) ts us
def RepLL (Z:Fl→Nat→Prop) (w:World):Labs→Lab→Nat→List (List T)→List Value→Prop
 |_,_,_,[],_=>True
 |L,l,i,e :: es,us=>RepL Z w L (l.add i) 0 e us∧RepLL Z w L l (i+1) es (us.drop e.length)
end
theorem add_under {L L':Labs} {l l':Lab} {p:Nat→Prop} (c:Nat) (h:∀ b r,L b=some (l.1,l.2++r)→L' b=some (l'.1,l'.2++r)∧p b) :
  ∀ b r,L b=some ((l.add c).1,(l.add c).2++r)→L' b=some ((l'.add c).1,(l'.add c).2++r)∧p b:=by
 intro b r hb
 have:=h b (c :: r) (by simpa [Lab.add] using hb)
 simpa [Lab.add] using this
theorem labs_under {L L':Labs} {l l':Lab} {p:Nat→Prop} (f:Fl) (h:∀ b r,L b=some (l.1,l.2++r)→L' b=some (l'.1,l'.2++r)∧p b) :
  ∀ b r,f.labs L b=some (l.1,l.2++r)→f.labs L' b=some (l'.1,l'.2++r)∧p b:=by
 intro b r hb
 cases f
 ·exact h b r hb
 ·simp [Fl.labs,noLab] at hb
 ·simp [Fl.labs,noLab] at hb
section
variable {Z Z':Fl→Nat→Prop} {w w':World}
mutual
theorem RepC.move (hZ:∀ f b,Z f b→Z' f b∧w'.heap[b]?=w.heap[b]?):∀ (t:T) {L L':Labs} {l l':Lab} {u:Value},
  (∀ b r,L b=some (l.1,l.2++r)→L' b=some (l'.1,l'.2++r)∧w'.heap[b]?=w.heap[b]?)→RepC Z w L l t u→RepC Z' w' L' l' t u
 |.v x,_,_,_,_,_,_,h=>by rw[RepC] at *;exact h
 |.hole,_,_,_,_,_,_,h=>by rw[RepC] at *;exact h
 |.sl f es,L,L',l,l',u,hL,h=>by
  rw[RepC] at *
  obtain ⟨a,cap,hu,h1,h2,h3⟩:=h
  refine ⟨a,cap,hu,h1,h2,?_⟩
  rcases h3 with h3 | ⟨b,off,cs,ty,fr,wd,ha,hwd,hh,hsz,hes,ho,hz,hr⟩
  ·exact .inl h3
  ·refine .inr ⟨b,off,cs,ty,fr,wd,ha,hwd,?_,hsz,hes,?_,fun hf=>(hZ f b (hz hf)).1,?_⟩
   ·by_cases hf:f=.own
    ·exact (hL b [] (by simpa using (ho hf).1)).2.trans hh
    ·exact (hZ f b (hz hf)).2.trans hh
   ·intro hf
    obtain ⟨h4,h5⟩:=ho hf
    exact ⟨by simpa using (hL b [] (by simpa using h4)).1,h5⟩
   ·exact RepLL.move hZ es (labs_under f hL) hr
 |.pt f cs,L,L',l,l',u,hL,h=>by
  rw[RepC] at *
  obtain ⟨b,off,vs,ty,fr,hu,hh,ho,hz,hr⟩:=h
  refine ⟨b,off,vs,ty,fr,hu,?_,?_,fun hf=>(hZ f b (hz hf)).1,RepL.move hZ cs (labs_under f hL) hr⟩
  ·by_cases hf:f=.own
   ·exact (hL b [] (by simpa using (ho hf).1)).2.trans hh
   ·exact (hZ f b (hz hf)).2.trans hh
  ·intro hf
   obtain ⟨h4,h5⟩:=ho hf
   exact ⟨by simpa using (hL b [] (by simpa using h4)).1,h5⟩
 |.fn g caps,L,L',l,l',u,hL,h=>by
  rw[RepC] at *
  obtain ⟨vs,hu,hs,hr⟩:=h
  exact ⟨vs,hu,hs,RepL.move hZ caps hL hr⟩
theorem RepL.move (hZ:∀ f b,Z f b→Z' f b∧w'.heap[b]?=w.heap[b]?):∀ (ts:List T) {L L':Labs} {l l':Lab} {c:Nat} {us:List Value},
  (∀ b r,L b=some (l.1,l.2++r)→L' b=some (l'.1,l'.2++r)∧w'.heap[b]?=w.heap[b]?)→RepL Z w L l c ts us→RepL Z' w' L' l' c ts us
 |[],_,_,_,_,_,_,_,_=>by rw[RepL];trivial
 |t :: ts,L,L',l,l',c,[],hL,h=>by rw[RepL] at h;exact h.elim
 |t :: ts,L,L',l,l',c,u :: us,hL,h=>by
  rw[RepL] at *
  exact ⟨RepC.move hZ t (add_under c hL) h.1,RepL.move hZ ts hL h.2⟩
theorem RepLL.move (hZ:∀ f b,Z f b→Z' f b∧w'.heap[b]?=w.heap[b]?):∀ (es:List (List T)) {L L':Labs} {l l':Lab} {i:Nat} {us:List Value},
  (∀ b r,L b=some (l.1,l.2++r)→L' b=some (l'.1,l'.2++r)∧w'.heap[b]?=w.heap[b]?)→RepLL Z w L l i es us→RepLL Z' w' L' l' i es us
 |[],_,_,_,_,_,_,_,_=>by rw[RepLL];trivial
 |e :: es,L,L',l,l',i,us,hL,h=>by
  rw[RepLL] at *
  exact ⟨RepL.move hZ e (add_under i hL) h.1,RepLL.move hZ es hL h.2⟩
end
end
theorem RepC.one {Z:Fl→Nat→Prop} {w:World} {L:Labs} {l:Lab} {t:T} {u:Value} (h:RepC Z w L l t u):u.oneCell'=true:=by
 cases t with
 |v x=>rw[RepC] at h;rw[h.1];exact h.2
 |hole=>rw[RepC] at h;exact h
 |sl f es=>rw[RepC] at h;obtain ⟨a,cap,rfl,_⟩:=h;rfl
 |pt f cs=>rw[RepC] at h;obtain ⟨b,off,vs,ty,fr,rfl,_⟩:=h;rfl
 |fn g caps=>rw[RepC] at h;obtain ⟨vs,rfl,_⟩:=h;rfl
section
variable {Z:Fl→Nat→Prop} {w:World} {L:Labs}
theorem RepL.length {l:Lab}:∀ {ts:List T} {c:Nat} {us:List Value},RepL Z w L l c ts us→ts.length≤us.length
 |[],_,_,_=>by simp
 |t :: ts,c,[],h=>by rw[RepL] at h;exact h.elim
 |t :: ts,c,u :: us,h=>by
  rw[RepL] at h
  have:=RepL.length h.2
  simp;omega
theorem RepL.get {l:Lab}:∀ {ts:List T} {c:Nat} {us:List Value},RepL Z w L l c ts us→∀ i t,ts[i]?=some t→∃ u,us[i]?=some u∧RepC Z w L (l.add (c+i)) t u
 |[],_,_,_,i,t,h=>by simp at h
 |t :: ts,c,[],h,_,_,_=>by rw[RepL] at h;exact h.elim
 |t :: ts,c,u :: us,h,i,t',hi=>by
  rw[RepL] at h
  cases i with
  |zero=>simp at hi;subst hi;exact ⟨u,by simp,by simpa using h.1⟩
  |succ i=>
   obtain ⟨u',h1,h2⟩:=RepL.get h.2 i t' (by simpa using hi)
   exact ⟨u',by simpa using h1,by rw[show c+(i+1)=c+1+i by omega];exact h2⟩
theorem RepL.of_get {l:Lab}:∀ {ts:List T} {c:Nat} {us:List Value},(∀ i t,ts[i]?=some t→∃ u,us[i]?=some u∧RepC Z w L (l.add (c+i)) t u)→RepL Z w L l c ts us
 |[],_,_,_=>by rw[RepL];trivial
 |t :: ts,c,[],h=>by
  obtain ⟨u,hu,_⟩:=h 0 t (by simp)
  simp at hu
 |t :: ts,c,u :: us,h=>by
  rw[RepL]
  refine ⟨?_,RepL.of_get fun i t' hi=>?_⟩
  ·obtain ⟨u',h1,h2⟩:=h 0 t (by simp)
   simp at h1;subst h1;simpa using h2
  ·obtain ⟨u',h1,h2⟩:=h (i+1) t' (by simpa using hi)
   exact ⟨u',by simpa using h1,by rw[show c+1+i=c+(i+1) by omega];exact h2⟩
theorem RepL.drop {l:Lab} {ts:List T} {c:Nat} {us:List Value} (h:RepL Z w L l c ts us) (k:Nat):RepL Z w L l (c+k) (ts.drop k) (us.drop k):=
 RepL.of_get fun i t hi=>by
  obtain ⟨u,h1,h2⟩:=h.get (k+i) t (by simpa using hi)
  exact ⟨u,by simpa using h1,by rw[Nat.add_assoc];exact h2⟩
theorem RepL.take {l:Lab} {ts:List T} {c:Nat} {us:List Value} (h:RepL Z w L l c ts us) (k:Nat):RepL Z w L l c (ts.take k) (us.take k):=
 RepL.of_get fun i t hi=>by
  rw[List.getElem?_take] at hi
  split at hi
  ·rename_i hk
   obtain ⟨u,h1,h2⟩:=h.get i t hi
   exact ⟨u,by rw[List.getElem?_take,if_pos hk];exact h1,h2⟩
  ·cases hi
theorem RepL.more {l:Lab} {ts:List T} {c:Nat} {us us':List Value} (h:RepL Z w L l c ts us) (hu:∀ i,i<ts.length→us'[i]?=us[i]?):RepL Z w L l c ts us':=
 RepL.of_get fun i t hi=>by
  obtain ⟨u,h1,h2⟩:=h.get i t hi
  have hlt:i<ts.length:=by
   rcases Nat.lt_or_ge i ts.length with h | h
   ·exact h
   ·rw[List.getElem?_eq_none h] at hi;cases hi
  exact ⟨u,(hu i hlt).trans h1,h2⟩
theorem RepLL.get {l:Lab} {wd:Nat}:∀ {es:List (List T)} {i:Nat} {us:List Value},(∀ e∈es,e.length=wd)→RepLL Z w L l i es us →
  ∀ j e,es[j]?=some e→RepL Z w L (l.add (i+j)) 0 e (us.drop (j * wd))
 |[],_,_,_,_,j,e,h=>by simp at h
 |e :: es,i,us,hw,h,j,e',hj=>by
  rw[RepLL] at h
  cases j with
  |zero=>simp at hj;subst hj;simpa using h.1
  |succ j=>
   have:=RepLL.get (fun x hx=>hw x (by simp [hx])) h.2 j e' (by simpa using hj)
   rw[show i+(j+1)=i+1+j by omega]
   rw[hw e (by simp),List.drop_drop] at this
   rw[show (j+1) * wd=wd+j * wd by rw[Nat.add_mul];omega]
   exact this
theorem RepLL.of_get {l:Lab} {wd:Nat}:∀ {es:List (List T)} {i:Nat} {us:List Value},(∀ e∈es,e.length=wd) →
  (∀ j e,es[j]?=some e→RepL Z w L (l.add (i+j)) 0 e (us.drop (j * wd)))→RepLL Z w L l i es us
 |[],_,_,_,_=>by rw[RepLL];trivial
 |e :: es,i,us,hw,h=>by
  rw[RepLL]
  refine ⟨by simpa using h 0 e (by simp),RepLL.of_get (wd:=wd) (fun x hx=>hw x (by simp [hx])) fun j e' hj=>?_⟩
  have:=h (j+1) e' (by simpa using hj)
  rw[hw e (by simp),List.drop_drop]
  rw[show i+1+j=i+(j+1) by omega,show wd+j * wd=(j+1) * wd by rw[Nat.add_mul];omega]
  exact this
end
end TM
namespace TM
open Go
def loc (w:World):List T→List Value→Option Nat→Nat→List Nat→Option (List Value×Option Nat×Nat)
 |_,_,_,_,[]=>none
 |_,us,blk,off,[c]=>some (us.drop c,blk,off+c)
 |cs,us,_,_,c :: i :: rest=>match cs.drop c,us.drop c with
  |.sl .own es :: _,.slice (some ⟨b,0,none⟩) _ _ :: _=>match es[i]?,w.heap[b]? with
   |some e,some (.cells vs _ _)=>loc w e (vs.toList.drop (i * e.length)) (some b) (i * e.length) rest
   |_,_=>none
  |_,_=>none
theorem drop_head {α:Type} {l:List α} {c:Nat} {x:α} {r:List α} (h:l.drop c=x :: r):l[c]?=some x:=by
 have:=congrArg (fun m=>m[0]?) h
 simpa using this
theorem head_drop {α:Type} {l:List α} {c:Nat} {x:α} (h:l[c]?=some x):l.drop c=x :: l.drop (c+1):=by
 obtain ⟨hlt,hx⟩:=List.getElem?_eq_some_iff.1 h
 rw[← hx]
 exact List.drop_eq_getElem_cons hlt
def pathLab (l:Lab):List Nat→Lab
 |[]=>l
 |[_]=>l
 |[c,_]=>l.add c
 |c :: i :: d :: rest=>pathLab ((l.add c).add i) (d :: rest)
def lastOf:List Nat→Nat
 |[]=>0
 |[c]=>c
 |_ :: i :: rest=>lastOf (i :: rest)
section
variable {Z:Fl→Nat→Prop} {w:World}
def EndOf (L:Labs) (w:World) (l:Lab) (blk:Option Nat):List Nat→Option Nat→Prop
 |[],_=>False
 |[_],b=>b=blk
 |c :: i :: rest,b=>∃ b0,L b0=some (l.add c)∧(∃ vs ty,w.heap[b0]?=some (.cells vs ty (0,0)))∧EndOf L w ((l.add c).add i) (some b0) rest b
theorem loc_of_rowAt {L:Labs}:∀ (p:List Nat) {l:Lab} {cs:List T} {us:List Value} {blk:Option Nat} {off:Nat} {row:List T},
  RepL Z w L l 0 cs us→rowAt cs p=some row→(∀ b,blk=some b→∃ vs ty,w.heap[b]?=some (.cells vs ty (0,0))∧us=vs.toList.drop off) →
  ∃ urow blk' off',loc w cs us blk off p=some (urow,blk',off')∧RepL Z w L (pathLab l p) (lastOf p) row urow∧EndOf L w l blk p blk' ∧
    (∀ b,blk'=some b→∃ vs ty,w.heap[b]?=some (.cells vs ty (0,0))∧urow=vs.toList.drop off')
 |[],_,_,_,_,_,_,_,h,_=>by simp [rowAt] at h
 |[c],l,cs,us,blk,off,row,hr,h,hb=>by
  simp only[rowAt,Option.some.injEq] at h
  subst h
  refine ⟨us.drop c,blk,off+c,rfl,?_,rfl,?_⟩
  ·have:=hr.drop c
   rw[Nat.zero_add] at this
   exact this
  ·intro b hbb
   obtain ⟨vs,ty,h1,h2⟩:=hb b hbb
   exact ⟨vs,ty,h1,by rw[h2,List.drop_drop]⟩
 |c :: i :: rest,l,cs,us,blk,off,row,hr,h,hb=>by
  simp only[rowAt] at h
  split at h
  ·rename_i es r hdr
   split at h
   ·rename_i e he
    have hc:=drop_head hdr
    obtain ⟨u,hu,hrep⟩:=hr.get c _ hc
    rw[Nat.zero_add] at hrep
    rw[RepC] at hrep
    obtain ⟨a,cap,rfl,h1,h2,h3⟩:=hrep
    rcases h3 with ⟨hnil,_⟩ | ⟨b,off',vs,ty,fr,wd,ha,hwd,hh,hsz,hes,ho,hz,hrl⟩
    ·subst hnil;simp at he
    ·obtain ⟨hL,rfl,rfl,hcap⟩:=ho rfl
     subst ha
     have hel:e.length=wd:=hes e (List.mem_of_getElem? he)
     have hrow:=RepLL.get hes hrl i e he
     simp only[List.drop_zero,Nat.zero_add] at hrow
     rw[← hel] at hrow
     have hrow':RepL Z w L ((l.add c).add i) 0 e (vs.toList.drop (i * e.length)):=hrow
     obtain ⟨urow,blk2,off2,k1,k2,k3,k4⟩:=loc_of_rowAt rest (blk:=some b) (off:=i * e.length) hrow' h (by
      intro b' hb';cases hb';exact ⟨vs,ty,hh,rfl⟩)
     refine ⟨urow,blk2,off2,?_,?_,⟨b,hL,⟨vs,ty,hh⟩,k3⟩,k4⟩
     ·simp only[loc,hdr,head_drop hu,he,hh]
      exact k1
     ·cases rest with
      |nil=>simp [rowAt] at h
      |cons d r=>exact k2
   ·cases h
  ·cases h
theorem loc_lab {L:Labs}:∀ (p:List Nat) {l:Lab} {cs:List T} {us urow:List Value} {blk bt:Option Nat} {off ot:Nat},
  RepL Z w L l 0 cs us→loc w cs us blk off p=some (urow,bt,ot)→2≤p.length→∃ b q,bt=some b∧L b=some (l.1,l.2++q)∧q <+: p∧q≠[]∧q.length<p.length
 |[],_,_,_,_,_,_,_,_,_,h,_=>by simp [loc] at h
 |[_],_,_,_,_,_,_,_,_,_,_,h=>by simp at h
 |c :: i :: rest,l,cs,us,urow,blk,bt,off,ot,hr,h,_=>by
  simp only[loc] at h
  split at h
  ·rename_i es r b len cap r' hdr hdu
   split at h
   ·rename_i e vs ty fr he hh
    have hc:=drop_head hdr
    obtain ⟨u,hu,hrep⟩:=hr.get c _ hc
    rw[Nat.zero_add] at hrep
    rw[drop_head hdu] at hu
    cases hu
    rw[RepC] at hrep
    obtain ⟨a,cap',hsl,h1,h2,h3⟩:=hrep
    cases hsl
    rcases h3 with ⟨hnil,_⟩ | ⟨b',off',vs',ty',fr',wd,ha,hwd,hh',hsz,hes,ho,hz,hrl⟩
    ·subst hnil;simp at he
    ·cases ha
     obtain ⟨hL,_,hfr,hcap⟩:=ho rfl
     match rest,h with
     |[],h=>simp [loc] at h
     |[d],h=>
      simp only[loc,Option.some.injEq,Prod.mk.injEq] at h
      exact ⟨b,[c],h.2.1.symm,hL,⟨i :: [d],rfl⟩,by simp,by simp⟩
     |d :: x :: r2,h=>
      rw[hh] at hh';cases hh'
      have hrow:=RepLL.get hes hrl i e he
      simp only[List.drop_zero,Nat.zero_add] at hrow
      rw[← hes e (List.mem_of_getElem? he)] at hrow
      have hrow':RepL Z w L ((l.add c).add i) 0 e (vs.toList.drop (i * e.length)):=hrow
      obtain ⟨b2,q,k1,k2,k3,k4,k5⟩:=loc_lab (d :: x :: r2) hrow' h (by simp)
      refine ⟨b2,c :: i :: q,k1,by simpa [Lab.add] using k2,?_,by simp,by simpa using k5⟩
      exact List.cons_prefix_cons.2 ⟨rfl,List.cons_prefix_cons.2 ⟨rfl,k3⟩⟩
   ·cases h
  ·cases h
theorem setAt_length:∀ (p:List Nat) {cs cs':List T} {x:T},setAt cs p x=some cs'→cs'.length=cs.length
 |[],_,_,_,h=>by simp [setAt] at h
 |[c],cs,cs',x,h=>by
  simp only[setAt] at h
  split at h
  ·cases h;simp
  ·cases h
 |c :: i :: rest,cs,cs',x,h=>by
  simp only[setAt] at h
  split at h
  ·split at h
   ·split at h
    ·cases h;simp
    ·cases h
   ·cases h
  ·cases h
theorem setAt_lt {cs cs':List T} {c:Nat} {x:T} (h:setAt cs [c] x=some cs'):c<cs.length∧cs'=cs.set c x:=by
 simp only[setAt] at h
 split at h
 ·rename_i hc;exact ⟨hc,(Option.some.inj h).symm⟩
 ·cases h
theorem lab_ne_len {l:Lab} {q r:List Nat} (h:(l.1,l.2++q)=(l.1,l.2++r)):q=r:=by
 have:=congrArg Prod.snd h
 exact List.append_cancel_left this
variable {w':World} {Z':Fl→Nat→Prop}
theorem RepL.store {L L':Labs} {x:T} {u':Value} (hZ:∀ f b,Z f b→Z' f b∧w'.heap[b]?=w.heap[b]?) (bt:Option Nat) (ot:Nat)
  (hw:∀ b,bt≠some b→w'.heap[b]?=w.heap[b]?)
  (hbt:∀ b,bt=some b→∃ vs ty,w.heap[b]?=some (.cells vs ty (0,0))∧w'.heap[b]?=some (.cells (vs.setIfInBounds ot u') ty (0,0))) :
  ∀ (p:List Nat) {l:Lab} {cs cs':List T} {us urow:List Value} {blk:Option Nat} {off:Nat},
  RepL Z w L l 0 cs us→setAt cs p x=some cs'→loc w cs us blk off p=some (urow,bt,ot) →
  (∀ b,blk=some b→∃ k,k≤l.2.length∧L b=some (l.1,l.2.take k)) →
  (∀ b q,L b=some (l.1,l.2++q)→¬ p <+: q→L' b=some (l.1,l.2++q)) →
  RepC Z' w' L' (l.1,l.2++p) x u' →
  RepL Z' w' L' l 0 cs' (if p.length=1 then us.set (lastOf p) u' else us)
 |[],_,_,_,_,_,_,_,_,hs,_,_,_,_=>by simp [setAt] at hs
 |[c],l,cs,cs',us,urow,blk,off,hr,hs,hl,hb,hL,hx=>by
  obtain ⟨hc,rfl⟩:=setAt_lt hs
  simp only[loc,Option.some.injEq,Prod.mk.injEq] at hl
  obtain ⟨_,rfl,rfl⟩:=hl
  simp only[List.length_cons,List.length_nil,Nat.zero_add,if_true,lastOf]
  refine RepL.of_get fun i t hi=>?_
  rw[Nat.zero_add]
  rw[List.getElem?_set] at hi
  split at hi
  ·rename_i hci
   subst hci
   cases hi
   exact ⟨u',by rw[List.getElem?_set,if_pos rfl,if_pos (Nat.lt_of_lt_of_le hc hr.length)],hx⟩
  ·rename_i hci
   obtain ⟨u,hu,hrep⟩:=hr.get i t hi
   rw[Nat.zero_add] at hrep
   refine ⟨u,by rw[List.getElem?_set,if_neg hci];exact hu,RepC.move hZ t (fun b r hbr=>?_) hrep⟩
   have hbr':L b=some (l.1,l.2++(i :: r)):=by simpa [Lab.add] using hbr
   refine ⟨by simpa [Lab.add] using hL b (i :: r) hbr' (fun h=>hci (List.cons_prefix_cons.1 h).1),hw b fun e=>?_⟩
   obtain ⟨k,hk,hk2⟩:=hb b e
   rw[hbr'] at hk2
   have:=congrArg (fun o:Option Lab=>(o.map (·.2.length))) hk2
   simp at this
   omega
 |c :: i :: rest,l,cs,cs',us,urow,blk,off,hr,hs,hl,hb,hL,hx=>by
  have hlab:=loc_lab _ hr hl (by simp)
  simp only[setAt] at hs
  split at hs
  ·rename_i es r hdr
   split at hs
   ·rename_i e he
    split at hs
    ·rename_i e' he'
     cases hs
     simp only[loc,hdr] at hl
     have hc:=drop_head hdr
     obtain ⟨u,hu,hrep⟩:=hr.get c _ hc
     rw[Nat.zero_add] at hrep
     rw[head_drop hu] at hl
     have hrep0:=hrep
     rw[RepC] at hrep
     obtain ⟨a,cap,rfl,h1,h2,h3⟩:=hrep
     rcases h3 with ⟨hnil,_⟩ | ⟨b,off',vs,ty,fr,wd,ha,hwd,hh,hsz,hes,ho,hz,hrl⟩
     ·subst hnil;simp at he
     subst ha
     obtain ⟨hLb,rfl,rfl,hcap⟩:=ho rfl
     simp only[he,hh] at hl
     have hel:e.length=wd:=hes e (List.mem_of_getElem? he)
     have hrow:=RepLL.get hes hrl i e he
     simp only[List.drop_zero,Nat.zero_add] at hrow
     have hrow':RepL Z w L ((l.add c).add i) 0 e (vs.toList.drop (i * e.length)):=by rw[hel];exact hrow
     have hilt:i<es.length:=(List.getElem?_eq_some_iff.1 he).1
     have hclt:c<cs.length:=(List.getElem?_eq_some_iff.1 hc).1
     have hne:(c :: i :: rest).length≠1:=by simp
     rw[if_neg hne]
     have hrec:=RepL.store hZ bt ot hw hbt rest (l:=(l.add c).add i) (L':=L') hrow' he' hl
      (fun b' hb'=>by
       cases hb'
       refine ⟨l.2.length+1,by simp [Lab.add],?_⟩
       rw[hLb]
       simp [Lab.add,List.take_append,List.take_of_length_le])
      (fun b' q hq hnp=>by
       have:=hL b' (c :: i :: q) (by simpa [Lab.add] using hq) (fun h=>hnp (List.cons_prefix_cons.1 (List.cons_prefix_cons.1 h).2).2)
       simpa [Lab.add] using this)
      (by simpa [Lab.add] using hx)
     obtain ⟨vs',hh',hsz',hsame,hat⟩:∃ vs',w'.heap[b]?=some (.cells vs' ty (0,0))∧vs'.size=vs.size ∧
       (∀ j t,j≠i→t<wd→vs'.toList[j * wd+t]?=vs.toList[j * wd+t]?) ∧
       vs'.toList.drop (i * wd)=(if rest.length=1 then (vs.toList.drop (i * wd)).set (lastOf rest) u' else vs.toList.drop (i * wd)):=by
      by_cases hlen:rest.length=1
      ·match rest,hlen with
       |[d],_=>
        simp only[loc,Option.some.injEq,Prod.mk.injEq] at hl
        obtain ⟨_,hbt2,rfl⟩:=hl
        obtain ⟨vs2,ty2,k1,k2⟩:=hbt b hbt2.symm
        rw[hh] at k1
        cases k1
        obtain ⟨hd,_⟩:=setAt_lt he'
        refine ⟨_,k2,by simp,fun j t hj ht=>?_,?_⟩
        ·rw[Array.toList_setIfInBounds,List.getElem?_set_ne]
         intro e2
         rw[hel] at e2
         rcases Nat.lt_or_gt_of_ne hj with h | h
         ·have:(j+1) * wd≤i * wd:=Nat.mul_le_mul_right _ h
          rw[Nat.add_mul] at this;omega
         ·have:(i+1) * wd≤j * wd:=Nat.mul_le_mul_right _ h
          rw[Nat.add_mul] at this;omega
        ·rw[Array.toList_setIfInBounds,List.drop_set,hel]
         rw[if_neg (by omega),show i * wd+d-i * wd=d by omega]
         simp [lastOf]
      ·refine ⟨vs,?_,rfl,fun _ _ _ _=>rfl,by rw[if_neg hlen]⟩
       rw[hw b,hh]
       intro e2
       have hr2:2≤rest.length:=by
        match rest,hlen with
        |[],_=>simp [setAt] at he'
        |[_],h=>simp at h
        |_ :: _ :: _,_=>simp
       obtain ⟨b2,q,k1,k2,k3,k4,k5⟩:=loc_lab rest hrow' hl hr2
       rw[e2] at k1
       cases k1
       rw[hLb] at k2
       have:=congrArg (fun o:Option Lab=>(o.map (·.2.length))) k2
       simp [Lab.add] at this
     have hwds:∀ x∈es.set i e',x.length=wd:=by
      intro x hx
      rcases List.mem_or_eq_of_mem_set hx with h | h
      ·exact hes x h
      ·rw[h,setAt_length _ he',hel]
     refine RepL.of_get fun j t hj=>?_
     rw[Nat.zero_add]
     rw[List.getElem?_set] at hj
     split at hj
     ·rename_i hcj
      subst hcj
      cases hj
      refine ⟨_,hu,?_⟩
      rw[RepC]
      refine ⟨some ⟨b,0,none⟩,cap,by simp,by simpa using h1,h2,.inr ⟨b,0,vs',ty,(0,0),wd,rfl,⟨hwd.1,fun _ h=>by rw[List.set_eq_nil_iff] at h;exact hwd.2 rfl h⟩,hh',by simpa [hsz'] using hsz,hwds,fun _=>⟨?_,rfl,rfl,by rw[hsz'];exact hcap⟩,fun h=>absurd rfl h,?_⟩⟩
      ·have:=hL b [c] (by simpa [Lab.add] using hLb) (fun h=>by
        have:=h.length_le
        simp at this)
       simpa [Lab.add] using this
      ·refine RepLL.of_get (wd:=wd) hwds fun j e2 hj2=>?_
       rw[Nat.zero_add,List.drop_zero]
       rw[List.getElem?_set] at hj2
       split at hj2
       ·rename_i hij
        subst hij
        cases hj2
        rw[hat]
        rw[hel] at hrec
        exact hrec
       ·rename_i hij
        have hej:=RepLL.get hes hrl j e2 hj2
        simp only[List.drop_zero,Nat.zero_add] at hej
        have hej':RepL Z w L ((l.add c).add j) 0 e2 (vs.toList.drop (j * wd)):=hej
        have hl2:e2.length=wd:=hes e2 (List.mem_of_getElem? hj2)
        have hej2:RepL Z w L ((l.add c).add j) 0 e2 (vs'.toList.drop (j * wd)):=hej'.more fun t ht=>by
         rw[List.getElem?_drop,List.getElem?_drop]
         exact hsame j t (Ne.symm hij) (by omega)
        show RepL Z' w' L' ((l.add c).add j) 0 e2 (vs'.toList.drop (j * wd))
        refine RepL.move hZ e2 (fun b2 r2 hb2=>?_) hej2
        have hb2':L b2=some (l.1,l.2++(c :: j :: r2)):=by simpa [Lab.add] using hb2
        refine ⟨by simpa [Lab.add] using hL b2 (c :: j :: r2) hb2' (fun h=>hij (List.cons_prefix_cons.1 (List.cons_prefix_cons.1 h).2).1),hw b2 fun e3=>?_⟩
        obtain ⟨b3,q,k1,k2,k3,k4,k5⟩:=hlab
        rw[e3] at k1
        cases k1
        rw[hb2'] at k2
        have hq:=lab_ne_len (Option.some.inj k2)
        subst hq
        exact hij (List.cons_prefix_cons.1 (List.cons_prefix_cons.1 k3).2).1.symm
     ·rename_i hcj
      obtain ⟨u2,hu2,hrep2⟩:=hr.get j t hj
      rw[Nat.zero_add] at hrep2
      refine ⟨u2,hu2,RepC.move hZ t (fun b2 r2 hb2=>?_) hrep2⟩
      have hb2':L b2=some (l.1,l.2++(j :: r2)):=by simpa [Lab.add] using hb2
      refine ⟨by simpa [Lab.add] using hL b2 (j :: r2) hb2' (fun h=>hcj (List.cons_prefix_cons.1 h).1),hw b2 fun e3=>?_⟩
      obtain ⟨b3,q,k1,k2,k3,k4,k5⟩:=hlab
      rw[e3] at k1
      cases k1
      rw[hb2'] at k2
      have hq:=lab_ne_len (Option.some.inj k2)
      subst hq
      exact hcj (List.cons_prefix_cons.1 k3).1.symm
    ·cases hs
   ·cases hs
  ·cases hs
def hdOf:List Nat→List Nat
 |[]=>[]
 |[_]=>[]
 |[c,_]=>[c]
 |[c,_,_]=>[c]
 |c :: i :: d :: e :: r=>c :: i :: hdOf (d :: e :: r)
def offOf:List T→Nat→List Nat→Nat
 |_,_,[]=>0
 |_,off,[c]=>off+c
 |cs,_,c :: i :: rest=>match cs.drop c with
  |.sl .own es :: _=>match es[i]? with
   |some e=>offOf e (i * e.length) rest
   |none=>0
  |_=>0
theorem loc_addr {L:Labs}:∀ (p:List Nat) {l:Lab} {cs:List T} {us urow:List Value} {blk bt:Option Nat} {off ot:Nat},
  RepL Z w L l 0 cs us→loc w cs us blk off p=some (urow,bt,ot)→ot=offOf cs off p∧(p.length=1→bt=blk)∧(p.length≠1→∃ b,bt=some b∧L b=some (l.1,l.2++hdOf p))
 |[],_,_,_,_,_,_,_,_,_,h=>by simp [loc] at h
 |[c],_,_,_,_,_,_,_,_,_,h=>by
  simp only[loc,Option.some.injEq,Prod.mk.injEq] at h
  obtain ⟨_,rfl,rfl⟩:=h
  exact ⟨rfl,fun _=>rfl,fun h=>by simp at h⟩
 |c :: i :: rest,l,cs,us,urow,blk,bt,off,ot,hr,h=>by
  simp only[loc] at h
  split at h
  ·rename_i es r b len cap r' hdr hdu
   split at h
   ·rename_i e vs ty fr he hh
    have hc:=drop_head hdr
    obtain ⟨u,hu,hrep⟩:=hr.get c _ hc
    rw[Nat.zero_add] at hrep
    rw[drop_head hdu] at hu
    cases hu
    rw[RepC] at hrep
    obtain ⟨a,cap',hsl,h1,h2,h3⟩:=hrep
    cases hsl
    rcases h3 with ⟨hnil,_⟩ | ⟨b',off',vs',ty',fr',wd,ha,hwd,hh',hsz,hes,ho,hz,hrl⟩
    ·subst hnil;simp at he
    ·cases ha
     obtain ⟨hL,_,hfr,hcap⟩:=ho rfl
     rw[hh] at hh';cases hh'
     have hrow:=RepLL.get hes hrl i e he
     simp only[List.drop_zero,Nat.zero_add] at hrow
     rw[← hes e (List.mem_of_getElem? he)] at hrow
     have hrow':RepL Z w L ((l.add c).add i) 0 e (vs.toList.drop (i * e.length)):=hrow
     obtain ⟨k1,k2,k3⟩:=loc_addr rest hrow' h
     refine ⟨by simp only[offOf,hdr,he];exact k1,fun h=>by simp at h,fun _=>?_⟩
     match rest,k2,k3,h with
     |[],_,_,h=>simp [loc] at h
     |[d],k2,_,_=>exact ⟨b,k2 rfl,by simpa [hdOf,Lab.add] using hL⟩
     |d :: x :: r2,_,k3,_=>
      obtain ⟨b2,k4,k5⟩:=k3 (by simp)
      exact ⟨b2,k4,by simpa [hdOf,Lab.add] using k5⟩
   ·cases h
  ·cases h
end
end TM
namespace TM
open Go
structure Ctx where
 P:Program
 w0:World
 Zf:Nat→Prop
 Zn:Nat→Prop
 F0:Nat→Prop
 N:Nat
 blk0:Nat→Nat
 real0:Nat→Bool
 vals0:Nat→List Value
def Zof (Zf Zn:Nat→Prop):Fl→Nat→Prop
 |.own,_=>False
 |.nw,b=>Zn b
 |.fz,b=>Zf b∨Zn b
structure Gh where
 L:Labs
 Zn:Nat→Prop
 blk:Nm→Nat
 vals:Nm→List Value
abbrev Ctx.Z (C:Ctx) (G:Gh):Fl→Nat→Prop:=Zof C.Zf G.Zn
def noWhere:Lab:=(.held 0,[])
def Gh.at (G:Gh) (b:Nm→Box) (n:Nm):Option Nat:=if (b n).real=true then some (G.blk n) else none
def shift (a:Option Addr) (lo:Nat) (es:List (List T)):Option Addr:=match es with
 |[]=>a
 |e :: _=>a.map (·.add (lo * e.length))
def Hdr (L:Labs) (w:World) (l:Lab) (es:List (List T)) (a:Option Addr) (cap:Nat):Prop:=
 es.length≤cap∧cap≤maxCap∧((es=[]∧cap=0)∨∃ b cs ty wd,a=some ⟨b,0,none⟩∧(0<wd∧es≠[])∧L b=some l∧w.heap[b]?=some (.cells cs ty (0,0))∧cs.size=cap * wd∧(∀ e∈es,e.length=wd))
mutual
def RepV (C:Ctx) (G:Gh) (w:World) (bx:Nm→Box):LV→Value→Prop
 |.t x,u=>RepC (C.Z G) w noLab noWhere x u
 |.ref n p lo hi,u=>∃ es r a cap,rowAt (bx n).cells p=some (.sl .own es :: r)∧lo≤hi∧hi≤es.length∧Hdr G.L w (.box n,p) es a cap∧∃ a',u=.slice a' (hi-lo) (cap-lo)∧(lo<hi∨lo=0→a'=shift a lo es)
 |.addr n p,u=>∃ b row,u=.pointer (some ⟨b,offOf (bx n).cells 0 p,none⟩)∧rowAt (bx n).cells p=some row∧G.L b=some (.box n,hdOf p)∧(p.length=1→(bx n).real=true)
 |.raddr cs,u=>∃ f b off vs ty fr,u=.pointer (some ⟨b,off,none⟩)∧w.heap[b]?=some (.cells vs ty fr)∧C.Z G f b∧RepL (C.Z G) w noLab noWhere 0 cs (vs.toList.drop off)
 |.agg xs,u=>∃ us,u=.agg us∧RepVs C G w bx xs us.toList
 |.tup xs,u=>∃ us,u=.tuple us∧RepVs C G w bx xs us.toList
 |.fn g xs,u=>∃ us,u=.func g #[] us∧RepVs C G w bx xs us.toList
 |.va xs,u=>∃ b off vs ty fr,u=.pointer (some ⟨b,off,none⟩)∧w.heap[b]?=some (.cells vs ty fr)∧C.Z G .nw b∧RepVs C G w bx xs (vs.toList.drop off)
 |.dead,_=>True
def RepVs (C:Ctx) (G:Gh) (w:World) (bx:Nm→Box):List LV→List Value→Prop
 |[],us=>us=[]
 |_ :: _,[]=>False
 |x :: xs,u :: us=>RepV C G w bx x u∧RepVs C G w bx xs us
end
structure Sim (C:Ctx) (G:Gh) (st:St) (hs:List (T×Value)) (a:Act) (w:World):Prop where
 inj:∀ b b' l,G.L b=some l→G.L b'=some l→b=b'
 lab:∀ b l,G.L b=some l→b<w.heap.size∧(C.w0.heap.size≤b∨C.F0 b)
 zone:∀ b,C.Zf b∨G.Zn b→G.L b=none∧b<w.heap.size
 fresh:∀ b,G.Zn b→C.Zn b∨C.w0.heap.size≤b∨C.F0 b
 zin:∀ b,C.Zn b→G.Zn b
 old:∀ b,b<C.w0.heap.size→¬ C.F0 b→w.heap[b]?=C.w0.heap[b]?
 size:C.w0.heap.size≤w.heap.size
 rest:w.os=C.w0.os∧w.tape=C.w0.tape∧w.output=C.w0.output
 box:∀ n,RepL (C.Z G) w G.L (.box n,[]) 0 (st.b n).cells (G.vals n)∧(G.vals n).length=(st.b n).cells.length ∧
  ((st.b n).real=true→G.L (G.blk n)=some (.box n,[])∧∃ ty,w.heap[G.blk n]?=some (.cells (G.vals n).toArray ty (0,0)))
 held:∀ j x u,hs[j]?=some (x,u)→RepC (C.Z G) w G.L (.held j,[]) x u
 slot:∀ t,RepV C G w st.b (st.s t) (a.tmps.getD t undef)
 ino:∀ i,G.blk (i,1)=C.blk0 i∧(st.b (i,1)).real=C.real0 i∧(C.real0 i=false→G.vals (i,1)=C.vals0 i)
 len:a.tmps.size=C.N
 dfr:a.defers=[]
section
variable {C:Ctx} {G G':Gh} {w w':World} {bx bx':Nm→Box}
structure Keeps (C:Ctx) (G G':Gh) (w w':World):Prop where
 zn:∀ b,G.Zn b→G'.Zn b
 heap:∀ b,C.Zf b∨G.Zn b→w'.heap[b]?=w.heap[b]?
theorem Keeps.Z (k:Keeps C G G' w w'):∀ f b,C.Z G f b→C.Z G' f b∧w'.heap[b]?=w.heap[b]?:=by
 intro f b h
 cases f
 ·exact h.elim
 ·exact ⟨k.zn b h,k.heap b (.inr h)⟩
 ·exact ⟨h.imp id (k.zn b),k.heap b h⟩
theorem noLab_under {l l':Lab} {p:Nat→Prop} {L':Labs}:∀ b r,noLab b=some (l.1,l.2++r)→L' b=some (l'.1,l'.2++r)∧p b:=by
 intro b r h;simp [noLab] at h
theorem RepC.keeps (k:Keeps C G G' w w') {x:T} {u:Value} (h:RepC (C.Z G) w noLab noWhere x u):RepC (C.Z G') w' noLab noWhere x u:=
 RepC.move k.Z x noLab_under h
mutual
theorem RepV.keeps (k:Keeps C G G' w w'):∀ (x:LV) {u:Value},(∀ n p lo hi v,RepV C G w bx (.ref n p lo hi) v→RepV C G' w' bx' (.ref n p lo hi) v) →
  (∀ n p v,RepV C G w bx (.addr n p) v→RepV C G' w' bx' (.addr n p) v)→RepV C G w bx x u→RepV C G' w' bx' x u
 |.t x,u,_,_,h=>by rw[RepV] at *;exact h.keeps k
 |.ref n p lo hi,u,hr,_,h=>hr n p lo hi u h
 |.addr n p,u,_,ha,h=>ha n p u h
 |.raddr cs,u,_,_,h=>by
  rw[RepV] at *
  obtain ⟨f,b,off,vs,ty,fr,h1,h2,h3,h4⟩:=h
  exact ⟨f,b,off,vs,ty,fr,h1,(k.Z f b h3).2.trans h2,(k.Z f b h3).1,RepL.move k.Z cs noLab_under h4⟩
 |.agg xs,u,hr,ha,h=>by
  rw[RepV] at *
  obtain ⟨us,h1,h2⟩:=h
  exact ⟨us,h1,RepVs.keeps k xs hr ha h2⟩
 |.tup xs,u,hr,ha,h=>by
  rw[RepV] at *
  obtain ⟨us,h1,h2⟩:=h
  exact ⟨us,h1,RepVs.keeps k xs hr ha h2⟩
 |.fn g xs,u,hr,ha,h=>by
  rw[RepV] at *
  obtain ⟨us,h1,h2⟩:=h
  exact ⟨us,h1,RepVs.keeps k xs hr ha h2⟩
 |.va xs,u,hr,ha,h=>by
  rw[RepV] at *
  obtain ⟨b,off,vs,ty,fr,h1,h2,h3,h4⟩:=h
  exact ⟨b,off,vs,ty,fr,h1,(k.Z .nw b h3).2.trans h2,(k.Z .nw b h3).1,RepVs.keeps k xs hr ha h4⟩
 |.dead,_,_,_,_=>by rw[RepV];trivial
theorem RepVs.keeps (k:Keeps C G G' w w'):∀ (xs:List LV) {us:List Value},(∀ n p lo hi v,RepV C G w bx (.ref n p lo hi) v→RepV C G' w' bx' (.ref n p lo hi) v) →
  (∀ n p v,RepV C G w bx (.addr n p) v→RepV C G' w' bx' (.addr n p) v)→RepVs C G w bx xs us→RepVs C G' w' bx' xs us
 |[],us,_,_,h=>by rw[RepVs] at *;exact h
 |x :: xs,[],_,_,h=>by rw[RepVs] at h;exact h.elim
 |x :: xs,u :: us,hr,ha,h=>by
  rw[RepVs] at *
  exact ⟨RepV.keeps k x hr ha h.1,RepVs.keeps k xs hr ha h.2⟩
end
end
end TM
namespace TM
open Go
def St.ev (st:St):Operand→Option LV
 |.tmp t=>some (st.s t)
 |.const v=>some (ofConst v)
 |.func f=>some (.fn (.func f) [])
 |.global _=>none
theorem run_ev {α:Type} {N:Nat} (x:Operand) (k:LV→M α) (st:St):(ev x k).run N st=match st.ev x with | some v=>(k v).run N st | none=>none:=by
 cases x<;>rfl
theorem run_out {N:Nat} (d:Option Nat) (v:LV) (st:St):(out d v).run N st=match d with
  |some t=>if t<N then some ((),⟨fun u=>if u=t then v else st.s u,st.b⟩) else none
  |none=>some ((),st):=by
 cases d<;>rfl
section
variable {C:Ctx} {G:Gh} {st st':St} {hs:List (T×Value)} {a:Act} {w:World}
theorem RepC_ofC (Z:Fl→Nat→Prop) (w:World) (L:Labs) (l:Lab) (x:Value) (h1:x.oneCell'=true):RepC Z w L l (ofC x) x:=by
 unfold ofC
 split
 ·rw[RepC];exact ⟨none,0,rfl,Nat.le_refl _,by unfold maxCap;omega,.inl ⟨rfl,fun _=>rfl⟩⟩
 ·rw[RepC];exact ⟨rfl,h1⟩
theorem RepVs_ofC:∀ (cs:List Value),cs.all (·.oneCell')=true→RepVs C G w st.b (cs.map fun c=>.t (ofC c)) cs
 |[],_=>by rw[List.map_nil,RepVs]
 |c :: cs,h=>by
  rw[List.all_cons,Bool.and_eq_true] at h
  rw[List.map_cons,RepVs];exact ⟨by rw[RepV];exact RepC_ofC _ _ _ _ _ h.1,RepVs_ofC cs h.2⟩
theorem RepV_ofConst (v:Value):RepV C G w st.b (ofConst v) v:=by
 unfold ofConst
 split
 ·rename_i cs
  split
  ·rename_i h
   rw[RepV];exact ⟨cs,rfl,RepVs_ofC cs.toList h⟩
  ·rw[RepV];trivial
 ·rw[RepV];trivial
 ·rename_i h1 h2
  rw[RepV];exact RepC_ofC _ _ _ _ _ (by cases v<;>first | rfl | exact (h1 _ rfl).elim | exact (h2 _ rfl).elim)
theorem Sim.ev (s:Sim C G st hs a w) {x:Operand} {v:LV} (h:st.ev x=some v):RepV C G w st.b v (a.eval x):=by
 cases x with
 |tmp t=>simp only[St.ev,Option.some.injEq] at h;subst h;exact s.slot t
 |const c=>simp only[St.ev,Option.some.injEq] at h;subst h;exact RepV_ofConst c
 |func f=>simp only[St.ev,Option.some.injEq] at h;subst h;rw[RepV];exact ⟨#[],rfl,by rw[RepVs]⟩
 |global g=>simp [St.ev] at h
theorem getD_put {a:Act} {d t:Nat} {u:Value} (hd:d<a.tmps.size):(a.put (some d) u).tmps.getD t undef=if t=d then u else a.tmps.getD t undef:=by
 simp only[Act.put,Array.getD_eq_getD_getElem?,Array.getElem?_setIfInBounds]
 by_cases h:t=d
 ·subst h;simp [hd]
 ·simp [h,Ne.symm h]
theorem Sim.put (s:Sim C G st hs a w) {d:Nat} {v:LV} {u:Value} (hd:d<C.N) (hv:RepV C G w st.b v u) :
  Sim C G ⟨fun t=>if t=d then v else st.s t,st.b⟩ hs (a.put (some d) u) w where
 inj:=s.inj
 lab:=s.lab
 zone:=s.zone
 fresh:=s.fresh
 zin:=s.zin
 old:=s.old
 size:=s.size
 rest:=s.rest
 box:=s.box
 held:=s.held
 slot t:=by
  rw[getD_put (by rw[s.len];exact hd)]
  by_cases h:t=d
  ·simp only[h,if_true];exact hv
  ·simp only[h,if_false];exact s.slot t
 ino:=s.ino
 len:=by simp [Act.put,s.len]
 dfr:=s.dfr
def OpOK (C:Ctx) (o:Oper) (st':St) (a:Act) (w:World):Prop:=
 ∃ G' w' v,((execOp a.eval o).run C.P w=.ok (.value v) w'∨((execOp a.eval o).run C.P w=.ok .skip w'∧v=undef))∧Sim C G' st' [] (a.put o.dst v) w'
theorem OpOK.of_out (s:Sim C G st [] a w) {o:Oper} {v:LV} {u:Value} (hx:(execOp a.eval o).run C.P w=.ok (.value u) w) (hv:RepV C G w st.b v u)
  (h:(out o.dst v).run C.N st=some ((),st')):OpOK C o st' a w:=by
 refine ⟨G,w,u,.inl hx,?_⟩
 rw[run_out] at h
 cases hd:o.dst with
 |none=>rw[hd] at h;simp at h;subst h;exact s
 |some d=>
  rw[hd] at h
  simp only at h
  split at h
  ·rename_i hlt
   cases h
   exact s.put hlt hv
  ·cases h
theorem op_move (s:Sim C G st [] a w) {o:Oper} {x:Operand} (ho:o.op=.move x∨o.op=.assign x) (h:(opM C.P o).run C.N st=some ((),st')):OpOK C o st' a w:=by
 have h':(TM.ev x fun v=>out o.dst v).run C.N st=some ((),st'):=by
  rcases ho with ho | ho<;>(unfold opM at h;rw[ho] at h;exact h)
 rw[run_ev] at h'
 cases hv:st.ev x with
 |none=>rw[hv] at h';cases h'
 |some v=>
  rw[hv] at h'
  refine OpOK.of_out s ?_ (s.ev hv) h'
  rcases ho with ho | ho<;>(unfold execOp;rw[ho];rfl)
theorem op_pick (s:Sim C G st [] a w) {o:Oper} {c x y:Operand} (ho:o.op=.pick c x y) (h:(opM C.P o).run C.N st=some ((),st')):OpOK C o st' a w:=by
 unfold opM at h;rw[ho] at h
 simp only[run_ev] at h
 cases hc:st.ev c with
 |none=>rw[hc] at h;cases h
 |some vc=>
  cases hx:st.ev x with
  |none=>rw[hc,hx] at h;cases h
  |some vx=>
   cases hy:st.ev y with
   |none=>rw[hc,hx,hy] at h;cases h
   |some vy=>
    rw[hc,hx,hy] at h
    simp only at h
    split at h
    ·rename_i r
     have hr:=s.ev hc
     rw[RepV,RepC] at hr
     refine OpOK.of_out s (u:=if r=true then a.eval x else a.eval y) ?_ ?_ h
     ·unfold execOp;rw[ho]
      simp only[hr]
      cases r<;>rfl
     ·cases r
      ·simpa using s.ev hy
      ·simpa using s.ev hx
    ·cases h
end
end TM
namespace TM
open Go
theorem run_ev_some {α:Type} {N:Nat} {x:Operand} {k:LV→M α} {st:St} {r:α×St} (h:(ev x k).run N st=some r):∃ v,st.ev x=some v∧(k v).run N st=some r:=by
 rw[run_ev] at h
 cases hv:st.ev x with
 |none=>rw[hv] at h;cases h
 |some v=>rw[hv] at h;exact ⟨v,rfl,h⟩
section
variable {C:Ctx} {G:Gh} {st st':St} {hs:List (T×Value)} {a:Act} {w:World}
theorem RepV_v {x u:Value} (h:RepV C G w st.b (.t (.v x)) u):u=x:=by rw[RepV,RepC] at h;exact h.1
theorem RepV_mk (x:Value) (h:x.oneCell'=true:=by rfl):RepV C G w st.b (.t (.v x)) x:=by rw[RepV,RepC];exact ⟨rfl,h⟩
theorem r_und {P:Program} {t:TypeId} {d:TypeDesc} (h:P.underlying t=some d) (w:World):(underlying t).run P w=.ok d w:=run_underlying h w
theorem r_info {P:Program} {t:TypeId} {i:TypeInfo} (h:P.info? t=some i) (w:World):(typeInfo t).run P w=.ok i w:=by simp [typeInfo,go_sem,h]
theorem r_size {P:Program} {t:TypeId} {i:TypeInfo} (h:P.info? t=some i) (w:World):(sizeOf t).run P w=.ok i.size w:=by simp [sizeOf,go_sem,r_info h]
theorem info_of_cells {P:Program} {t:TypeId} (h:0<P.cellsOf t):∃ i,P.info? t=some i∧P.cellsOf t=i.size:=by
 unfold Program.cellsOf at *
 cases hi:P.info? t with
 |none=>rw[hi] at h;simp at h
 |some i=>exact ⟨i,rfl,by simp⟩
theorem bool_equal {P:Program} {t:TypeId} (ht:P.underlying t=some .bool) (x y:Bool):(Op.equal t (.bool x) (.bool y)).run P w=.ok (x==y) w:=by
 unfold Op.equal
 obtain ⟨d,hd⟩:∃ d,Op.maxDepth=d+1:=⟨9999,rfl⟩
 rw[hd]
 unfold Op.equalIn
 simp only[Sem.run_bind,r_und ht]
 rfl
theorem intB_run {P:Program} {op:BinOp} {k l:IntKind} {a b:Int} {r:Value} (h:intB op k l a b=some r) (t:TypeId) (X Y:Operand) :
  (do eqGuard op t X Y (.int k a) (.int l b);binOp op t (.int k a) (.int l b):Sem Value).run P w=.ok r w:=by
 unfold intB at h
 cases hs:shI k op a b with
 |some z=>
  rw[hs] at h
  simp only at h
  split at h
  ·cases h
  ·rename_i hb
   cases h
   cases op<;>simp only[shI] at hs<;>cases hs<;>simp [go_sem,eqGuard,binOp,Op.shift,hb]
 |none=>
  rw[hs] at h
  simp only at h
  split at h
  ·rename_i hkl
   subst hkl
   cases op<;>simp only[shI,reduceCtorEq] at hs<;>simp only[ariI,bitI,cmpI] at h
   all_goals first
    |(cases h;simp [go_sem,eqGuard,binOp,Op.intArith];done)
    |(cases h;simp [go_sem,eqGuard,binOp,Op.intBits];done)
    |(cases h;simp [go_sem,eqGuard,binOp,Op.intCmp];done)
    |(cases h;done)
    |(by_cases h0:b=0
      ·simp [h0] at h
      ·simp only[h0,if_false] at h
       cases h
       simp [go_sem,eqGuard,binOp,Op.intDiv,h0])
  ·cases h
theorem intB_one {op:BinOp} {k l:IntKind} {a b:Int} {r:Value} (h:intB op k l a b=some r):r.oneCell'=true:=by
 unfold intB at h
 repeat' split at h
 all_goals first
  |cases h;rfl
  |cases h
  |(obtain ⟨b,hb,rfl⟩:=Option.map_eq_some_iff.1 h;rfl)
theorem RepVs.get0:∀ {xs:List LV} {us:List Value},RepVs C G w st.b xs us→∀ (i:Nat) v,xs[i]?=some v→∃ u,us[i]?=some u∧RepV C G w st.b v u
 |[],_,_,i,v,h=>by simp at h
 |x :: xs,[],h,_,_,_=>by rw[RepVs] at h;exact h.elim
 |x :: xs,u :: us,h,i,v,hi=>by
  rw[RepVs] at h
  cases i with
  |zero=>simp at hi;subst hi;exact ⟨u,by simp,h.1⟩
  |succ i=>
   obtain ⟨u',h1,h2⟩:=RepVs.get0 h.2 i v (by simpa using hi)
   exact ⟨u',by simpa using h1,h2⟩
theorem flat1_run {P:Program} {f:Field} {x y:LV} {ux uy:Value} {xs ys:Array Value} {r:Bool} {d:Nat} (h:flat1 (P.underlying f.type) x y=some r) (hx:RepV C G w st.b x ux) (hy:RepV C G w st.b y uy) (h1:xs[f.offset]?=some ux) (h2:ys[f.offset]?=some uy) :
  (part f.type xs f.offset).run P w=.ok ux w∧(part f.type ys f.offset).run P w=.ok uy w∧(Op.equalIn (d+1) f.type ux uy).run P w=.ok r w:=by
 unfold flat1 at h
 split at h
 ·rename_i hu
  have e1:=RepV_v hx;have e2:=RepV_v hy;subst e1;subst e2
  cases h
  refine ⟨by simp [part,Go.isAgg,run_underlying hu,h1],by simp [part,Go.isAgg,run_underlying hu,h2],?_⟩
  simp [Op.equalIn,run_underlying hu]
 ·rename_i hu
  have e1:=RepV_v hx;have e2:=RepV_v hy;subst e1;subst e2
  split at h
  ·rename_i hk
   subst hk
   cases h
   refine ⟨by simp [part,Go.isAgg,run_underlying hu,h1],by simp [part,Go.isAgg,run_underlying hu,h2],?_⟩
   simp [Op.equalIn,run_underlying hu]
  ·cases h
 ·rename_i hu
  have e1:=RepV_v hx;have e2:=RepV_v hy;subst e1;subst e2
  cases h
  refine ⟨by simp [part,Go.isAgg,run_underlying hu,h1],by simp [part,Go.isAgg,run_underlying hu,h2],?_⟩
  simp [Op.equalIn,run_underlying hu,beq_toListBytes,ByteArray.toList_eq]
 ·cases h
theorem eqFs_run {P:Program} {xs ys:List LV} {us vs:Array Value} {d:Nat} (hx:RepVs C G w st.b xs us.toList) (hy:RepVs C G w st.b ys vs.toList):∀ (fs:List Field) {r:Bool},eqFs P fs xs ys=some r→(Op.eqFields (d+1) us vs fs).run P w=.ok r w
 |[],r,h=>by
  simp only[eqFs,Option.some.injEq] at h
  subst h
  simp [Op.eqFields]
 |f :: fs,r,h=>by
  simp only[eqFs] at h
  split at h
  ·cases h
  ·rename_i hn
   split at h
   ·rename_i x y hfx hfy
    split at h
    ·rename_i r1 r2 h1 h2
     cases h
     obtain ⟨ux,k1,k2⟩:=hx.get0 _ _ hfx
     obtain ⟨uy,k3,k4⟩:=hy.get0 _ _ hfy
     obtain ⟨p1,p2,p3⟩:=flat1_run (d:=d) (xs:=us) (ys:=vs) h1 k2 k4 (by simpa using k1) (by simpa using k3)
     have ih:=eqFs_run (d:=d) hx hy fs h2
     have hn':f.name≠ "_":=by simpa using hn
     rw[Op.eqFields]
     simp only[if_pos hn',Sem.run_bind,p1,p2,p3,Result.andThen_ok]
     cases r1
     ·simp
     ·simpa using ih
    ·cases h
   ·cases h
theorem binV_run {P:Program} {op:BinOp} {t:TypeId} {x y:LV} {ux uy r:Value} (h:binV P t op x y=some r) (hx:RepV C G w st.b x ux) (hy:RepV C G w st.b y uy) (X Y:Operand) :
  (do eqGuard op t X Y ux uy;binOp op t ux uy:Sem Value).run P w=.ok r w:=by
 unfold binV at h
 split at h
 ·have e1:=RepV_v hx;have e2:=RepV_v hy;subst e1;subst e2
  exact intB_run h t X Y
 ·have e1:=RepV_v hx;have e2:=RepV_v hy;subst e1;subst e2
  split at h
  ·cases h;simp [go_sem,eqGuard,binOp,Op.stringOp,ByteArray.toList_eq]
  ·cases h;simp [go_sem,eqGuard,binOp,Op.stringOp,ByteArray.toList_eq,bne]
  ·cases h;simp [go_sem,eqGuard,binOp,Op.stringOp,ByteArray.toList_eq]
  ·cases h;simp [go_sem,eqGuard,binOp,Op.stringOp,ByteArray.toList_eq]
  ·split at h
   ·rename_i hsm
    cases h
    simp [go_sem,eqGuard,binOp,Op.stringOp]
    unfold small at hsm
    omega
   ·cases h
  ·cases h
 ·have e1:=RepV_v hx;have e2:=RepV_v hy;subst e1;subst e2
  split at h
  ·rename_i ht
   split at h
   ·cases h;simp [go_sem,eqGuard,binOp,bool_equal ht]
   ·cases h;simp [go_sem,eqGuard,binOp,bool_equal ht,bne]
   ·cases h
  ·cases h
 ·rw[RepV] at hx hy
  obtain ⟨us,rfl,hus⟩:=hx
  obtain ⟨vs,rfl,hvs⟩:=hy
  split at h
  ·rename_i fs ht
   split at h
   ·rename_i hs
    split at h
    ·rename_i r0 hr
     have hf:P.fieldsOf t=fs:=by simp [Program.fieldsOf,ht]
     have he:(Op.equal t (.agg us) (.agg vs)).run P w=.ok r0 w:=by
      show (Op.equalIn (9999+1) t (.agg us) (.agg vs)).run P w=_
      rw[run_equalIn_struct (P:=P) w 9999 t us vs (by rw[hf];exact ht) hs.1,hf]
      exact eqFs_run (d:=9998) hus hvs _ hr
     split at h
     ·cases h
      simp [eqGuard,binOp,run_program,hs.2,he]
     ·cases h
      simp [eqGuard,binOp,run_program,hs.2,he]
     ·cases h
    ·cases h
   ·cases h
  ·cases h
 ·cases h
theorem binV_one {P:Program} {op:BinOp} {t:TypeId} {x y:LV} {r:Value} (h:binV P t op x y=some r):r.oneCell'=true:=by
 unfold binV at h
 repeat' split at h
 all_goals first
  |cases h;rfl
  |cases h
  |exact intB_one h
theorem exec_v {P:Program} {x:Sem Value} {u:Value} {w w':World} (h:x.run P w=.ok u w'):(do pure (Next.value (← x)):Sem Next).run P w=.ok (.value u) w':=by
 simp only[Sem.run_bind,h]
 rfl
theorem op_binOp (s:Sim C G st [] a w) {o:Oper} {op:BinOp} {t t2:TypeId} {x y:Operand} (ho:o.op=.binOp op t x y t2) (h:(opM C.P o).run C.N st=some ((),st')):OpOK C o st' a w:=by
 unfold opM at h;rw[ho] at h
 simp only at h
 obtain ⟨v,hv,h⟩:=run_ev_some h
 obtain ⟨u,hu,h⟩:=run_ev_some h
 split at h
 ·rename_i r hr
  have hb:=binV_run (P:=C.P) (w:=w) hr (s.ev hv) (s.ev hu) x y
  refine OpOK.of_out s (u:=r) ?_ (RepV_mk r (binV_one hr)) h
  unfold execOp;rw[ho]
  exact exec_v hb
 ·cases h
theorem op_unOp (s:Sim C G st [] a w) {o:Oper} {op:UnOp} {t:TypeId} {x:Operand} (ho:o.op=.unOp op t x) (h:(opM C.P o).run C.N st=some ((),st')):OpOK C o st' a w:=by
 unfold opM at h;rw[ho] at h
 simp only at h
 obtain ⟨v,hv,h⟩:=run_ev_some h
 have he:=s.ev hv
 split at h
 ·rename_i b
  have e:=RepV_v he
  refine OpOK.of_out s ?_ (RepV_mk _) h
  unfold execOp;rw[ho];exact exec_v (by rw[e];rfl)
 ·rename_i n
  have e:=RepV_v he
  refine OpOK.of_out s ?_ (RepV_mk _) h
  unfold execOp;rw[ho];exact exec_v (by rw[e];simp [Op.unary,Op.intArith])
 ·cases h
theorem RepVs.get:∀ {xs:List LV} {us:List Value},RepVs C G w st.b xs us→∀ (i:Nat) v,xs[i]?=some v→∃ u,us[i]?=some u∧RepV C G w st.b v u
 |[],_,_,i,v,h=>by simp at h
 |x :: xs,[],h,_,_,_=>by rw[RepVs] at h;exact h.elim
 |x :: xs,u :: us,h,i,v,hi=>by
  rw[RepVs] at h
  cases i with
  |zero=>simp at hi;subst hi;exact ⟨u,by simp,h.1⟩
  |succ i=>
   obtain ⟨u',h1,h2⟩:=RepVs.get h.2 i v (by simpa using hi)
   exact ⟨u',by simpa using h1,h2⟩
theorem RepVs.length:∀ {xs:List LV} {us:List Value},RepVs C G w st.b xs us→us.length=xs.length
 |[],_,h=>by rw[RepVs] at h;subst h;rfl
 |x :: xs,[],h=>by rw[RepVs] at h;exact h.elim
 |x :: xs,u :: us,h=>by rw[RepVs] at h;simp [RepVs.length h.2]
theorem RepVs.of_get:∀ {xs:List LV} {us:List Value},us.length=xs.length→(∀ (i:Nat) v u,xs[i]?=some v→us[i]?=some u→RepV C G w st.b v u)→RepVs C G w st.b xs us
 |[],us,h,_=>by rw[RepVs];exact List.length_eq_zero_iff.1 h
 |x :: xs,[],h,_=>by simp at h
 |x :: xs,u :: us,h,hg=>by
  rw[RepVs]
  exact ⟨hg 0 x u rfl rfl,RepVs.of_get (by simpa using h) fun i v u' h1 h2=>hg (i+1) v u' (by simpa using h1) (by simpa using h2)⟩
theorem op_extract (s:Sim C G st [] a w) {o:Oper} {x:Operand} {i:Nat} (ho:o.op=.extract x i) (h:(opM C.P o).run C.N st=some ((),st')):OpOK C o st' a w:=by
 unfold opM at h;rw[ho] at h
 simp only at h
 cases x with
 |tmp t=>
  simp only[M.run] at h
  have he:=s.slot t
  cases hp:partOf (st.s t) i with
  |none=>rw[hp] at h;cases h
  |some y=>
   rw[hp] at h
   unfold partOf at hp
   split at hp
   ·rename_i xs hx
    rw[hx,RepV] at he
    obtain ⟨us,hus,hr⟩:=he
    obtain ⟨u,hu,hru⟩:=hr.get i y hp
    refine OpOK.of_out s (u:=u) ?_ hru h
    unfold execOp;rw[ho]
    have hu':us[i]?=some u:=by simpa using hu
    exact exec_v (by rw[show a.eval (.tmp t)=.tuple us from hus];simp only[Instr.extract,hu'];rfl)
   ·cases hp
 |_=>cases h
theorem op_nilCheck (s:Sim C G st [] a w) {o:Oper} {x:Operand} (ho:o.op=.nilCheck x) (h:(opM C.P o).run C.N st=some ((),st')):OpOK C o st' a w:=by
 unfold opM at h;rw[ho] at h
 simp only at h
 obtain ⟨v,hv,h⟩:=run_ev_some h
 have he:=s.ev hv
 split at h
 ·have he0:=he
  rw[RepV] at he
  obtain ⟨b,row,h3,_⟩:=he
  refine OpOK.of_out s (u:=a.eval x) ?_ he0 h
  unfold execOp;rw[ho];simp only[h3];rfl
 ·have he0:=he
  rw[RepV] at he
  obtain ⟨f,b,off,vs,ty,fr,h1,h2⟩:=he
  refine OpOK.of_out s (u:=a.eval x) ?_ he0 h
  unfold execOp;rw[ho];simp only[h1];rfl
 ·cases h
theorem rowAt_bump (k:Nat):∀ (p:List Nat) {cs row:List T},rowAt cs p=some row→rowAt cs (bump k p)=some (row.drop k)
 |[],_,_,h=>by simp [rowAt] at h
 |[c],_,_,h=>by
  simp only[rowAt,Option.some.injEq] at h
  subst h
  simp [bump,rowAt,List.drop_drop]
 |[c,i],_,_,h=>by
  simp only[rowAt] at h
  split at h
  ·split at h
   ·cases h
   ·cases h
  ·cases h
 |c :: i :: d :: rest,_,_,h=>by
  simp only[rowAt,bump] at h ⊢
  split at h
  ·rename_i hdr
   split at h
   ·rename_i e he
    have:=rowAt_bump k (d :: rest) h
    exact this
   ·cases h
  ·cases h
theorem RepL.any {Z:Fl→Nat→Prop} {ts:List T} {c c':Nat} {us:List Value} {l l':Lab} (h:RepL Z w noLab l c ts us):RepL Z w noLab l' c' ts us:=
 RepL.of_get fun i t hi=>by
  obtain ⟨u,h1,h2⟩:=h.get i t hi
  refine ⟨u,h1,RepC.move (Z:=Z) (w:=w) (fun f b hz=>⟨hz,rfl⟩) t ?_ h2⟩
  intro b r hb;simp [noLab] at hb
theorem length_bump (k:Nat):∀ p:List Nat,(bump k p).length=p.length
 |[]=>rfl
 |[_]=>rfl
 |c :: d :: r=>by simp only[bump,List.length_cons];rw[length_bump k (d :: r)];rfl
theorem hdOf_bump (k:Nat):∀ p:List Nat,hdOf (bump k p)=hdOf p
 |[]=>rfl
 |[_]=>rfl
 |[_,_]=>rfl
 |[_,_,_]=>rfl
 |c :: i :: d :: e :: r=>by
  have:=hdOf_bump k (d :: e :: r)
  have h2:∃ x xs,bump k (e :: r)=x :: xs:=by
   cases r<;>exact ⟨_,_,rfl⟩
  obtain ⟨x,xs,hx⟩:=h2
  simp only[bump,hx,hdOf] at this ⊢
  rw[this]
theorem offOf_bump (k:Nat):∀ (p:List Nat) {cs row:List T} {off:Nat},rowAt cs p=some row→offOf cs off (bump k p)=offOf cs off p+k
 |[],_,_,_,h=>by simp [rowAt] at h
 |[c],_,_,_,_=>by simp [bump,offOf,Nat.add_assoc]
 |[c,i],_,_,_,h=>by
  simp only[rowAt] at h
  split at h
  ·split at h
   ·cases h
   ·cases h
  ·cases h
 |c :: i :: d :: rest,_,_,_,h=>by
  simp only[rowAt,bump] at h ⊢
  split at h
  ·rename_i hdr
   split at h
   ·rename_i e he
    have:=offOf_bump k (d :: rest) (off:=i * e.length) h
    simp only[offOf,hdr,he]
    exact this
   ·cases h
  ·cases h
theorem RepVs.drop0:∀ (k:Nat) {xs:List LV} {us:List Value},RepVs C G w st.b xs us→RepVs C G w st.b (xs.drop k) (us.drop k)
 |0,_,_,h=>h
 |k+1,[],us,h=>by rw[RepVs] at h;subst h;rw[List.drop_nil,List.drop_nil,RepVs]
 |k+1,_ :: _,[],h=>by rw[RepVs] at h;exact h.elim
 |k+1,_ :: xs,_ :: us,h=>by
  rw[RepVs] at h
  exact RepVs.drop0 k h.2
theorem RepVs.take0:∀ (k:Nat) {xs:List LV} {us:List Value},RepVs C G w st.b xs us→RepVs C G w st.b (xs.take k) (us.take k)
 |0,_,_,h=>by rw[List.take_zero,List.take_zero,RepVs]
 |k+1,[],us,h=>by rw[RepVs] at h;subst h;rw[List.take_nil,List.take_nil,RepVs]
 |k+1,_ :: _,[],h=>by rw[RepVs] at h;exact h.elim
 |k+1,_ :: xs,_ :: us,h=>by
  rw[RepVs] at h
  rw[List.take_succ_cons,List.take_succ_cons,RepVs]
  exact ⟨h.1,RepVs.take0 k h.2⟩
theorem op_fieldAddr (s:Sim C G st [] a w) {o:Oper} {t:TypeId} {x:Operand} {f:Nat} (ho:o.op=.fieldAddr t x f) (h:(opM C.P o).run C.N st=some ((),st')):OpOK C o st' a w:=by
 unfold opM at h;rw[ho] at h
 simp only at h
 split at h
 ·rename_i fl hfl
  split at h
  ·rename_i hpos
   obtain ⟨v,hv,h⟩:=run_ev_some h
   have he:=s.ev hv
   have hstr:∃ fs,C.P.underlying t=some (.struct fs)∧fs[f]?=some fl:=by
    unfold fieldAt at hfl
    split at hfl
    ·rename_i fs hu;exact ⟨fs,hu,hfl⟩
    ·cases hfl
   obtain ⟨fs,hu,hf⟩:=hstr
   obtain ⟨i,hi,hsz⟩:=info_of_cells hpos
   have hi0:i.size≠0:=by omega
   split at h
   ·rename_i n p
    rw[RepV] at he
    obtain ⟨b,row,h3,h1,h2,h4⟩:=he
    refine OpOK.of_out s (u:=.pointer (some ⟨b,offOf (st.b n).cells 0 p+fl.offset,none⟩)) ?_ ?_ h
    ·unfold execOp;rw[ho];refine exec_v ?_;rw[h3]
     by_cases h0:fl.offset=0<;>simp [Instr.fieldAt,Instr.sureAddr,r_und hu,hf,fieldPlace,r_size hi,hi0,Addr.add,h0]
    ·rw[RepV]
     refine ⟨b,_,by rw[offOf_bump _ _ h1],rowAt_bump _ _ h1,by rw[hdOf_bump];exact h2,fun hl=>h4 (by rw[← length_bump fl.offset p];exact hl)⟩
   ·rename_i cs
    rw[RepV] at he
    obtain ⟨f',b,off,vs,ty,fr,h1,h2,h3,h4⟩:=he
    refine OpOK.of_out s (u:=.pointer (some ⟨b,off+fl.offset,none⟩)) ?_ ?_ h
    ·unfold execOp;rw[ho];refine exec_v ?_;rw[h1]
     by_cases h0:fl.offset=0<;>simp [Instr.fieldAt,Instr.sureAddr,r_und hu,hf,fieldPlace,r_size hi,hi0,Addr.add,h0]
    ·rw[RepV]
     refine ⟨f',b,_,vs,ty,fr,rfl,h2,h3,?_⟩
     have:=h4.drop fl.offset
     rw[List.drop_drop] at this
     exact this.any
   ·rename_i xs
    rw[RepV] at he
    obtain ⟨b,off,vs,ty,fr,h1,h2,h3,h4⟩:=he
    refine OpOK.of_out s (u:=.pointer (some ⟨b,off+fl.offset,none⟩)) ?_ ?_ h
    ·unfold execOp;rw[ho];refine exec_v ?_;rw[h1]
     by_cases h0:fl.offset=0<;>simp [Instr.fieldAt,Instr.sureAddr,r_und hu,hf,fieldPlace,r_size hi,hi0,Addr.add,h0]
    ·rw[RepV]
     refine ⟨b,_,vs,ty,fr,rfl,h2,h3,?_⟩
     have:=RepVs.drop0 fl.offset h4
     rw[List.drop_drop] at this
     exact this
   ·cases h
  ·cases h
 ·cases h
end
end TM
namespace TM
open Go
theorem info_of_und {P:Program} {t:TypeId} {d:TypeDesc} (h:P.underlying t=some d):∃ i,P.info? t=some i∧P.cellsOf t=i.size:=by
 unfold Program.underlying at h
 cases hi:P.info? t with
 |none=>rw[hi] at h;simp at h
 |some i=>exact ⟨i,rfl,by simp [Program.cellsOf,hi]⟩
theorem r_isAgg {P:Program} {t:TypeId} {b:Bool} (h:isAgg P t=some b) (w:World):(Go.isAgg t).run P w=.ok b w:=by
 unfold isAgg at h
 split at h
 ·rename_i hu;cases h;simp [Go.isAgg,r_und hu]
 ·rename_i hu;cases h;simp [Go.isAgg,r_und hu]
 ·rename_i d hs ha hu
  cases h
  simp only[Go.isAgg,Sem.run_bind,r_und hu]
  cases d<;>first | rfl | exact (hs _ rfl).elim | exact (ha _ _ rfl).elim
 ·cases h
theorem und_of_isAgg {P:Program} {t:TypeId} {b:Bool} (h:isAgg P t=some b):∃ d,P.underlying t=some d:=by
 unfold isAgg at h
 split at h
 ·exact ⟨_,by assumption⟩
 ·exact ⟨_,by assumption⟩
 ·exact ⟨_,by assumption⟩
 ·cases h
section
variable {C:Ctx} {G:Gh} {st st':St} {hs:List (T×Value)} {a:Act} {w:World}
theorem RepC.frozen {Z:Fl→Nat→Prop} {L L':Labs} {l l':Lab} {f:Fl} {es:List (List T)} {u:Value} (hf:f≠.own) (h:RepC Z w L l (.sl f es) u):RepC Z w L' l' (.sl f es) u:=by
 rw[RepC] at *
 obtain ⟨a,cap,hu,h1,h2,h3⟩:=h
 refine ⟨a,cap,hu,h1,h2,?_⟩
 rcases h3 with h3 | ⟨b,off,cs,ty,fr,wd,ha,hwd,hh,hsz,hes,ho,hz,hr⟩
 ·exact .inl h3
 ·refine .inr ⟨b,off,cs,ty,fr,wd,ha,hwd,hh,hsz,hes,fun h=>absurd h hf,hz,?_⟩
  have e1:f.labs L=noLab:=by cases f<;>simp_all [Fl.labs]
  have e2:f.labs L'=noLab:=by cases f<;>simp_all [Fl.labs]
  rw[e1] at hr
  rw[e2]
  exact RepLL.move (fun f b hz=>⟨hz,rfl⟩) es (fun b r hb=>by simp [noLab] at hb) hr
theorem RepC.frozenPt {Z:Fl→Nat→Prop} {L L':Labs} {l l':Lab} {f:Fl} {cs:List T} {u:Value} (hf:f≠.own) (h:RepC Z w L l (.pt f cs) u):RepC Z w L' l' (.pt f cs) u:=by
 rw[RepC] at *
 obtain ⟨b,off,vs,ty,fr,hu,hh,ho,hz,hr⟩:=h
 refine ⟨b,off,vs,ty,fr,hu,hh,fun h=>absurd h hf,hz,?_⟩
 have e1:f.labs L=noLab:=by cases f<;>simp_all [Fl.labs]
 have e2:f.labs L'=noLab:=by cases f<;>simp_all [Fl.labs]
 rw[e1] at hr
 rw[e2]
 exact RepL.move (fun f b hz=>⟨hz,rfl⟩) cs (fun b r hb=>by simp [noLab] at hb) hr
theorem Sim.place (s:Sim C G st hs a w) {n:Nm} {p:List Nat} {row:List T} (h:rowAt (st.b n).cells p=some row) :
  ∃ urow blk off,loc w (st.b n).cells (G.vals n) (G.at st.b n) 0 p=some (urow,blk,off)∧RepL (C.Z G) w G.L (pathLab (.box n,[]) p) (lastOf p) row urow ∧
    EndOf G.L w (.box n,[]) (G.at st.b n) p blk∧(∀ b,blk=some b→∃ vs ty,w.heap[b]?=some (.cells vs ty (0,0))∧urow=vs.toList.drop off):=by
 obtain ⟨h1,h2,h3⟩:=s.box n
 refine loc_of_rowAt p h1 h (fun b hb=>?_)
 unfold Gh.at at hb
 split at hb
 ·rename_i hr
  cases hb
  obtain ⟨_,ty,h4⟩:=h3 hr
  exact ⟨_,ty,h4,by simp⟩
 ·cases hb
theorem pathLab_last:∀ (p:List Nat) {l:Lab} {cs row:List T},rowAt cs p=some row→(pathLab l p).add (lastOf p)=(l.1,l.2++p)
 |[],_,_,_,h=>by simp [rowAt] at h
 |[c],_,_,_,_=>rfl
 |[c,i],_,_,_,h=>by
  simp only[rowAt] at h
  split at h
  ·split at h
   ·cases h
   ·cases h
  ·cases h
 |c :: i :: d :: rest,l,_,_,h=>by
  simp only[rowAt] at h
  split at h
  ·split at h
   ·have:=pathLab_last (d :: rest) (l:=(l.add c).add i) h
    simp only[pathLab,lastOf] at this ⊢
    rw[this]
    simp [Lab.add]
   ·cases h
  ·cases h
theorem lastOf_bump (k:Nat):∀ (p:List Nat),p≠[]→lastOf (bump k p)=lastOf p+k
 |[],h=>absurd rfl h
 |[c],_=>rfl
 |c :: d :: r,_=>by
  have:=lastOf_bump k (d :: r) (by simp)
  have h2:∃ x xs,bump k (d :: r)=x :: xs:=by cases r<;>exact ⟨_,_,rfl⟩
  obtain ⟨x,xs,hx⟩:=h2
  simp only[bump,hx,lastOf] at this ⊢
  exact this
theorem pathLab_bump (k:Nat):∀ (p:List Nat) {l:Lab},pathLab l (bump k p)=pathLab l p
 |[],_=>rfl
 |[_],_=>rfl
 |[_,_],_=>rfl
 |c :: i :: d :: rest,l=>by
  have h:=pathLab_bump k (d :: rest) (l:=(l.add c).add i)
  have h2:∃ x xs,bump k (d :: rest)=x :: xs:=by cases rest<;>exact ⟨_,_,rfl⟩
  obtain ⟨x,xs,hx⟩:=h2
  simp only[bump,hx,pathLab] at h ⊢
  exact h
theorem Sim.addr (s:Sim C G st hs a w) {n:Nm} {p:List Nat} {row:List T} {b:Nat} (h:rowAt (st.b n).cells p=some row) (hb:G.L b=some (.box n,hdOf p)) (hr:p.length=1→(st.b n).real=true) :
  ∃ vs ty urow,w.heap[b]?=some (.cells vs ty (0,0))∧urow=vs.toList.drop (offOf (st.b n).cells 0 p)∧RepL (C.Z G) w G.L (pathLab (.box n,[]) p) (lastOf p) row urow ∧
    loc w (st.b n).cells (G.vals n) (G.at st.b n) 0 p=some (urow,some b,offOf (st.b n).cells 0 p):=by
 obtain ⟨urow,blk,off,h1,h2,_,h4⟩:=s.place h
 obtain ⟨k1,k2,k3⟩:=loc_addr p (s.box n).1 h1
 have hblk:blk=some b:=by
  by_cases hl:p.length=1
  ·have hre:=hr hl
   have:=((s.box n).2.2 hre).1
   rw[k2 hl]
   unfold Gh.at
   rw[if_pos hre]
   have hd:hdOf p=[]:=by
    match p,hl with
    |[_],_=>rfl
   rw[hd] at hb
   exact congrArg some (s.inj _ _ _ this hb)
  ·obtain ⟨b2,e1,e2⟩:=k3 hl
   rw[e1]
   exact congrArg some (s.inj _ _ _ (by simpa using e2) hb)
 subst hblk
 subst k1
 obtain ⟨vs,ty,k5,k6⟩:=h4 b rfl
 exact ⟨vs,ty,urow,k5,k6,h2,h1⟩
theorem shift_zero (a:Option Addr) (es:List (List T)):shift a 0 es=a:=by
 unfold shift
 cases es with
 |nil=>rfl
 |cons e es=>cases a<;>simp [Addr.add]
theorem Hdr.of_rep {Z:Fl→Nat→Prop} {L:Labs} {l:Lab} {es:List (List T)} {u:Value} (h:RepC Z w L l (.sl .own es) u):∃ a cap,u=.slice a es.length cap∧Hdr L w l es a cap:=by
 rw[RepC] at h
 obtain ⟨a,cap,rfl,h1,h2,h3⟩:=h
 refine ⟨a,cap,rfl,h1,h2,?_⟩
 rcases h3 with ⟨hn,hc⟩ | ⟨b,off,cs,ty,fr,wd,ha,hwd,hh,hsz,hes,ho,hz,hr⟩
 ·exact .inl ⟨hn,hc rfl⟩
 ·obtain ⟨hL,rfl,rfl,hcap⟩:=ho rfl
  exact .inr ⟨b,cs,ty,wd,ha,⟨hwd.1,hwd.2 rfl⟩,hL,hh,hcap,hes⟩
theorem RepV_raddr {L:Labs} {l:Lab} {f:Fl} {cs:List T} {u:Value} (hf:f≠.own) (h:RepC (C.Z G) w L l (.pt f cs) u):RepV C G w st.b (.raddr cs) u:=by
 have h:=h.frozenPt (L':=noLab) (l':=noWhere) hf
 rw[RepC] at h
 rw[RepV]
 obtain ⟨b,off,vs,ty,fr,hu,hh,ho,hz,hr⟩:=h
 refine ⟨f,b,off,vs,ty,fr,hu,hh,hz hf,?_⟩
 have e1:f.labs noLab=noLab:=by cases f<;>simp_all [Fl.labs]
 rw[e1] at hr
 exact hr
theorem RepV_seen {n:Nm} {p:List Nat} {x:T} {u:Value} {row:List T}
  (h2:rowAt (st.b n).cells p=some (x :: row)) (h:RepC (C.Z G) w G.L (.box n,p) x u) :
  RepV C G w st.b (seen n p x) u:=by
 unfold seen
 split
 ·rw[RepV,RepC];rw[RepC] at h;exact h
 ·rename_i es
  obtain ⟨a,cap,rfl,hd⟩:=Hdr.of_rep h
  rw[RepV]
  exact ⟨es,row,a,cap,h2,Nat.zero_le _,Nat.le_refl _,hd,a,by simp,fun _=>(shift_zero a es).symm⟩
 ·rw[RepV];exact h.frozen (by simp)
 ·rw[RepV];exact h.frozen (by simp)
 ·rw[RepV];trivial
 ·exact RepV_raddr (by simp) h
 ·exact RepV_raddr (by simp) h
 ·rw[RepV]
  rw[RepC] at *
  obtain ⟨vs,hu,hs,_⟩:=h
  exact ⟨vs,hu,hs,by rw[RepL];trivial⟩
 ·rw[RepV];trivial
 ·rw[RepV];trivial
theorem bump_bump (j k:Nat):∀ p:List Nat,bump j (bump k p)=bump (k+j) p
 |[]=>rfl
 |[c]=>by simp [bump,Nat.add_assoc]
 |c :: d :: r=>by
  have:=bump_bump j k (d :: r)
  cases hb:bump k (d :: r) with
  |nil=>cases r<;>simp [bump] at hb
  |cons x xs=>simp only[bump,hb];rw[← hb,this]
theorem RepVs_seens {n:Nm} {p:List Nat} (hp:p≠[]):∀ (xs:List T) (us:List Value) (j:Nat) {row:List T},
  rowAt (st.b n).cells (bump j p)=some (xs++row)→us.length=xs.length →
  RepL (C.Z G) w G.L (pathLab (.box n,[]) p) (lastOf p+j) xs us→RepVs C G w st.b (seens n p j xs) us
 |[],us,_,_,_,hl,_=>by rw[seens,RepVs];exact List.length_eq_zero_iff.1 hl
 |x :: xs,[],_,_,_,hl,_=>by simp at hl
 |x :: xs,u :: us,j,row,h2,hl,h=>by
  rw[RepL] at h
  rw[seens,RepVs]
  refine ⟨RepV_seen h2 ?_,RepVs_seens hp xs us (j+1) (row:=row) ?_ (by simpa using hl) h.2⟩
  ·have e:=pathLab_last (bump j p) (l:=(.box n,[])) h2
   rw[pathLab_bump,lastOf_bump j p hp] at e
   rw[e] at h
   exact h.1
  ·have:=rowAt_bump 1 _ h2
   rw[bump_bump] at this
   simpa using this
theorem cell_at {b off:Nat} {vs:Array Value} {ty:TypeId} {fr:Nat×Nat} (h:w.heap[b]?=some (.cells vs ty fr)):w.cell? ⟨b,off,none⟩=vs[off]?:=by
 simp [World.cell?,h]
theorem bump_zero:∀ p:List Nat,bump 0 p=p
 |[]=>rfl
 |[c]=>rfl
 |c :: d :: r=>by simp only[bump];rw[bump_zero (d :: r)]
theorem add_off (b off j:Nat):(⟨b,off,none⟩:Addr).add j=⟨b,off+j,none⟩:=by
 unfold Addr.add;split
 ·rename_i h;subst h;rfl
 ·rfl
theorem r_loadCells {P:Program} {b off:Nat} {vs:Array Value} {ty:TypeId} {fr:Nat×Nat} {n:Nat} (h:w.heap[b]?=some (.cells vs ty fr)) (hn:off+n≤vs.size) :
  (loadCells ⟨b,off,none⟩ n).run P w=.ok ((vs.toList.drop off).take n).toArray w:=by
 have hl:((vs.toList.drop off).take n).length=n:=by simp;omega
 have:=run_loadCells_list (P:=P) (w:=w) ⟨b,off,none⟩ ((vs.toList.drop off).take n) (fun j v hj=>by
  rw[add_off,cell_at h]
  rw[List.getElem?_take] at hj
  split at hj
  ·simpa using hj
  ·cases hj)
 rw[hl] at this
 exact this
theorem r_loadVar_agg {P:Program} {t:TypeId} {b off:Nat} {vs:Array Value} {ty:TypeId} {fr:Nat×Nat} (hag:isAgg P t=some true) (h:w.heap[b]?=some (.cells vs ty fr)) (hn:off+P.cellsOf t≤vs.size) :
  (Instr.loadAt t (.pointer (some ⟨b,off,none⟩))).run P w=.ok (.agg ((vs.toList.drop off).take (P.cellsOf t)).toArray) w:=by
 obtain ⟨d,hd⟩:=und_of_isAgg hag
 obtain ⟨i,hi,hsz⟩:=info_of_und hd
 rw[hsz] at hn ⊢
 simp [Instr.loadAt,Instr.sureAddr,loadVar,r_isAgg hag,r_size hi,r_loadCells h hn]
theorem r_loadVar_one {P:Program} {t:TypeId} {b off:Nat} {vs:Array Value} {ty:TypeId} {fr:Nat×Nat} {u:Value} (hag:isAgg P t=some false) (h:w.heap[b]?=some (.cells vs ty fr)) (hn:vs[off]?=some u) :
  (Instr.loadAt t (.pointer (some ⟨b,off,none⟩))).run P w=.ok u w:=by
 simp [Instr.loadAt,Instr.sureAddr,loadVar,r_isAgg hag,load,Sem.run,cell_at h,hn]
theorem RepVs_frozen:∀ (cs:List T) (us:List Value) {_L:Labs} {l:Lab} {c:Nat},us.length=cs.length→RepL (C.Z G) w noLab l c cs us→RepVs C G w st.b (cs.map .t) us
 |[],us,_,_,_,hl,_=>by rw[List.map_nil,RepVs];exact List.length_eq_zero_iff.1 hl
 |x :: cs,[],_,_,_,hl,_=>by simp at hl
 |x :: cs,u :: us,L,l,c,hl,h=>by
  rw[RepL] at h
  rw[List.map_cons,RepVs]
  refine ⟨?_,RepVs_frozen cs us (_L:=L) (by simpa using hl) h.2⟩
  rw[RepV]
  exact RepC.move (fun f b hz=>⟨hz,rfl⟩) x (fun b r hb=>by simp [noLab] at hb) h.1
theorem rowAt_ne {cs row:List T} {p:List Nat} (h:rowAt cs p=some row):p≠[]:=by
 intro e;subst e;simp [rowAt] at h
theorem run_loadM {P:Program} {N:Nat} {t:TypeId} {d:Option Nat} {n:Nm} {p:List Nat}:(loadM P t d n p).run N st=(loadB P t d n p).run N st:=by
 unfold loadM
 split
 ·rename_i c ha
  simp only[M.run]
  cases hh:hdrLen (st.b n).cells c with
  |none=>rfl
  |some hi=>
   simp only
   unfold hdrLen at hh
   split at hh
   ·rename_i es r hd
    cases hh
    unfold loadB
    simp only[M.run,rowAt,hd,ha,bump,seen,Nat.add_zero]
   ·cases hh
 ·rfl
theorem op_load (s:Sim C G st [] a w) {o:Oper} {t:TypeId} {x:Operand} (ho:o.op=.load t x) (h:(opM C.P o).run C.N st=some ((),st')):OpOK C o st' a w:=by
 unfold opM at h;rw[ho] at h
 simp only at h
 obtain ⟨v,hv,h⟩:=run_ev_some h
 have he:=s.ev hv
 split at h
 ·rename_i n p
  rw[run_loadM] at h
  unfold loadB at h
  simp only[M.run] at h
  split at h
  ·rename_i row hrow
   rw[RepV] at he
   obtain ⟨b,row',h3,h1,h2,h4⟩:=he
   obtain ⟨vs,ty,urow,hh,hu,k2,_⟩:=s.addr hrow h2 h4
   have hlen:=k2.length
   have hul:urow.length=vs.size-offOf (st.b n).cells 0 p:=by rw[hu];simp
   split at h
   ·rename_i hag
    split at h
    ·rename_i hle
     refine OpOK.of_out s (u:=.agg ((vs.toList.drop (offOf (st.b n).cells 0 p)).take (C.P.cellsOf t)).toArray) ?_ ?_ h
     ·unfold execOp;rw[ho];refine exec_v ?_;rw[h3]
      by_cases h0:C.P.cellsOf t=0
      ·obtain ⟨d,hd⟩:=und_of_isAgg hag
       obtain ⟨i,hi,hsz⟩:=info_of_und hd
       rw[h0] at hsz ⊢
       simp [Instr.loadAt,Instr.sureAddr,loadVar,r_isAgg hag,r_size hi,← hsz,loadCells,loadCellsFrom]
      ·exact r_loadVar_agg hag hh (by omega)
     ·rw[RepV]
      refine ⟨_,rfl,?_⟩
      rw[List.toList_toArray,← hu]
      have hb0:=bump_zero p
      refine RepVs_seens (rowAt_ne hrow) (row.take (C.P.cellsOf t)) (urow.take (C.P.cellsOf t)) 0 (row:=row.drop (C.P.cellsOf t)) ?_ ?_ (k2.take _)
      ·rw[hb0,List.take_append_drop];exact hrow
      ·simp;omega
    ·cases h
   ·rename_i hag
    split at h
    ·rename_i y r
     cases hur:urow with
     |nil=>rw[hur] at hlen;simp at hlen
     |cons u us=>
      have hvo:vs[offOf (st.b n).cells 0 p]?=some u:=by
       have:=congrArg (fun l=>l[0]?) (hu.symm.trans hur)
       simpa using this
      rw[hur,RepL] at k2
      refine OpOK.of_out s (u:=u) ?_ ?_ h
      ·unfold execOp;rw[ho];refine exec_v ?_;rw[h3]
       exact r_loadVar_one hag hh hvo
      ·rw[bump_zero]
       have e:=pathLab_last p (l:=(.box n,[])) hrow
       rw[e] at k2
       exact RepV_seen hrow k2.1
    ·cases h
   ·cases h
  ·cases h
 ·rename_i cs
  rw[RepV] at he
  obtain ⟨f,b,off,vs,ty,fr,h1,h2,h3,h4⟩:=he
  have hlen:=h4.length
  have hul:(vs.toList.drop off).length=vs.size-off:=by simp
  split at h
  ·rename_i hag
   split at h
   ·rename_i hle
    refine OpOK.of_out s (u:=.agg ((vs.toList.drop off).take (C.P.cellsOf t)).toArray) ?_ ?_ h
    ·unfold execOp;rw[ho];refine exec_v ?_;rw[h1]
     by_cases h0:C.P.cellsOf t=0
     ·obtain ⟨d,hd⟩:=und_of_isAgg hag
      obtain ⟨i,hi,hsz⟩:=info_of_und hd
      rw[h0] at hsz ⊢
      simp [Instr.loadAt,Instr.sureAddr,loadVar,r_isAgg hag,r_size hi,← hsz,loadCells,loadCellsFrom]
     ·exact r_loadVar_agg hag h2 (by omega)
    ·rw[RepV]
     refine ⟨_,rfl,?_⟩
     rw[List.toList_toArray]
     exact RepVs_frozen (_L:=noLab) _ _ (by simp;omega) (h4.take _)
   ·cases h
  ·rename_i hag
   split at h
   ·rename_i y r
    cases hur:vs.toList.drop off with
    |nil=>rw[hur] at hlen;simp at hlen
    |cons u us=>
     have hvo:vs[off]?=some u:=by
      have:=congrArg (fun l=>l[0]?) hur
      simpa using this
     rw[hur,RepL] at h4
     refine OpOK.of_out s (u:=u) ?_ ?_ h
     ·unfold execOp;rw[ho];refine exec_v ?_;rw[h1]
      exact r_loadVar_one hag h2 hvo
     ·rw[RepV]
      exact RepC.move (fun f b hz=>⟨hz,rfl⟩) y (fun b r hb=>by simp [noLab] at hb) h4.1
   ·cases h
  ·cases h
 ·rename_i xs
  rw[RepV] at he
  obtain ⟨b,off,vs,ty,fr,h1,h2,h3,h4⟩:=he
  have hlen:=h4.length
  have hul:(vs.toList.drop off).length=vs.size-off:=by simp
  split at h
  ·rename_i hag
   split at h
   ·rename_i hle
    refine OpOK.of_out s (u:=.agg ((vs.toList.drop off).take (C.P.cellsOf t)).toArray) ?_ ?_ h
    ·unfold execOp;rw[ho];refine exec_v ?_;rw[h1]
     by_cases h0:C.P.cellsOf t=0
     ·obtain ⟨d,hd⟩:=und_of_isAgg hag
      obtain ⟨i,hi,hsz⟩:=info_of_und hd
      rw[h0] at hsz ⊢
      simp [Instr.loadAt,Instr.sureAddr,loadVar,r_isAgg hag,r_size hi,← hsz,loadCells,loadCellsFrom]
     ·exact r_loadVar_agg hag h2 (by omega)
    ·rw[RepV]
     refine ⟨_,rfl,?_⟩
     rw[List.toList_toArray]
     exact RepVs.take0 _ h4
   ·cases h
  ·rename_i hag
   split at h
   ·rename_i y r
    cases hur:vs.toList.drop off with
    |nil=>rw[hur] at hlen;simp at hlen
    |cons u us=>
     have hvo:vs[off]?=some u:=by
      have:=congrArg (fun l=>l[0]?) hur
      simpa using this
     rw[hur,RepVs] at h4
     refine OpOK.of_out s (u:=u) ?_ h4.1 h
     unfold execOp;rw[ho];refine exec_v ?_;rw[h1]
     exact r_loadVar_one hag h2 hvo
   ·cases h
  ·cases h
 ·cases h
theorem op_index (s:Sim C G st [] a w) {o:Oper} {t:TypeId} {x i:Operand} (ho:o.op=.index t x i) (h:(opM C.P o).run C.N st=some ((),st')):OpOK C o st' a w:=by
 unfold opM at h;rw[ho] at h
 simp only at h
 split at h
 ·rename_i hu
  obtain ⟨v,hv,h⟩:=run_ev_some h
  obtain ⟨v2,hv2,h⟩:=run_ev_some h
  have he:=s.ev hv
  have he2:=s.ev hv2
  split at h
  ·rename_i str kk k _
   have e1:=RepV_v he;have e2:=RepV_v he2
   split at h
   ·rename_i hk
    split at h
    ·rename_i c hc
     refine OpOK.of_out s ?_ (RepV_mk _) h
     unfold execOp;rw[ho];refine exec_v ?_;rw[e1,e2]
     have:str[k.toNat]?=some c:=by
      rw[← hc];rfl
     simp [Instr.index,asIntOf,r_und hu,hk,this]
    ·cases h
   ·cases h
  ·cases h
 ·cases h
theorem run_evs_some {α:Type} {N:Nat}:∀ (xs:List Operand) {k:List LV→M α} {st:St} {r:α×St},(evs xs k).run N st=some r→∃ vs,(∀ a w G C,Sim C G st [] a w→RepVs C G w st.b vs (xs.map a.eval))∧vs.length=xs.length∧(k vs).run N st=some r
 |[],k,st,r,h=>⟨[],fun _ _ _ _ _=>by rw[RepVs];rfl,rfl,h⟩
 |x :: xs,k,st,r,h=>by
  unfold evs at h
  obtain ⟨v,hv,h⟩:=run_ev_some h
  obtain ⟨vs,h1,hl,h2⟩:=run_evs_some xs h
  exact ⟨v :: vs,fun a w G C s=>by rw[List.map_cons,RepVs];exact ⟨s.ev hv,h1 a w G C s⟩,by simp [hl],h2⟩
theorem op_makeFunc (s:Sim C G st [] a w) {o:Oper} {g:Fn} {first caps:Array Operand} (ho:o.op=.makeFunc g first caps) (h:(opM C.P o).run C.N st=some ((),st')):OpOK C o st' a w:=by
 unfold opM at h;rw[ho] at h
 simp only at h
 split at h
 ·rename_i hf
  obtain ⟨vs,h1,_,h2⟩:=run_evs_some _ h
  have hr:=h1 a w G C s
  refine OpOK.of_out s (u:=.func g #[] (caps.map a.eval)) ?_ ?_ h2
  ·unfold execOp;rw[ho];refine exec_v ?_
   have:first=#[]:=by simpa using hf
   subst this
   simp [Instr.makeFunc]
  ·rw[RepV]
   exact ⟨_,rfl,by simpa using hr⟩
 ·cases h
theorem op_len (s:Sim C G st [] a w) {o:Oper} {c:Call} {x:Operand} (ho:o.op=.call c) (hc:c.callee=.builtin .len) (hx:c.args.toList=[x])
  (h:(opM C.P o).run C.N st=some ((),st')):OpOK C o st' a w:=by
 unfold opM at h;rw[ho] at h
 simp only[hc,hx] at h
 have hargs:c.args=#[x]:=by
  have:=congrArg List.toArray hx
  simpa using this
 have exec:∀ (u:Value) (t:TypeId),c.argTypes[0]?=some t→(Builtin.len_ c.argTypes o.type #[a.eval x]).run C.P w=.ok u w→(execOp a.eval o).run C.P w=.ok (.value u) w:=by
  intro u t ht hr
  unfold execOp;rw[ho]
  simp [go_sem,hc,hargs] at hr ⊢
  rw[hr]
  rfl
 split at h
 ·rename_i ht
  obtain ⟨t,ht1,ht2⟩:=Option.bind_eq_some_iff.1 ht
  obtain ⟨v,hv,h⟩:=run_ev_some h
  have he:=s.ev hv
  split at h
  ·rename_i str _
   have e1:=RepV_v he
   refine OpOK.of_out s (exec _ t ht1 ?_) (RepV_mk _) h
   rw[e1]
   simp [Builtin.len_,ht1,r_und ht2,goInt]
  ·cases h
 ·rename_i e ht
  obtain ⟨t,ht1,ht2⟩:=Option.bind_eq_some_iff.1 ht
  obtain ⟨v,hv,h⟩:=run_ev_some h
  have he:=s.ev hv
  split at h
  ·rename_i f es _
   rw[RepV,RepC] at he
   obtain ⟨ad,cap,e1,_⟩:=he
   refine OpOK.of_out s (exec _ t ht1 ?_) (RepV_mk _) h
   rw[e1]
   simp [Builtin.len_,ht1,r_und ht2,goInt]
  ·rename_i n p lo hi _
   rw[RepV] at he
   obtain ⟨es,r,ad,cap,h1,h3,h4,_,a',e1,h5⟩:=he
   refine OpOK.of_out s (exec _ t ht1 ?_) (RepV_mk _) h
   rw[e1]
   simp [Builtin.len_,ht1,r_und ht2,goInt]
  ·cases h
 ·cases h
theorem rowAt_elem:∀ (p:List Nat) {cs r:List T} {es:List (List T)} {e:List T} {i:Nat},rowAt cs p=some (.sl .own es :: r)→es[i]?=some e→rowAt cs (p++[i,0])=some e
 |[],_,_,_,_,_,h,_=>by simp [rowAt] at h
 |[c],cs,r,es,e,i,h,he=>by
  simp only[rowAt,Option.some.injEq] at h
  simp [rowAt,h,he]
 |[c,j],_,_,_,_,_,h,_=>by
  simp only[rowAt] at h
  split at h
  ·split at h
   ·cases h
   ·cases h
  ·cases h
 |c :: j :: d :: rest,cs,r,es,e,i,h,he=>by
  simp only[rowAt,List.cons_append] at h ⊢
  split at h
  ·split at h
   ·exact rowAt_elem (d :: rest) h he
   ·cases h
  ·cases h
theorem offOf_elem:∀ (p:List Nat) {cs r:List T} {es:List (List T)} {e:List T} {i off:Nat},rowAt cs p=some (.sl .own es :: r)→es[i]?=some e→offOf cs off (p++[i,0])=i * e.length
 |[],_,_,_,_,_,_,h,_=>by simp [rowAt] at h
 |[c],cs,r,es,e,i,off,h,he=>by
  simp only[rowAt,Option.some.injEq] at h
  simp [offOf,h,he]
 |[c,j],_,_,_,_,_,_,h,_=>by
  simp only[rowAt] at h
  split at h
  ·split at h
   ·cases h
   ·cases h
  ·cases h
 |c :: j :: d :: rest,cs,r,es,e,i,off,h,he=>by
  simp only[rowAt,List.cons_append] at h ⊢
  split at h
  ·rename_i hdr
   split at h
   ·rename_i e0 he0
    simp only[offOf,hdr,he0]
    exact offOf_elem (d :: rest) h he
   ·cases h
  ·cases h
theorem hdOf_elem:∀ (p:List Nat) {cs r:List T} {i:Nat},rowAt cs p=some r→hdOf (p++[i,0])=p
 |[],_,_,_,h=>by simp [rowAt] at h
 |[c],_,_,_,_=>rfl
 |[c,j],_,_,_,h=>by
  simp only[rowAt] at h
  split at h
  ·split at h
   ·cases h
   ·cases h
  ·cases h
 |c :: j :: d :: rest,cs,r,i,h=>by
  simp only[rowAt] at h
  split at h
  ·split at h
   ·have:=hdOf_elem (d :: rest) (i:=i) h
    have h2:∃ x xs,rest++[i,0]=x :: xs:=by cases rest<;>exact ⟨_,_,rfl⟩
    obtain ⟨x,xs,hx⟩:=h2
    simp only[List.cons_append,hx] at this ⊢
    simp only[hdOf]
    rw[this]
   ·cases h
  ·cases h
theorem op_max (s:Sim C G st [] a w) {o:Oper} {c:Call} {x y:Operand} (ho:o.op=.call c) (hc:c.callee=.builtin .max) (hx:c.args.toList=[x,y])
  (h:(opM C.P o).run C.N st=some ((),st')):OpOK C o st' a w:=by
 unfold opM at h;rw[ho] at h
 simp only[hc,hx] at h
 have hargs:c.args=#[x,y]:=by
  have:=congrArg List.toArray hx
  simpa using this
 obtain ⟨v,hv,h⟩:=run_ev_some h
 obtain ⟨v2,hv2,h⟩:=run_ev_some h
 have he:=s.ev hv
 have he2:=s.ev hv2
 split at h
 ·rename_i m n _
  have e1:=RepV_v he;have e2:=RepV_v he2
  refine OpOK.of_out s (u:=.int .i64 (if n > m then n else m)) ?_ (RepV_mk _) h
  unfold execOp;rw[ho]
  have hr:(Builtin.max_ c.argTypes o.type #[a.eval x,a.eval y]).run C.P w=.ok (.int .i64 (if n > m then n else m)) w:=by
   rw[e1,e2];simp [Builtin.max_,Builtin.max2]
  simp [go_sem,hc,hargs] at hr ⊢
  rw[hr]
  rfl
 ·cases h
theorem op_field (s:Sim C G st [] a w) {o:Oper} {t:TypeId} {x:Operand} {f:Nat} (ho:o.op=.field t x f) (h:(opM C.P o).run C.N st=some ((),st')):OpOK C o st' a w:=by
 unfold opM at h;rw[ho] at h
 simp only at h
 split at h
 ·rename_i fl hfl
  obtain ⟨v,hv,h⟩:=run_ev_some h
  have he:=s.ev hv
  have hstr:∃ fs,C.P.underlying t=some (.struct fs)∧fs[f]?=some fl:=by
   unfold fieldAt at hfl
   split at hfl
   ·rename_i fs hu;exact ⟨fs,hu,hfl⟩
   ·cases hfl
  obtain ⟨fs,hu,hf⟩:=hstr
  split at h
  ·rename_i xs _
   rw[RepV] at he
   obtain ⟨us,e1,hr⟩:=he
   have hlen:=hr.length
   split at h
   ·rename_i hag
    obtain ⟨d,hd⟩:=und_of_isAgg hag
    obtain ⟨i,hi,hsz⟩:=info_of_und hd
    split at h
    ·rename_i hle
     refine OpOK.of_out s (u:=.agg (us.extract fl.offset (fl.offset+C.P.cellsOf fl.type))) ?_ ?_ h
     ·unfold execOp;rw[ho];refine exec_v ?_;rw[e1,hsz]
      simp [Instr.field,r_und hu,hf,asAgg,part,r_isAgg hag,r_size hi]
     ·rw[RepV]
      refine ⟨_,rfl,RepVs.of_get ?_ fun j v u h1 h2=>?_⟩
      ·simp at hlen ⊢;omega
      ·rw[List.getElem?_take] at h1
       split at h1
       ·rename_i hj
        rw[List.getElem?_drop] at h1
        obtain ⟨u',k1,k2⟩:=hr.get _ _ h1
        simp [hj] at h2 k1
        rw[k1] at h2
        cases h2
        exact k2
       ·cases h1
    ·cases h
   ·rename_i hag
    split at h
    ·rename_i y hy
     obtain ⟨u',k1,k2⟩:=hr.get _ _ hy
     refine OpOK.of_out s (u:=u') ?_ k2 h
     unfold execOp;rw[ho];refine exec_v ?_;rw[e1]
     have k1':us[fl.offset]?=some u':=by simpa using k1
     simp [Instr.field,r_und hu,hf,asAgg,part,r_isAgg hag,k1']
    ·cases h
   ·cases h
  ·cases h
 ·cases h
theorem op_indexAddr (s:Sim C G st [] a w) {o:Oper} {t:TypeId} {x i:Operand} (ho:o.op=.indexAddr t x i) (h:(opM C.P o).run C.N st=some ((),st')):OpOK C o st' a w:=by
 unfold opM at h;rw[ho] at h
 simp only at h
 split at h
 ·rename_i el hu
  obtain ⟨v,hv,h⟩:=run_ev_some h
  obtain ⟨v2,hv2,h⟩:=run_ev_some h
  have he:=s.ev hv
  have he2:=s.ev hv2
  split at h
  ·rename_i f es k _
   have e2:=RepV_v he2
   split at h
   ·rename_i hk
    split at h
    ·rename_i e hee
     split at h
     ·cases h
     ·rename_i hfo
      obtain ⟨hf,hel⟩:f≠.own∧e.length=C.P.cellsOf el:=by
       constructor
       ·exact fun hh=>hfo (.inl hh)
       ·by_cases hh:e.length=C.P.cellsOf el
        ·exact hh
        ·exact absurd (.inr hh) hfo
      rw[RepV,RepC] at he
      obtain ⟨ad,cap,e1,h1,h2,h3⟩:=he
      rcases h3 with ⟨hn,_⟩ | ⟨b,off,cs,ty,fr,wd,ha,hwd,hh,hsz,hes,hown,hz,hr⟩
      ·subst hn;simp at hee
      subst ha
      have hwe:e.length=wd:=hes e (List.mem_of_getElem? hee)
      obtain ⟨inf,hinf,hisz⟩:=info_of_cells (P:=C.P) (t:=el) (by omega)
      have hlt:k.toNat<es.length:=(List.getElem?_eq_some_iff.1 hee).1
      refine OpOK.of_out s (u:=.pointer (some ⟨b,off+k.toNat * wd,none⟩)) ?_ ?_ h
      ·unfold execOp;rw[ho];refine exec_v ?_;rw[e1,e2]
       have hk2:k<(es.length:Int):=by omega
       simp [Instr.indexAt,asIntOf,r_und hu,hk,hk2,r_size hinf,← hisz,← hel,hwe,add_off]
      ·rw[RepV]
       have hrow:=RepLL.get hes hr _ e hee
       rw[List.drop_drop] at hrow
       refine ⟨f,b,_,cs,ty,fr,rfl,hh,hz hf,?_⟩
       have e3:f.labs noLab=noLab:=by cases f<;>rfl
       rw[e3] at hrow
       exact hrow.any
    ·cases h
   ·cases h
  ·rename_i n p lo hi k _
   have e2:=RepV_v he2
   simp only[M.run] at h
   split at h
   ·rename_i es r hrow
    split at h
    ·rename_i e hee
     split at h
     ·rename_i hcond
      obtain ⟨hk0,hk1,hel⟩:=hcond
      rw[RepV] at he
      obtain ⟨es',r',ad,cap,h2,h3,h4,hhd,a',e1,h5⟩:=he
      rw[hrow] at h2
      cases h2
      have ha':=h5 (.inl (by omega))
      obtain ⟨_,_,hhd⟩:=hhd
      rcases hhd with ⟨hn,_⟩ | ⟨b,cs,ty,wd,ha,hwd,hL,hh,hcap,hes⟩
      ·subst hn;simp at hee
      subst ha
      have hwe:e.length=wd:=hes e (List.mem_of_getElem? hee)
      obtain ⟨inf,hinf,hisz⟩:=info_of_cells (P:=C.P) (t:=el) (by omega)
      have hshift:a'=some ⟨b,lo * wd,none⟩:=by
       rw[ha']
       cases es with
       |nil=>simp at hee
       |cons e0 es0=>
        have:e0.length=wd:=hes e0 (by simp)
        simp [shift,this,add_off]
      refine OpOK.of_out s (u:=.pointer (some ⟨b,(lo+k.toNat) * wd,none⟩)) ?_ ?_ h
      ·unfold execOp;rw[ho];refine exec_v ?_;rw[e1,e2,hshift]
       have hk2:k<((hi-lo:Nat):Int):=by omega
       have hm:lo * wd+k.toNat * wd=(lo+k.toNat) * wd:=by rw[Nat.add_mul]
       simp [Instr.indexAt,asIntOf,r_und hu,hk0,hk2,r_size hinf,← hisz,← hel,hwe,add_off,hm]
      ·rw[RepV]
       have hrow2:=rowAt_elem p hrow hee
       refine ⟨b,e,by rw[offOf_elem p hrow hee,hwe],hrow2,by rw[hdOf_elem p hrow];exact hL,fun h=>?_⟩
       simp at h
     ·cases h
    ·cases h
   ·cases h
  ·cases h
 ·cases h
end
end TM
namespace TM
open Go
def Like (y y':T):Prop:=y=y'∨∃ es es',y=.sl .own es∧y'=.sl .own es'∧es.map List.length=es'.map List.length
theorem setAt_some {cs cs':List T} {x:T}:∀ {c i:Nat} {rest:List Nat},setAt cs (c :: i :: rest) x=some cs' →
  ∃ es r e e',cs.drop c=.sl .own es :: r∧es[i]?=some e∧setAt e rest x=some e'∧cs'=cs.set c (.sl .own (es.set i e')):=by
 intro c i rest h
 simp only[setAt] at h
 split at h
 ·rename_i es r hdr
  split at h
  ·rename_i e he
   split at h
   ·rename_i e' he'
    exact ⟨es,r,e,e',hdr,he,he',(Option.some.inj h).symm⟩
   ·cases h
  ·cases h
 ·cases h
theorem rowAt_some {cs row:List T}:∀ {c i:Nat} {rest:List Nat},rowAt cs (c :: i :: rest)=some row→∃ es r e,cs.drop c=.sl .own es :: r∧es[i]?=some e∧rowAt e rest=some row:=by
 intro c i rest h
 simp only[rowAt] at h
 split at h
 ·rename_i es r hdr
  split at h
  ·rename_i e he
   exact ⟨es,r,e,hdr,he,h⟩
  ·cases h
 ·cases h
theorem rowAt_mk {cs row:List T} {c i:Nat} {rest:List Nat} {es:List (List T)} {e:List T} (h:cs[c]?=some (.sl .own es)) (he:es[i]?=some e) (hr:rowAt e rest=some row) :
  rowAt cs (c :: i :: rest)=some row:=by
 simp only[rowAt,head_drop h,he];exact hr
theorem map_length_set {es:List (List T)} {i:Nat} {e e':List T} (he:es[i]?=some e) (hl:e'.length=e.length):(es.set i e').map List.length=es.map List.length:=by
 rw[List.map_set,hl]
 apply List.ext_getElem?
 intro j
 rw[List.getElem?_set]
 split
 ·rename_i hij
  subst hij
  obtain ⟨hlt,hx⟩:=List.getElem?_eq_some_iff.1 he
  simp [hlt,hx]
 ·rfl
theorem rowAt_set:∀ (q p:List Nat) {cs cs' row:List T} {x:T} {off:Nat},setAt cs p x=some cs'→rowAt cs q=some row→¬ (p <+: q∧p.length<q.length) →
  ∃ row',rowAt cs' q=some row'∧offOf cs' off q=offOf cs off q∧row'.length=row.length∧(¬ p <+: q→∀ y r,row=y :: r→∃ y' r',row'=y' :: r'∧Like y y')
 |[],_,_,_,_,_,_,_,h,_=>by simp [rowAt] at h
 |[c],[],_,_,_,_,_,h,_,_=>by simp [setAt] at h
 |[c],[d],cs,cs',row,x,off,hs,h,_=>by
  obtain ⟨hd,rfl⟩:=setAt_lt hs
  simp only[rowAt,Option.some.injEq] at h
  subst h
  refine ⟨(cs.set d x).drop c,rfl,rfl,by simp,fun hnp y r hy=>?_⟩
  have hdc:d≠c:=fun e=>hnp (by rw[e];exact List.prefix_refl _)
  have hc:=drop_head hy
  have hc':(cs.set d x)[c]?=some y:=by rw[List.getElem?_set,if_neg hdc];exact hc
  exact ⟨y,_,head_drop hc',.inl rfl⟩
 |[c],d :: i :: rest,cs,cs',row,x,off,hs,h,_=>by
  obtain ⟨es,r,e,e',hdr,he,hse,rfl⟩:=setAt_some hs
  simp only[rowAt,Option.some.injEq] at h
  subst h
  refine ⟨_,rfl,rfl,by simp,fun _ y r2 hy=>?_⟩
  have hc:=drop_head hy
  by_cases hdc:d=c
  ·subst hdc
   rw[hdr] at hy
   cases hy
   have hlt:d<cs.length:=(List.getElem?_eq_some_iff.1 hc).1
   have hc':(cs.set d (.sl .own (es.set i e')))[d]?=some (.sl .own (es.set i e')):=by simp [hlt]
   exact ⟨_,_,head_drop hc',.inr ⟨es,_,rfl,rfl,(map_length_set he (setAt_length _ hse)).symm⟩⟩
  ·have hc':(cs.set d (.sl .own (es.set i e')))[c]?=some y:=by rw[List.getElem?_set,if_neg hdc];exact hc
   exact ⟨y,_,head_drop hc',.inl rfl⟩
 |c :: i :: rest,[],_,_,_,_,_,h,_,_=>by simp [setAt] at h
 |c :: i :: rest,[d],cs,cs',row,x,off,hs,h,hn=>by
  obtain ⟨hd,rfl⟩:=setAt_lt hs
  obtain ⟨es,r,e,hdr,he,hr⟩:=rowAt_some h
  have hdc:d≠c:=fun e=>hn ⟨by rw[e];exact ⟨i :: rest,rfl⟩,by simp⟩
  have hc:=drop_head hdr
  have hc':(cs.set d x)[c]?=some (.sl .own es):=by rw[List.getElem?_set,if_neg hdc];exact hc
  refine ⟨row,rowAt_mk hc' he hr,?_,rfl,fun _ y r2 hy=>⟨y,r2,hy,.inl rfl⟩⟩
  simp only[offOf,hdr,head_drop hc',he]
 |c :: i :: rest,d :: j :: rest',cs,cs',row,x,off,hs,h,hn=>by
  obtain ⟨es,r,e,e',hdr,he,hse,rfl⟩:=setAt_some hs
  obtain ⟨es2,r2,e2,hdr2,he2,hr2⟩:=rowAt_some h
  have hc:=drop_head hdr2
  have hlt:c<cs.length:=(List.getElem?_eq_some_iff.1 hc).1
  by_cases hdc:d=c
  ·subst hdc
   rw[hdr] at hdr2
   cases hdr2
   have hc':(cs.set d (.sl .own (es.set j e')))[d]?=some (.sl .own (es.set j e')):=by simp [hlt]
   by_cases hji:j=i
   ·subst hji
    rw[he] at he2
    cases he2
    have hjl:j<es.length:=(List.getElem?_eq_some_iff.1 he).1
    have hg:(es.set j e')[j]?=some e':=by simp [hjl]
    obtain ⟨row',k1,k2,k3,k4⟩:=rowAt_set rest rest' (off:=j * e.length) hse hr2 (fun hh=>hn ⟨List.cons_prefix_cons.2 ⟨rfl,List.cons_prefix_cons.2 ⟨rfl,hh.1⟩⟩,by simpa using hh.2⟩)
    refine ⟨row',rowAt_mk hc' hg k1,?_,k3,fun hnp=>k4 fun hh=>hnp (List.cons_prefix_cons.2 ⟨rfl,List.cons_prefix_cons.2 ⟨rfl,hh⟩⟩)⟩
    simp only[offOf,hdr,head_drop hc',hg,he]
    rw[setAt_length _ hse]
    exact k2
   ·have hg:(es.set j e')[i]?=some e2:=by rw[List.getElem?_set,if_neg hji];exact he2
    refine ⟨row,rowAt_mk hc' hg hr2,?_,rfl,fun _ y r3 hy=>⟨y,r3,hy,.inl rfl⟩⟩
    simp only[offOf,hdr,head_drop hc',hg,he2]
  ·have hc':(cs.set d (.sl .own (es.set j e')))[c]?=some (.sl .own es2):=by rw[List.getElem?_set,if_neg hdc];exact hc
   refine ⟨row,rowAt_mk hc' he2 hr2,?_,rfl,fun _ y r3 hy=>⟨y,r3,hy,.inl rfl⟩⟩
   simp only[offOf,hdr2,head_drop hc',he2]
theorem rowAt_self:∀ (p:List Nat) {cs cs' row:List T} {x y:T},setAt cs p x=some cs'→rowAt cs p=some (y :: row)→∃ r,rowAt cs' p=some (x :: r)
 |[],_,_,_,_,_,h,_=>by simp [setAt] at h
 |[c],cs,cs',row,x,y,hs,h=>by
  obtain ⟨hd,rfl⟩:=setAt_lt hs
  have:(cs.set c x)[c]?=some x:=by simp [hd]
  exact ⟨(cs.set c x).drop (c+1),by simp only[rowAt,head_drop this]⟩
 |c :: i :: rest,cs,cs',row,x,y,hs,h=>by
  obtain ⟨es,r,e,e',hdr,he,hse,rfl⟩:=setAt_some hs
  obtain ⟨es2,r2,e2,hdr2,he2,hr2⟩:=rowAt_some h
  rw[hdr] at hdr2
  cases hdr2
  rw[he] at he2
  cases he2
  obtain ⟨r3,k⟩:=rowAt_self rest hse hr2
  have hlt:c<cs.length:=(List.getElem?_eq_some_iff.1 (drop_head hdr)).1
  have hjl:i<es.length:=(List.getElem?_eq_some_iff.1 he).1
  exact ⟨r3,rowAt_mk (es:=es.set i e') (e:=e') (by simp [hlt]) (by simp [hjl]) k⟩
theorem rowAt_through:∀ (p:List Nat) {q:List Nat} {cs row row':List T} {x:T},rowAt cs p=some (x :: row)→rowAt cs q=some row'→p <+: q→p.length<q.length→∃ es,x=.sl .own es
 |[],_,_,_,_,_,h,_,_,_=>by simp [rowAt] at h
 |[c],q,cs,row,row',x,h,hq,⟨t,ht⟩,hl=>by
  subst ht
  simp only[rowAt,Option.some.injEq] at h
  match t with
  |[]=>simp at hl
  |[i]=>
   simp only[List.cons_append,List.nil_append,rowAt] at hq
   split at hq
   ·split at hq
    ·cases hq
    ·cases hq
   ·cases hq
  |i :: d :: r=>
   obtain ⟨es,r2,e,hdr,_⟩:=rowAt_some (c:=c) (i:=i) (rest:=d :: r) hq
   rw[h] at hdr
   cases hdr
   exact ⟨es,rfl⟩
 |c :: i :: rest,q,cs,row,row',x,h,hq,⟨t,ht⟩,hl=>by
  subst ht
  obtain ⟨es,r,e,hdr,he,hr⟩:=rowAt_some h
  obtain ⟨es2,r2,e2,hdr2,he2,hr2⟩:=rowAt_some (c:=c) (i:=i) (rest:=rest++t) hq
  rw[hdr] at hdr2
  cases hdr2
  rw[he] at he2
  cases he2
  exact rowAt_through rest hr hr2 ⟨t,rfl⟩ (by simpa using hl)
def Lab.under (src l:Lab):Option (List Nat):=if l.1=src.1∧src.2 <+: l.2 then some (l.2.drop src.2.length) else none
theorem under_some {src l:Lab} {r:List Nat} (h:src.under l=some r):l=(src.1,src.2++r):=by
 unfold Lab.under at h
 split at h
 ·rename_i hc
  obtain ⟨h1,t,ht⟩:=hc
  cases h
  rw[← ht]
  simp
  exact Prod.ext h1 ht.symm
 ·cases h
theorem under_mk (src:Lab) (r:List Nat):src.under (src.1,src.2++r)=some r:=by
 unfold Lab.under
 rw[if_pos ⟨rfl,r,rfl⟩]
 simp
def relab (src dst:Lab) (L:Labs):Labs:=fun b=>match L b with
 |none=>none
 |some l=>match src.under l with
  |some r=>some (dst.1,dst.2++r)
  |none=>match dst.under l with
   |some _=>none
   |none=>some l
theorem relab_src {src dst:Lab} {L:Labs} {b:Nat} {r:List Nat} (h:L b=some (src.1,src.2++r)):relab src dst L b=some (dst.1,dst.2++r):=by
 simp only[relab,h,under_mk]
theorem relab_other {src dst:Lab} {L:Labs} {b:Nat} {l:Lab} (h:L b=some l) (h1:src.under l=none) (h2:dst.under l=none):relab src dst L b=some l:=by
 simp only[relab,h,h1,h2]
theorem relab_some {src dst:Lab} {L:Labs} {b:Nat} {l:Lab} (h:relab src dst L b=some l) :
  (∃ r,L b=some (src.1,src.2++r)∧l=(dst.1,dst.2++r))∨(L b=some l∧src.under l=none∧dst.under l=none):=by
 unfold relab at h
 split at h
 ·cases h
 ·rename_i l0 hl0
  split at h
  ·rename_i r hr
   cases h
   exact .inl ⟨r,by rw[hl0,under_some hr],rfl⟩
  ·rename_i hn
   split at h
   ·cases h
   ·rename_i hn2
    cases h
    exact .inr ⟨hl0,hn,hn2⟩
theorem relab_inj {src dst:Lab} {L:Labs} (hi:∀ b b' l,L b=some l→L b'=some l→b=b'):∀ b b' l,relab src dst L b=some l→relab src dst L b'=some l→b=b':=by
 intro b b' l h h'
 rcases relab_some h with ⟨r,h1,rfl⟩ | ⟨h1,h2,h3⟩
 ·rcases relab_some h' with ⟨r',k1,k2⟩ | ⟨k1,k2,k3⟩
  ·have:r=r':=by
    have:=congrArg Prod.snd k2
    simpa using this
   subst this
   exact hi b b' _ h1 k1
  ·rw[under_mk] at k3;cases k3
 ·rcases relab_some h' with ⟨r',k1,rfl⟩ | ⟨k1,k2,k3⟩
  ·rw[under_mk] at h3;cases h3
  ·exact hi b b' _ h1 k1
theorem relab_none {src dst:Lab} {L:Labs} {b:Nat} (h:L b=none):relab src dst L b=none:=by
 simp only[relab,h]
end TM
namespace TM
open Go
theorem hdOf_prefix:∀ (q:List Nat),hdOf q <+: q∧(q≠[]→(hdOf q).length<q.length)
 |[]=>⟨List.prefix_refl _,fun h=>absurd rfl h⟩
 |[_]=>⟨⟨_,rfl⟩,fun _=>by simp [hdOf]⟩
 |[c,i]=>⟨⟨[i],rfl⟩,fun _=>by simp [hdOf]⟩
 |[c,i,d]=>⟨⟨[i,d],rfl⟩,fun _=>by simp [hdOf]⟩
 |c :: i :: d :: e :: r=>by
  obtain ⟨h1,h2⟩:=hdOf_prefix (d :: e :: r)
  refine ⟨List.cons_prefix_cons.2 ⟨rfl,List.cons_prefix_cons.2 ⟨rfl,h1⟩⟩,fun _=>?_⟩
  have:=h2 (by simp)
  simpa [hdOf] using this
theorem not_under_root {r r':Root} {p q:List Nat} (h:r'≠r):(Lab.under (r,p) (r',q))=none:=by
 unfold Lab.under
 rw[if_neg (fun hh=>h hh.1)]
section
variable {C:Ctx} {G G':Gh} {st st':St} {hs:List (T×Value)} {a:Act} {w w':World} {bx bx':Nm→Box}
theorem RepV.kill (k:Keeps C G G' w w') (n:Nm) (p:List Nat)
  (hr:∀ m q lo hi v,¬ (m=n∧p.isPrefixOf q=true)→RepV C G w bx (.ref m q lo hi) v→RepV C G' w' bx' (.ref m q lo hi) v)
  (ha:∀ m q v,¬ (m=n∧p.isPrefixOf q=true∧p.length<q.length)→RepV C G w bx (.addr m q) v→RepV C G' w' bx' (.addr m q) v) :
  ∀ (x:LV) {u:Value},RepV C G w bx x u→RepV C G' w' bx' (killV n p x) u:=by
 suffices H:(∀ (x:LV) {u:Value},RepV C G w bx x u→RepV C G' w' bx' (killV n p x) u)∧True from H.1
 refine ⟨?_,trivial⟩
 intro x
 induction x using LV.rec (motive_2:=fun xs=>∀ us,RepVs C G w bx xs us→RepVs C G' w' bx' (killVs n p xs) us) with
 |t x=>intro u h;rw[killV,RepV] at *;exact h.keeps k
 |ref m q lo hi=>
  intro u h
  rw[killV]
  split
  ·rw[RepV];trivial
  ·rename_i hn;exact hr m q lo hi u hn h
 |addr m q=>
  intro u h
  rw[killV]
  split
  ·rw[RepV];trivial
  ·rename_i hn;exact ha m q u hn h
 |raddr cs=>
  intro u h
  rw[killV]
  rw[RepV] at *
  obtain ⟨f,b,off,vs,ty,fr,h1,h2,h3,h4⟩:=h
  exact ⟨f,b,off,vs,ty,fr,h1,(k.Z f b h3).2.trans h2,(k.Z f b h3).1,RepL.move k.Z cs noLab_under h4⟩
 |agg xs ih=>
  intro u h
  rw[killV]
  rw[RepV] at *
  obtain ⟨us,h1,h2⟩:=h
  exact ⟨us,h1,ih _ h2⟩
 |tup xs ih=>
  intro u h
  rw[killV]
  rw[RepV] at *
  obtain ⟨us,h1,h2⟩:=h
  exact ⟨us,h1,ih _ h2⟩
 |fn g xs ih=>
  intro u h
  rw[killV]
  rw[RepV] at *
  obtain ⟨us,h1,h2⟩:=h
  exact ⟨us,h1,ih _ h2⟩
 |va xs ih=>
  intro u h
  rw[killV]
  rw[RepV] at *
  obtain ⟨b,off,vs,ty,fr,h1,h2,h3,h4⟩:=h
  exact ⟨b,off,vs,ty,fr,h1,(k.Z .nw b h3).2.trans h2,(k.Z .nw b h3).1,ih _ h4⟩
 |dead=>intro u _;rw[killV,RepV];trivial
 |nil=>rename_i us h;rw[killVs];rw[RepVs] at *;exact h
 |cons x xs ihx ihxs=>
  rename_i us h
  match us with
  |[]=>rw[RepVs] at h;exact h.elim
  |u :: us=>
   rw[RepVs] at h
   rw[killVs,RepVs]
   exact ⟨ihx h.1,ihxs us h.2⟩
theorem Hdr.like {L L':Labs} {l:Lab} {es es':List (List T)} {ad:Option Addr} {cap:Nat} (h:Hdr L w l es ad cap) (hl:es.map List.length=es'.map List.length)
  (hk:∀ b,L b=some l→L' b=some l∧∀ cs ty,w.heap[b]?=some (.cells cs ty (0,0))→∃ cs',w'.heap[b]?=some (.cells cs' ty (0,0))∧cs'.size=cs.size):Hdr L' w' l es' ad cap:=by
 obtain ⟨h1,h2,h3⟩:=h
 have hlen:es'.length=es.length:=by
  have:=congrArg List.length hl
  simpa using this.symm
 refine ⟨by omega,h2,?_⟩
 rcases h3 with ⟨hn,hc⟩ | ⟨b,cs,ty,wd,ha,hwd,hL,hh,hcap,hes⟩
 ·exact .inl ⟨by subst hn;exact List.length_eq_zero_iff.1 (by simpa using hlen),hc⟩
 ·obtain ⟨k1,k2⟩:=hk b hL
  obtain ⟨cs',k3,k4⟩:=k2 cs ty hh
  refine .inr ⟨b,cs',ty,wd,ha,⟨hwd.1,fun h=>hwd.2 (List.length_eq_zero_iff.1 (by rw[← hlen,h];rfl))⟩,k1,k3,by rw[k4];exact hcap,fun e he=>?_⟩
  have:e.length∈es'.map List.length:=List.mem_map_of_mem he
  rw[← hl] at this
  obtain ⟨e0,he0,hee⟩:=List.mem_map.1 this
  rw[← hee]
  exact hes e0 he0
theorem shift_like {es es':List (List T)} (hl:es.map List.length=es'.map List.length) (ad:Option Addr) (lo:Nat):shift ad lo es'=shift ad lo es:=by
 cases es with
 |nil=>
  cases es' with
  |nil=>rfl
  |cons e es'=>simp at hl
 |cons e es=>
  cases es' with
  |nil=>simp at hl
  |cons e' es'=>
   simp at hl
   simp [shift,hl.1]
theorem Sim.newBox (s:Sim C G st hs a w) (D:Nm) (hD:D.2≠1) (x:Box) (us:List Value) (b':Nat) (L':Labs)
  (hinj:∀ b b' l,L' b=some l→L' b'=some l→b=b')
  (hlab:∀ b l,L' b=some l→b<w'.heap.size∧(C.w0.heap.size≤b∨C.F0 b))
  (hkeep:∀ m,m≠D→∀ b r,G.L b=some (.box m,r)→L' b=some (.box m,r)∧w'.heap[b]?=w.heap[b]?)
  (hzone:∀ b,C.Zf b∨G.Zn b→L' b=none∧w'.heap[b]?=w.heap[b]?)
  (hold:∀ b,b<C.w0.heap.size→¬ C.F0 b→w'.heap[b]?=w.heap[b]?) (hsize:w.heap.size≤w'.heap.size)
  (hrest:w'.os=w.os∧w'.tape=w.tape∧w'.output=w.output)
  (hbox:RepL (C.Z G) w' L' (.box D,[]) 0 x.cells us) (hlen:us.length=x.cells.length)
  (hreal:x.real=true→L' b'=some (.box D,[])∧∃ ty,w'.heap[b']?=some (.cells us.toArray ty (0,0))) :
  Sim C ⟨L',G.Zn,fun m=>if m=D then b' else G.blk m,fun m=>if m=D then us else G.vals m⟩ ⟨fun u=>killV D [] (st.s u),fun m=>if m=D then x else st.b m⟩ [] a w':=by
 have k:Keeps C G ⟨L',G.Zn,fun m=>if m=D then b' else G.blk m,fun m=>if m=D then us else G.vals m⟩ w w':=⟨fun _ h=>h,fun b h=>(hzone b h).2⟩
 refine ⟨hinj,hlab,fun b h=>⟨(hzone b h).1,Nat.lt_of_lt_of_le (s.zone b h).2 hsize⟩,s.fresh,s.zin,fun b h1 h2=>(hold b h1 h2).trans (s.old b h1 h2),Nat.le_trans s.size hsize,⟨hrest.1.trans s.rest.1,hrest.2.1.trans s.rest.2.1,hrest.2.2.trans s.rest.2.2⟩,?_,fun j x u h=>by simp at h,?_,?_,s.len,s.dfr⟩
 ·intro m
  by_cases hm:m=D
  ·subst hm
   simp only[if_true]
   exact ⟨hbox,hlen,hreal⟩
  ·simp only[hm,if_false]
   obtain ⟨h1,h2,h3⟩:=s.box m
   refine ⟨RepL.move k.Z _ (fun b r hb=>by simpa using hkeep m hm b r (by simpa using hb)) h1,h2,fun hr=>?_⟩
   obtain ⟨h4,ty,h5⟩:=h3 hr
   obtain ⟨h6,h7⟩:=hkeep m hm _ _ h4
   exact ⟨h6,ty,h7.trans h5⟩
 ·intro t
  refine RepV.kill k D [] (fun m q lo hi v hn h=>?_) (fun m q v hn h=>?_) _ (s.slot t)
  ·have hm:m≠D:=fun e=>hn ⟨e,by simp⟩
   rw[RepV] at *
   obtain ⟨es,r,ad,cap,h1,h2,h3,h4,h5⟩:=h
   refine ⟨es,r,ad,cap,by simp only[hm,if_false];exact h1,h2,h3,?_,h5⟩
   refine h4.like rfl fun b hb=>?_
   obtain ⟨k1,k2⟩:=hkeep m hm b q hb
   exact ⟨k1,fun cs ty hh=>⟨cs,k2.trans hh,rfl⟩⟩
  ·have hm:m≠D:=fun e=>by
    apply hn
    refine ⟨e,by simp,?_⟩
    rw[RepV] at h
    obtain ⟨b,row,_,h1,_⟩:=h
    exact List.length_pos_iff.2 (rowAt_ne h1)
   rw[RepV] at *
   obtain ⟨b,row,h0,h1,h2,h3⟩:=h
   refine ⟨b,row,by simp only[hm,if_false];exact h0,by simp only[hm,if_false];exact h1,(hkeep m hm b _ h2).1,by simp only[hm,if_false];exact h3⟩
 ·intro i
  have hi:((i,1):Nm)≠D:=fun e=>hD (by rw[← e])
  simp only[hi,if_false]
  exact s.ino i
theorem set_same {α:Type} {l:List α} {i:Nat} {x:α} (h:l[i]?=some x):l.set i x=l:=by
 apply List.ext_getElem?
 intro j
 rw[List.getElem?_set]
 split
 ·rename_i hij
  subst hij
  rw[h]
  simp [(List.getElem?_eq_some_iff.1 h).1]
 ·rfl
theorem RepL.hole {Z:Fl→Nat→Prop} {L L':Labs} {p:List Nat} {l:Lab} {cs cs' _row:List T} {us urow:List Value} {blk bt:Option Nat} {off ot:Nat} {x:T} {u:Value}
  (hr:RepL Z w L l 0 cs us) (hs:setAt cs p x=some cs') (hl:loc w cs us blk off p=some (u :: urow,bt,ot))
  (hb:∀ b,blk=some b→∃ k,k≤l.2.length∧L b=some (l.1,l.2.take k))
  (hbt:∀ b,bt=some b→∃ vs ty,w.heap[b]?=some (.cells vs ty (0,0))∧u :: urow=vs.toList.drop ot)
  (hL:∀ b q,L b=some (l.1,l.2++q)→¬ p <+: q→L' b=some (l.1,l.2++q)) (hx:RepC Z w L' (l.1,l.2++p) x u):RepL Z w L' l 0 cs' us:=by
 have:=RepL.store (w':=w) (Z':=Z) (x:=x) (u':=u) (fun f b h=>⟨h,rfl⟩) bt ot (fun _ _=>rfl) (fun b e=>by
  obtain ⟨vs,ty,h1,h2⟩:=hbt b e
  refine ⟨vs,ty,h1,?_⟩
  have hvo:vs.toList[ot]?=some u:=by
   have:=congrArg (fun l=>l[0]?) h2.symm
   simpa using this
  have:vs.setIfInBounds ot u=vs:=by
   apply Array.ext'
   rw[Array.toList_setIfInBounds]
   exact set_same hvo
  rw[this];exact h1) p hr hs hl hb hL hx
 split at this
 ·rename_i h1
  have e:us.set (lastOf p) u=us:=by
   match p,h1,hl with
   |[c],_,hl=>
    simp only[loc,Option.some.injEq,Prod.mk.injEq] at hl
    exact set_same (drop_head hl.1)
  rw[e] at this
  exact this
 ·exact this
theorem Sim.atBlk (s:Sim C G st hs a w) (n:Nm):∀ b,G.at st.b n=some b→∃ k,k≤([]:List Nat).length∧G.L b=some (.box n,([]:List Nat).take k):=by
 intro b hb
 unfold Gh.at at hb
 split at hb
 ·rename_i hr
  cases hb
  exact ⟨0,Nat.le_refl _,((s.box n).2.2 hr).1⟩
 ·cases hb
theorem slot_set (_s:Sim C G st hs a w) {n:Nm} {p:List Nat} {x:T} {cs':List T} {L':Labs} {vals':Nm→List Value} (hset:setAt (st.b n).cells p x=some cs')
  (hheap:∀ b q m,G.L b=some (.box m,q)→¬ (m=n∧p <+: q)→L' b=some (.box m,q)∧∀ cs ty,w.heap[b]?=some (.cells cs ty (0,0))→∃ c2,w'.heap[b]?=some (.cells c2 ty (0,0))∧c2.size=cs.size)
  (hzone:∀ b,C.Zf b∨G.Zn b→w'.heap[b]?=w.heap[b]?) :
  ∀ (y:LV) {u:Value},RepV C G w st.b y u→RepV C ⟨L',G.Zn,G.blk,vals'⟩ w' (fun m=>if m=n then ⟨(st.b n).real,cs'⟩ else st.b m) (killV n p y) u:=by
 intro y u h
 refine RepV.kill (G:=G) (w:=w) (w':=w') (bx:=st.b) (G':=⟨L',G.Zn,G.blk,vals'⟩) (bx':=fun m=>if m=n then ⟨(st.b n).real,cs'⟩ else st.b m) ⟨fun _ h=>h,hzone⟩ n p (fun m q lo hi v hn h=>?_) (fun m q v hn h=>?_) y h
 ·have hnp:¬ (m=n∧p <+: q):=fun e=>hn ⟨e.1,by simpa [List.isPrefixOf_iff_prefix] using e.2⟩
  rw[RepV] at *
  obtain ⟨es,r,ad,cap,h1,h2,h3,h4,a',h5,h6⟩:=h
  by_cases hm:m=n
  ·subst hm
   have hnq:¬ p <+: q:=fun e=>hnp ⟨rfl,e⟩
   obtain ⟨row',k1,k2,k3,k4⟩:=rowAt_set q p (off:=0) hset h1 (fun e=>hnq e.1)
   obtain ⟨y',r',e1,e2⟩:=k4 hnq _ _ rfl
   obtain ⟨es',e3,e4⟩:∃ es',y'=.sl .own es'∧es.map List.length=es'.map List.length:=by
    rcases e2 with e2 | ⟨e3,e4,e5,e6,e7⟩
    ·exact ⟨es,e2.symm,rfl⟩
    ·cases e5;exact ⟨e4,e6,e7⟩
   subst e3
   have hl:es'.length=es.length:=by
    have:=congrArg List.length e4
    simpa using this.symm
   refine ⟨es',r',ad,cap,by simp only[if_true];rw[k1,e1],h2,by omega,h4.like e4 (fun b hb=>hheap b q m hb hnp),a',h5,fun hh=>(h6 hh).trans (shift_like e4 ad lo).symm⟩
  ·exact ⟨es,r,ad,cap,by simp only[hm,if_false];exact h1,h2,h3,h4.like rfl (fun b hb=>hheap b q m hb hnp),a',h5,h6⟩
 ·rw[RepV] at *
  obtain ⟨b,row,h0,h1,h2,h3⟩:=h
  by_cases hm:m=n
  ·subst hm
   have hnq:¬ (p <+: q∧p.length<q.length):=fun e=>hn ⟨rfl,by simpa [List.isPrefixOf_iff_prefix] using e.1,e.2⟩
   obtain ⟨row',k1,k2,k3,_⟩:=rowAt_set q p (off:=0) hset h1 hnq
   have hnh:¬ (m=m∧p <+: hdOf q):=fun e=>by
    obtain ⟨g1,g2⟩:=hdOf_prefix q
    have:=g2 (rowAt_ne h1)
    exact hnq ⟨e.2.trans g1,Nat.lt_of_le_of_lt e.2.length_le this⟩
   exact ⟨b,row',by simp only[if_true];rw[k2];exact h0,by simp only[if_true];exact k1,(hheap b _ m h2 hnh).1,by simp only[if_true];exact h3⟩
  ·exact ⟨b,row,by simp only[hm,if_false];exact h0,by simp only[hm,if_false];exact h1,(hheap b _ m h2 (fun e=>hm e.1)).1,by simp only[hm,if_false];exact h3⟩
theorem Sim.takeY (s:Sim C G st hs a w) {n:Nm} {p:List Nat} {es:List (List T)} {r cs':List T} {hi:Nat} {u:Value} {y:T} (hrow:rowAt (st.b n).cells p=some (.sl .own es :: r))
  (hy:∀ hv urow blk off,loc w (st.b n).cells (G.vals n) (G.at st.b n) 0 p=some (hv :: urow,blk,off)→hv.oneCell'=true→∀ L l,RepC (C.Z G) w L l y hv)
  (hset:setAt (st.b n).cells p y=some cs') (hhi:hi=es.length∨0<hi) (hu:RepV C G w st.b (.ref n p 0 hi) u) :
  Sim C ⟨relab (.box n,p) (.held hs.length,[]) G.L,G.Zn,G.blk,G.vals⟩ ⟨fun t=>killV n p (st.s t),fun m=>if m=n then ⟨(st.b n).real,cs'⟩ else st.b m⟩ (hs++[(.sl .own (es.take hi),u)]) a w:=by
 have hp:p≠[]:=rowAt_ne hrow
 have hoth:∀ b q m,G.L b=some (.box m,q)→¬ (m=n∧p <+: q)→relab (.box n,p) (.held hs.length,[]) G.L b=some (.box m,q):=by
  intro b q m hb hn
  refine relab_other hb ?_ (not_under_root (by simp))
  unfold Lab.under
  rw[if_neg]
  rintro ⟨h1,h2⟩
  exact hn ⟨by simpa using h1,h2⟩
 obtain ⟨urow,blk,off,k1,k2,_,k4⟩:=s.place hrow
 cases hur:urow with
 |nil=>rw[hur,RepL] at k2;exact k2.elim
 |cons hv us1=>
 have e0:=pathLab_last p (l:=(.box n,[])) hrow
 rw[hur] at k1 k4
 rw[hur,RepL,e0] at k2
 have khv:=k2.1
 refine ⟨relab_inj s.inj,fun b l h=>?_,fun b h=>⟨relab_none (s.zone b h).1,(s.zone b h).2⟩,s.fresh,s.zin,s.old,s.size,s.rest,fun m=>?_,fun j x v h=>?_,fun t=>?_,fun i=>?_,s.len,s.dfr⟩
 ·rcases relab_some h with ⟨r',h1,_⟩ | ⟨h1,_,_⟩
  ·exact s.lab b _ h1
  ·exact s.lab b _ h1
 ·obtain ⟨h1,h2,h3⟩:=s.box m
  by_cases hm:m=n
  ·subst hm
   simp only[if_true]
   refine ⟨RepL.hole (_row:=r) (x:=y) h1 hset k1 (s.atBlk m) k4 (fun b q hb hnp=>hoth b q m hb (fun e=>hnp e.2)) (hy _ _ _ _ k1 khv.one _ _),by rw[h2,setAt_length p hset],fun hre=>?_⟩
   obtain ⟨h4,h5⟩:=h3 hre
   exact ⟨hoth _ _ _ h4 (fun e=>hp (List.prefix_nil.1 e.2)),h5⟩
  ·simp only[hm,if_false]
   refine ⟨RepL.move (fun f b hz=>⟨hz,rfl⟩) _ (fun b q hb=>⟨hoth b _ m hb (fun e=>hm e.1),rfl⟩) h1,h2,fun hre=>?_⟩
   obtain ⟨h4,h5⟩:=h3 hre
   exact ⟨hoth _ _ _ h4 (fun e=>hm e.1),h5⟩
 ·rw[List.getElem?_append] at h
  split at h
  ·rename_i hj
   refine RepC.move (fun f b hz=>⟨hz,rfl⟩) x (fun b q hb=>⟨relab_other hb (not_under_root (by simp)) ?_,rfl⟩) (s.held j x v h)
   exact not_under_root (by simp;omega)
  ·rename_i hj
   have hj0:j-hs.length=0:=by
    rcases Nat.eq_zero_or_pos (j-hs.length) with h0 | h0
    ·exact h0
    ·rw[List.getElem?_eq_none (by simp;omega)] at h;cases h
   rw[hj0] at h
   simp at h
   obtain ⟨rfl,rfl⟩:=h
   have hjl:j=hs.length:=by omega
   subst hjl
   rw[RepV] at hu
   obtain ⟨es2,r2,ad,cap,g1,g2,g3,g4,a',g5,g6⟩:=hu
   rw[hrow] at g1
   cases g1
   have ha':=g6 (.inr rfl)
   rw[shift_zero] at ha'
   rw[ha'] at g5
   obtain ⟨q1,q2,q3⟩:=g4
   rw[RepC]
   refine ⟨ad,cap,by rw[g5];simp [Nat.min_eq_left g3],by simp;omega,q2,?_⟩
   rcases q3 with ⟨hn,hc⟩ | ⟨b,vs,ty,wd,ha,hwd,hL,hh,hcap,hes⟩
   ·exact .inl ⟨by rw[hn];simp,fun _=>hc⟩
   ·by_cases hnil:es.take hi=[]
    ·have hes0:es=[]:=by
      rcases List.take_eq_nil_iff.1 hnil with h | h
      ·rcases hhi with h' | h'
       ·exact List.length_eq_zero_iff.1 (by omega)
       ·omega
      ·exact h
     exact (hwd.2 hes0).elim
    refine .inr ⟨b,0,vs,ty,(0,0),wd,ha,⟨hwd.1,fun _=>hnil⟩,hh,?_,fun e he=>hes e (List.mem_of_mem_take he),fun _=>⟨relab_src (by simpa using hL),rfl,rfl,hcap⟩,fun h=>absurd rfl h,?_⟩
    ·have:(es.take hi).length * wd≤cap * wd:=Nat.mul_le_mul_right _ (by simp;omega)
     omega
    ·show RepLL _ _ (relab (.box n,p) (.held hs.length,[]) G.L) _ _ _ _
     rw[RepC] at khv
     obtain ⟨a3,cap3,z1,z2,z3,z4⟩:=khv
     rcases z4 with ⟨hn,_⟩ | ⟨b3,off3,vs3,ty3,fr3,wd3,hb3,hwd3,hh3,hsz3,hes3,ho3,hz3,hr3⟩
     ·rw[hn];simp [RepLL]
     ·obtain ⟨hL3,rfl,rfl,_⟩:=ho3 rfl
      have hbb:=s.inj _ _ _ hL3 hL
      subst hbb
      rw[hh] at hh3
      cases hh3
      refine RepLL.of_get (wd:=wd3) (fun e he=>hes3 e (List.mem_of_mem_take he)) fun j e he=>?_
      rw[List.getElem?_take] at he
      split at he
      ·have hrep:=RepLL.get hes3 hr3 j e he
       have hrep':RepL (C.Z G) w G.L (Lab.add (.box n,p) (0+j)) 0 e ((vs.toList.drop 0).drop (j * wd3)):=hrep
       refine RepL.move (fun f b hz=>⟨hz,rfl⟩) e (fun b q hb=>⟨?_,rfl⟩) hrep'
       have:=relab_src (src:=(.box n,p)) (dst:=(.held hs.length,[])) (L:=G.L) (b:=b) (r:=(0+j) :: q) (by simpa [Lab.add] using hb)
       simpa [Lab.add] using this
      ·cases he
 ·exact slot_set s hset (fun b q m hb hn=>⟨hoth b q m hb hn,fun cs ty hh=>⟨cs,hh,rfl⟩⟩) (fun _ _=>rfl) _ (s.slot t)
 ·obtain ⟨z1,z2,z3⟩:=s.ino i
  refine ⟨z1,?_,z3⟩
  by_cases h:((i,1):Nm)=n
  ·simp only[h,if_true];rw[← h];exact z2
  ·simp only[h,if_false];exact z2
theorem Sim.take (s:Sim C G st hs a w) {n:Nm} {p:List Nat} {es:List (List T)} {r cs':List T} {hi:Nat} {u:Value} (hrow:rowAt (st.b n).cells p=some (.sl .own es :: r))
  (hset:setAt (st.b n).cells p .hole=some cs') (hhi:hi=es.length∨0<hi) (hu:RepV C G w st.b (.ref n p 0 hi) u) :
  Sim C ⟨relab (.box n,p) (.held hs.length,[]) G.L,G.Zn,G.blk,G.vals⟩ ⟨fun t=>killV n p (st.s t),fun m=>if m=n then ⟨(st.b n).real,cs'⟩ else st.b m⟩ (hs++[(.sl .own (es.take hi),u)]) a w:=
 s.takeY hrow (fun hv _ _ _ _ h1 L l=>by rw[RepC];exact h1) hset hhi hu
end
end TM
namespace TM
open Go
section
variable {C:Ctx} {G G':Gh} {st st':St} {hs:List (T×Value)} {a:Act} {w w':World} {bx bx':Nm→Box}
theorem hdOf_nil:∀ {p:List Nat},hdOf p=[]→p.length≤1
 |[],_=>by simp
 |[_],_=>by simp
 |[_,_],h=>by simp [hdOf] at h
 |[_,_,_],h=>by simp [hdOf] at h
 |_ :: _ :: _ :: _ :: _,h=>by simp [hdOf] at h
theorem no_through {n:Nm} {p:List Nat} {old:T} {r:List T} (hrow:rowAt (bx n).cells p=some (old :: r)) (hold:∀ es,old≠.sl .own es) :
  ∀ (y:LV) {u:Value},RepV C G w bx y u→(∀ m q lo hi,y=.ref m q lo hi→¬ (m=n∧p <+: q))∧(∀ m q,y=.addr m q→¬ (m=n∧p <+: q∧p.length<q.length)):=by
 intro y u h
 constructor
 ·rintro m q lo hi rfl ⟨rfl,hpq⟩
  rw[RepV] at h
  obtain ⟨es,r2,ad,cap,h1,_⟩:=h
  by_cases hl:p.length<q.length
  ·obtain ⟨es',e⟩:=rowAt_through p hrow h1 hpq hl
   exact hold _ e
  ·have:p=q:=hpq.eq_of_length (Nat.le_antisymm hpq.length_le (Nat.le_of_not_lt hl))
   subst this
   rw[hrow] at h1
   cases h1
   exact hold _ rfl
 ·rintro m q rfl ⟨rfl,hpq,hl⟩
  rw[RepV] at h
  obtain ⟨b,row,_,h1,_⟩:=h
  obtain ⟨es',e⟩:=rowAt_through p hrow h1 hpq hl
  exact hold _ e
mutual
theorem kill_idle {n:Nm} {p:List Nat} {old:T} {r:List T} (hrow:rowAt (bx n).cells p=some (old :: r)) (hold:∀ es,old≠.sl .own es) :
  ∀ (y:LV) {u:Value},RepV C G w bx y u→killV n p y=y
 |.t x,_,_=>by rw[killV]
 |.ref m q lo hi,_,h=>by
  rw[killV,if_neg]
  have:=(no_through hrow hold _ h).1 m q lo hi rfl
  rw[List.isPrefixOf_iff_prefix]
  exact this
 |.addr m q,_,h=>by
  rw[killV,if_neg]
  have:=(no_through hrow hold _ h).2 m q rfl
  rw[List.isPrefixOf_iff_prefix]
  exact this
 |.raddr cs,_,_=>by rw[killV]
 |.agg xs,_,h=>by
  rw[RepV] at h
  obtain ⟨us,_,h2⟩:=h
  rw[killV,kills_idle hrow hold xs h2]
 |.tup xs,_,h=>by
  rw[RepV] at h
  obtain ⟨us,_,h2⟩:=h
  rw[killV,kills_idle hrow hold xs h2]
 |.fn g xs,_,h=>by
  rw[RepV] at h
  obtain ⟨us,_,h2⟩:=h
  rw[killV,kills_idle hrow hold xs h2]
 |.va xs,_,h=>by
  rw[RepV] at h
  obtain ⟨b,off,vs,ty,fr,h1,h2,h3,h4⟩:=h
  rw[killV,kills_idle hrow hold xs h4]
 |.dead,_,_=>by rw[killV]
theorem kills_idle {n:Nm} {p:List Nat} {old:T} {r:List T} (hrow:rowAt (bx n).cells p=some (old :: r)) (hold:∀ es,old≠.sl .own es) :
  ∀ (ys:List LV) {us:List Value},RepVs C G w bx ys us→killVs n p ys=ys
 |[],_,_=>by rw[killVs]
 |y :: ys,[],h=>by rw[RepVs] at h;exact h.elim
 |y :: ys,u :: us,h=>by
  rw[RepVs] at h
  rw[killVs,kill_idle hrow hold y h.1,kills_idle hrow hold ys h.2]
end
theorem heap_set_other (w:World) (b c i:Nat) (v:Value) (h:c≠b):(w.setCell ⟨b,i,none⟩ v).heap[c]?=w.heap[c]?:=heap_setCell_other w ⟨b,i,none⟩ c v h
theorem Sim.storeOne (s:Sim C G st hs a w) {n:Nm} {p:List Nat} {x old:T} {u':Value} {r cs':List T} {j b:Nat}
  (hj:hs[j]?=some (x,u')) (hrow:rowAt (st.b n).cells p=some (old :: r)) (hset:setAt (st.b n).cells p x=some cs') (hb:G.L b=some (.box n,hdOf p)) (hre:p.length=1→(st.b n).real=true) :
  Sim C ⟨relab (.held j,[]) (.box n,p) G.L,G.Zn,G.blk,fun m=>if m=n then (if p.length=1 then (G.vals n).set (lastOf p) u' else G.vals n) else G.vals m⟩
   ⟨fun t=>killV n p (st.s t),fun m=>if m=n then ⟨(st.b n).real,cs'⟩ else st.b m⟩ (hs.set j (.hole,u')) a (w.setCell ⟨b,offOf (st.b n).cells 0 p,none⟩ u'):=by
 have hp:p≠[]:=rowAt_ne hrow
 obtain ⟨vs,ty,urow,hh,hu,k2,k1⟩:=s.addr hrow hb hre
 have hhs:=heap_setCell_same w b (offOf (st.b n).cells 0 p) vs ty u' hh
 have hoth:∀ b q m,G.L b=some (.box m,q)→¬ (m=n∧p <+: q)→relab (.held j,[]) (.box n,p) G.L b=some (.box m,q):=by
  intro b q m hb hn
  refine relab_other hb (not_under_root (by simp)) ?_
  unfold Lab.under
  rw[if_neg]
  rintro ⟨h1,h2⟩
  exact hn ⟨by simpa using h1,h2⟩
 have hne:∀ c l,G.L c=some l→l≠(.box n,hdOf p)→(w.setCell ⟨b,offOf (st.b n).cells 0 p,none⟩ u').heap[c]?=w.heap[c]?:=by
  intro c l hc hl
  refine heap_set_other _ _ _ _ _ fun e=>hl ?_
  rw[e,hb] at hc
  exact (Option.some.inj hc).symm
 have hzone:∀ c,C.Zf c∨G.Zn c→(w.setCell ⟨b,offOf (st.b n).cells 0 p,none⟩ u').heap[c]?=w.heap[c]?:=by
  intro c hc
  refine heap_set_other _ _ _ _ _ fun e=>?_
  have:=(s.zone c hc).1
  rw[e,hb] at this
  cases this
 have hZ:∀ f c,C.Z G f c→C.Z G f c∧(w.setCell ⟨b,offOf (st.b n).cells 0 p,none⟩ u').heap[c]?=w.heap[c]?:=by
  intro f c h
  refine ⟨h,?_⟩
  cases f
  ·exact h.elim
  ·exact hzone c (.inr h)
  ·exact hzone c h
 have hsz:(w.setCell ⟨b,offOf (st.b n).cells 0 p,none⟩ u').heap.size=w.heap.size:=World.size_setCell ..
 refine ⟨relab_inj s.inj,fun c l h=>?_,fun c h=>⟨relab_none (s.zone c h).1,by rw[hsz];exact (s.zone c h).2⟩,s.fresh,s.zin,fun c h1 h2=>?_,by rw[hsz];exact s.size,s.rest,fun m=>?_,fun i y v h=>?_,fun t=>?_,fun i=>?_,s.len,s.dfr⟩
 ·rw[hsz]
  rcases relab_some h with ⟨r',h1,_⟩ | ⟨h1,_,_⟩
  ·exact s.lab c _ h1
  ·exact s.lab c _ h1
 ·refine (heap_set_other _ _ _ _ _ fun e=>?_).trans (s.old c h1 h2)
  rcases (s.lab b _ hb).2 with h | h
  ·omega
  ·exact h2 (e ▸ h)
 ·obtain ⟨h1,h2,h3⟩:=s.box m
  by_cases hm:m=n
  ·subst hm
   simp only[if_true]
   have hst:=RepL.store (w':=w.setCell ⟨b,offOf (st.b m).cells 0 p,none⟩ u') (Z':=C.Z G) (L':=relab (.held j,[]) (.box m,p) G.L) (x:=x) (u':=u') hZ (some b) (offOf (st.b m).cells 0 p)
    (fun c hc=>heap_set_other _ _ _ _ _ fun e=>hc (by rw[e])) (fun c hc=>by cases hc;exact ⟨vs,ty,hh,hhs⟩) p h1 hset k1 (s.atBlk m) (fun c q hc hnp=>hoth c q m hc (fun e=>hnp e.2))
    (by
     refine RepC.move hZ x (fun c q hc=>⟨?_,hne c _ hc (by simp)⟩) (s.held j x u' hj)
     have:=relab_src (dst:=(.box m,p)) hc
     simpa using this)
   refine ⟨hst,?_,fun hr=>?_⟩
   ·split
    ·rw[List.length_set,h2,setAt_length p hset]
    ·rw[h2,setAt_length p hset]
   ·obtain ⟨h4,ty',h5⟩:=h3 hr
    refine ⟨hoth _ _ _ h4 (fun e=>hp (List.prefix_nil.1 e.2)),ty',?_⟩
    by_cases hl:p.length=1
    ·match p,hl,hb,hh,hhs with
     |[c],_,hb,hh,hhs=>
      have hbb:b=G.blk m:=s.inj _ _ _ hb h4
      subst hbb
      rw[h5] at hh
      cases hh
      rw[hhs]
      simp [offOf,lastOf]
    ·rw[if_neg hl,hne _ _ h4 (by
      intro e
      have:=congrArg Prod.snd e
      have:=hdOf_nil this.symm
      have h0:p.length≠0:=fun h=>hp (List.length_eq_zero_iff.1 h)
      omega)]
     exact h5
  ·simp only[hm,if_false]
   refine ⟨RepL.move hZ _ (fun c q hc=>⟨hoth c _ m hc (fun e=>hm e.1),hne c _ hc (by intro e;exact hm (by simpa using congrArg Prod.fst e))⟩) h1,h2,fun hr=>?_⟩
   obtain ⟨h4,ty',h5⟩:=h3 hr
   exact ⟨hoth _ _ _ h4 (fun e=>hm e.1),ty',by rw[hne _ _ h4 (by intro e;exact hm (by simpa using congrArg Prod.fst e))];exact h5⟩
 ·rw[List.getElem?_set] at h
  split at h
  ·split at h
   ·cases h;rw[RepC];exact (s.held j x _ hj).one
   ·cases h
  ·rename_i hij
   refine RepC.move hZ y (fun c q hc=>⟨relab_other hc (not_under_root (by simp;omega)) (not_under_root (by simp)),hne c _ hc (by simp)⟩) (s.held i y v h)
 ·refine slot_set s hset (fun c q m hc hn=>⟨hoth c q m hc hn,fun cs ty2 hhc=>?_⟩) hzone _ (s.slot t)
  by_cases hcb:c=b
  ·subst hcb
   rw[hh] at hhc
   cases hhc
   exact ⟨_,hhs,by simp⟩
  ·exact ⟨cs,by rw[heap_set_other _ _ _ _ _ hcb];exact hhc,rfl⟩
 ·obtain ⟨z1,z2,z3⟩:=s.ino i
  refine ⟨z1,?_,fun h0=>?_⟩
  ·by_cases h:((i,1):Nm)=n
   ·simp only[h,if_true];rw[← h];exact z2
   ·simp only[h,if_false];exact z2
  ·show (if (i,1)=n then _ else _)=_
   split
   ·rename_i h
    subst h
    rw[if_neg (fun hl=>by rw[hre hl] at z2;rw[← z2] at h0;cases h0)]
    exact z3 h0
   ·exact z3 h0
end
end TM
namespace TM
open Go
def St.closeS (st:St):LV→Option (T×St)
 |.t .hole=>none
 |.t x=>some (x,st)
 |.ref n p 0 hi=>match rowAt (st.b n).cells p with
  |some (.sl .own es :: _)=>if hi=es.length∨0<hi then match setAt (st.b n).cells p .hole with
   |some cs=>some (.sl .own (es.take hi),⟨fun u=>killV n p (st.s u),fun m=>if m=n then ⟨(st.b n).real,cs⟩ else st.b m⟩)
   |none=>none
   else none
  |_=>none
 |.fn g []=>some (.fn g [],st)
 |_=>none
def St.closesS (st:St):List LV→Option (List T×St)
 |[]=>some ([],st)
 |v :: vs=>match st.closeS v with
  |some (x,st1)=>match st1.closesS vs with
   |some (xs,st2)=>some (x :: xs,st2)
   |none=>none
  |none=>none
theorem run_close {α:Type} {N:Nat} (v:LV) (k:T→M α) (st:St):(close v k).run N st=match st.closeS v with | some (x,st1)=>(k x).run N st1 | none=>none:=by
 cases v with
 |t x=>cases x<;>rfl
 |fn g caps=>cases caps<;>rfl
 |ref n p lo hi=>
  cases lo with
  |succ lo=>rfl
  |zero=>
   simp only[close,St.closeS,M.run]
   cases h1:rowAt (st.b n).cells p with
   |none=>rfl
   |some row=>
    cases row with
    |nil=>rfl
    |cons y r=>
     cases y with
     |sl f es=>
      cases f with
      |own=>
       simp only
       by_cases hc:hi=es.length∨0<hi
       ·simp only[hc,if_true]
        cases h2:setAt (st.b n).cells p .hole with
        |none=>rfl
        |some cs=>
         by_cases hl:p.length=1
         ·simp only[hl,if_true];rfl
         ·simp only[hl,if_false,M.run,h2]
       ·simp only[hc,if_false];rfl
      |_=>rfl
     |_=>rfl
 |_=>rfl
theorem run_closes {α:Type} {N:Nat}:∀ (vs:List LV) (k:List T→M α) (st:St),(closes vs k).run N st=match st.closesS vs with | some (xs,st1)=>(k xs).run N st1 | none=>none
 |[],k,st=>rfl
 |v :: vs,k,st=>by
  simp only[closes,St.closesS]
  rw[run_close]
  cases st.closeS v with
  |none=>rfl
  |some r=>
   obtain ⟨x,st1⟩:=r
   simp only
   rw[run_closes vs]
   cases st1.closesS vs with
   |none=>rfl
   |some r2=>rfl
theorem run_closeC {α:Type} {N:Nat} (v:LV) (k:List T→M α) (st:St):(closeC v k).run N st=match st.closesS v.cells with | some (xs,st1)=>(k xs).run N st1 | none=>none:=by
 unfold closeC
 split
 ·exact run_closes ..
 ·rename_i h
  have e:v.cells=[v]:=by
   cases v<;>first | rfl | exact (h _ rfl).elim
  rw[e,run_close]
  simp only[St.closesS]
  cases st.closeS v with
  |none=>rfl
  |some r=>rfl
theorem closesS_append (vs vs':List LV) (st:St):st.closesS (vs++vs')=match st.closesS vs with
  |some (xs,st1)=>(match st1.closesS vs' with | some (xs',st2)=>some (xs++xs',st2) | none=>none)
  |none=>none:=by
 induction vs generalizing st with
 |nil=>
  simp only[List.nil_append,St.closesS]
  cases st.closesS vs' with
  |none=>rfl
  |some r=>rfl
 |cons v vs ih=>
  simp only[List.cons_append,St.closesS]
  cases st.closeS v with
  |none=>rfl
  |some r=>
   simp only[ih]
   cases r.2.closesS vs with
   |none=>rfl
   |some r2=>
    simp only
    cases r2.2.closesS vs' with
    |none=>rfl
    |some r3=>rfl
def regroup:List (Nat×LV)→List T→List (Nat×List T)
 |[],_=>[]
 |(i,x) :: rest,ts=>(i,ts.take x.cells.length) :: regroup rest (ts.drop x.cells.length)
theorem closesS_length:∀ (vs:List LV) {st st1:St} {xs:List T},st.closesS vs=some (xs,st1)→xs.length=vs.length
 |[],st,st1,xs,h=>by simp only[St.closesS,Option.some.injEq,Prod.mk.injEq] at h;rw[← h.1];rfl
 |v :: vs,st,st1,xs,h=>by
  simp only[St.closesS] at h
  split at h
  ·split at h
   ·rename_i h2
    cases h
    simp [closesS_length vs h2]
   ·cases h
  ·cases h
theorem run_closeParts {α:Type} {N:Nat}:∀ (ps:List (Nat×LV)) (k:List (Nat×List T)→M α) (st:St),(closeParts ps k).run N st=match st.closesS (ps.flatMap fun p=>p.2.cells) with | some (xs,st1)=>(k (regroup ps xs)).run N st1 | none=>none
 |[],k,st=>rfl
 |(i,x) :: rest,k,st=>by
  simp only[closeParts,List.flatMap_cons]
  rw[run_closeC,closesS_append]
  cases h:st.closesS x.cells with
  |none=>rfl
  |some r=>
   obtain ⟨xs,st1⟩:=r
   simp only
   rw[run_closeParts rest]
   cases st1.closesS (rest.flatMap fun p=>p.2.cells) with
   |none=>rfl
   |some r2=>
    have hl:=closesS_length _ h
    simp only[regroup,← hl,List.take_left,List.drop_left]
theorem rowAt_unhole:∀ (q p:List Nat) {cs cs' row:List T},setAt cs p .hole=some cs'→rowAt cs' q=some row →
  ∃ row0,rowAt cs q=some row0∧∀ es r,row=.sl .own es :: r→∃ es0 r0,row0=.sl .own es0 :: r0
 |[],_,_,_,_,_,h=>by simp [rowAt] at h
 |_,[],_,_,_,h,_=>by simp [setAt] at h
 |[c],[d],cs,cs',row,hs,h=>by
  obtain ⟨hd,rfl⟩:=setAt_lt hs
  simp only[rowAt,Option.some.injEq] at h
  subst h
  refine ⟨cs.drop c,rfl,fun es r e=>?_⟩
  have hc:=drop_head e
  rw[List.getElem?_set] at hc
  split at hc
  ·cases hc
  ·exact ⟨es,_,head_drop hc⟩
 |[c],d :: i :: rest,cs,cs',row,hs,h=>by
  obtain ⟨es0,r0,e0,e0',hdr,he,hse,rfl⟩:=setAt_some hs
  simp only[rowAt,Option.some.injEq] at h
  subst h
  refine ⟨cs.drop c,rfl,fun es r e=>?_⟩
  have hc:=drop_head e
  rw[List.getElem?_set] at hc
  split at hc
  ·rename_i hdc
   subst hdc
   exact ⟨es0,_,hdr⟩
  ·exact ⟨es,_,head_drop hc⟩
 |c :: i :: rest,[d],cs,cs',row,hs,h=>by
  obtain ⟨hd,rfl⟩:=setAt_lt hs
  obtain ⟨es,r,e,hdr,he,hr⟩:=rowAt_some h
  have hc:=drop_head hdr
  rw[List.getElem?_set] at hc
  split at hc
  ·cases hc
  ·exact ⟨row,rowAt_mk hc he hr,fun es r e=>⟨es,r,e⟩⟩
 |c :: i :: rest,d :: j :: rest',cs,cs',row,hs,h=>by
  obtain ⟨es0,r0,e0,e0',hdr0,he0,hse,rfl⟩:=setAt_some hs
  obtain ⟨es,r,e,hdr,he,hr⟩:=rowAt_some h
  have hc:=drop_head hdr
  rw[List.getElem?_set] at hc
  split at hc
  ·rename_i hdc
   subst hdc
   split at hc
   ·cases hc
    rw[List.getElem?_set] at he
    split at he
    ·rename_i hij
     subst hij
     split at he
     ·cases he
      obtain ⟨row0,k1,k2⟩:=rowAt_unhole rest rest' hse hr
      exact ⟨row0,rowAt_mk (drop_head hdr0) he0 k1,k2⟩
     ·cases he
    ·exact ⟨row,rowAt_mk (drop_head hdr0) he hr,fun es r e=>⟨es,r,e⟩⟩
   ·cases hc
  ·exact ⟨row,rowAt_mk hc he hr,fun es r e=>⟨es,r,e⟩⟩
def Alive (st:St):LV→Prop
 |.t _=>True
 |.ref m q _ _=>∃ es r,rowAt (st.b m).cells q=some (.sl .own es :: r)
 |.addr m q=>∃ row,rowAt (st.b m).cells q=some row
 |.fn _ []=>True
 |_=>False
theorem closeS_some {st st1:St} {v:LV} {x:T} (h:st.closeS v=some (x,st1)) :
  (v=.t x∧st1=st)∨(∃ g,v=.fn g []∧x=.fn g []∧st1=st) ∨
  ∃ n p hi es r cs,v=.ref n p 0 hi∧(hi=es.length∨0<hi)∧rowAt (st.b n).cells p=some (.sl .own es :: r)∧setAt (st.b n).cells p .hole=some cs∧x=.sl .own (es.take hi) ∧
    st1=⟨fun u=>killV n p (st.s u),fun m=>if m=n then ⟨(st.b n).real,cs⟩ else st.b m⟩:=by
 unfold St.closeS at h
 split at h
 ·cases h
 ·cases h;exact .inl ⟨rfl,rfl⟩
 ·split at h
  ·rename_i h1
   split at h
   ·rename_i h0
    split at h
    ·rename_i h2
     cases h
     exact .inr (.inr ⟨_,_,_,_,_,_,rfl,h0,h1,h2,rfl,rfl⟩)
    ·cases h
   ·cases h
  ·cases h
 ·cases h;exact .inr (.inl ⟨_,rfl,rfl,rfl⟩)
 ·cases h
theorem closeS_alive {st st1:St} {v:LV} {x:T} (h:st.closeS v=some (x,st1)):Alive st v:=by
 rcases closeS_some h with ⟨rfl,_⟩ | ⟨g,rfl,_⟩ | ⟨n,p,hi,es,r,cs,rfl,_,h1,_⟩
 ·trivial
 ·trivial
 ·exact ⟨es,r,h1⟩
theorem closeS_back {st st1:St} {v y:LV} {x:T} (h:st.closeS v=some (x,st1)) (hy:Alive st1 y):Alive st y:=by
 rcases closeS_some h with ⟨rfl,rfl⟩ | ⟨g,rfl,_,rfl⟩ | ⟨n,p,hi,es,r,cs,rfl,_,h1,h2,h3,rfl⟩
 ·exact hy
 ·exact hy
 ·unfold Alive at hy ⊢
  split
  ·trivial
  ·rename_i m q lo hi2
   simp only at hy
   obtain ⟨es',r',h4⟩:=hy
   by_cases hm:m=n
   ·subst hm
    rw[if_pos rfl] at h4
    obtain ⟨row0,k1,k2⟩:=rowAt_unhole q p h2 h4
    obtain ⟨es0,r0,e⟩:=k2 _ _ rfl
    exact ⟨es0,r0,by rw[k1,e]⟩
   ·rw[if_neg hm] at h4
    exact ⟨es',r',h4⟩
  ·rename_i m q
   simp only at hy
   obtain ⟨row,h4⟩:=hy
   by_cases hm:m=n
   ·subst hm
    rw[if_pos rfl] at h4
    obtain ⟨row0,k1,_⟩:=rowAt_unhole q p h2 h4
    exact ⟨row0,k1⟩
   ·rw[if_neg hm] at h4
    exact ⟨row,h4⟩
  ·trivial
  ·rename_i g1 g2 g3 g4
   split at hy
   ·exact (g1 _ rfl).elim
   ·exact (g2 _ _ _ _ rfl).elim
   ·exact (g3 _ _ rfl).elim
   ·exact (g4 _ rfl).elim
   ·exact hy
theorem closesS_back:∀ (vs:List LV) {st st1:St} {y:LV} {xs:List T},st.closesS vs=some (xs,st1)→Alive st1 y→Alive st y
 |[],st,st1,y,xs,h,hy=>by simp only[St.closesS,Option.some.injEq,Prod.mk.injEq] at h;rw[h.2];exact hy
 |v :: vs,st,st1,y,xs,h,hy=>by
  simp only[St.closesS] at h
  split at h
  ·rename_i h1
   split at h
   ·rename_i h2
    cases h
    exact closeS_back h1 (closesS_back vs h2 hy)
   ·cases h
  ·cases h
theorem closesS_alive:∀ (vs:List LV) {st st1:St} {xs:List T},st.closesS vs=some (xs,st1)→∀ v∈vs,Alive st v
 |[],_,_,_,_,v,hv=>by simp at hv
 |v :: vs,st,st1,xs,h,y,hy=>by
  simp only[St.closesS] at h
  split at h
  ·rename_i h1
   split at h
   ·rename_i h2
    cases h
    rcases List.mem_cons.1 hy with rfl | hy
    ·exact closeS_alive h1
    ·exact closeS_back h1 (closesS_alive vs h2 y hy)
   ·cases h
  ·cases h
section
variable {C:Ctx} {G:Gh} {st st1:St} {hs:List (T×Value)} {a:Act} {w:World}
theorem kill_alive {n:Nm} {p:List Nat} {r:List T} {y:LV} (hrow:rowAt (st1.b n).cells p=some (.hole :: r)) (hy:Alive st1 y):killV n p y=y:=by
 unfold Alive at hy
 split at hy
 ·rw[killV]
 ·rename_i m q lo hi
  obtain ⟨es,r',h⟩:=hy
  rw[killV,if_neg]
  rintro ⟨rfl,hpq⟩
  rw[List.isPrefixOf_iff_prefix] at hpq
  by_cases hl:p.length<q.length
  ·obtain ⟨es',e⟩:=rowAt_through p hrow h hpq hl
   cases e
  ·have:p=q:=hpq.eq_of_length (Nat.le_antisymm hpq.length_le (Nat.le_of_not_lt hl))
   subst this
   rw[hrow] at h
   cases h
 ·rename_i m q
  obtain ⟨row,h⟩:=hy
  rw[killV,if_neg]
  rintro ⟨rfl,hpq,hl⟩
  rw[List.isPrefixOf_iff_prefix] at hpq
  obtain ⟨es',e⟩:=rowAt_through p hrow h hpq hl
  cases e
 ·simp [killV,killVs]
 ·exact hy.elim
theorem Sim.hold (s:Sim C G st hs a w) {x:T} {u:Value} (h:RepC (C.Z G) w noLab noWhere x u):Sim C G st (hs++[(x,u)]) a w where
 inj:=s.inj
 lab:=s.lab
 zone:=s.zone
 fresh:=s.fresh
 zin:=s.zin
 old:=s.old
 size:=s.size
 rest:=s.rest
 box:=s.box
 held j y v hj:=by
  rw[List.getElem?_append] at hj
  split at hj
  ·exact s.held j y v hj
  ·have:j-hs.length=0:=by
    rcases Nat.eq_zero_or_pos (j-hs.length) with h | h
    ·exact h
    ·rw[List.getElem?_eq_none (by simp;omega)] at hj;cases hj
   rw[this] at hj
   cases hj
   exact RepC.move (fun f b hz=>⟨hz,rfl⟩) x noLab_under h
 slot:=s.slot
 ino:=s.ino
 len:=s.len
 dfr:=s.dfr
theorem close_step (s:Sim C G st hs a w) {v:LV} {u:Value} {x:T} (hv:RepV C G w st.b v u) (h:st.closeS v=some (x,st1)) :
  ∃ G1,Sim C G1 st1 (hs++[(x,u)]) a w∧G1.Zn=G.Zn∧∀ y uy,RepV C G w st.b y uy→Alive st1 y→RepV C G1 w st1.b y uy:=by
 rcases closeS_some h with ⟨rfl,rfl⟩ | ⟨g,rfl,rfl,rfl⟩ | ⟨n,p,hi,es,r,cs,rfl,h0,h1,h2,rfl,rfl⟩
 ·rw[RepV] at hv
  exact ⟨G,s.hold hv,rfl,fun _ _ h _=>h⟩
 ·rw[RepV] at hv
  obtain ⟨us,rfl,hus⟩:=hv
  rw[RepVs] at hus
  refine ⟨G,s.hold ?_,rfl,fun _ _ h _=>h⟩
  rw[RepC]
  refine ⟨us,rfl,?_,by rw[RepL];trivial⟩
  have:=congrArg List.length hus
  simpa using this
 ·refine ⟨_,s.take h1 h2 h0 hv,rfl,fun y uy hy hal=>?_⟩
  obtain ⟨r',hr'⟩:=rowAt_self p h2 h1
  have hk:=slot_set (w':=w) (L':=relab (.box n,p) (.held hs.length,[]) G.L) (vals':=G.vals) s h2 (fun b q m hb hn=>⟨by
   refine relab_other hb ?_ (not_under_root (by simp))
   unfold Lab.under
   rw[if_neg]
   rintro ⟨h1,h2⟩
   exact hn ⟨by simpa using h1,h2⟩,fun cs ty hh=>⟨cs,hh,rfl⟩⟩) (fun _ _=>rfl) y hy
  rw[kill_alive (st1:=⟨fun u=>killV n p (st.s u),fun m=>if m=n then ⟨(st.b n).real,cs⟩ else st.b m⟩) (n:=n) (p:=p) (r:=r') (by simp only[if_true];exact hr') hal] at hk
  exact hk
theorem closes_step:∀ (vs:List LV) {G:Gh} {st st1:St} {hs:List (T×Value)} {us:List Value} {xs:List T},Sim C G st hs a w→RepVs C G w st.b vs us→st.closesS vs=some (xs,st1) →
  ∃ G1,Sim C G1 st1 (hs++xs.zip us) a w∧G1.Zn=G.Zn∧∀ y uy,RepV C G w st.b y uy→Alive st1 y→RepV C G1 w st1.b y uy
 |[],G,st,st1,hs,us,xs,s,hv,h=>by
  simp only[St.closesS,Option.some.injEq,Prod.mk.injEq] at h
  obtain ⟨rfl,rfl⟩:=h
  exact ⟨G,by simpa using s,rfl,fun _ _ h _=>h⟩
 |v :: vs,G,st,st1,hs,[],xs,s,hv,h=>by rw[RepVs] at hv;exact hv.elim
 |v :: vs,G,st,st1,hs,u :: us,xs,s,hv,h=>by
  rw[RepVs] at hv
  simp only[St.closesS] at h
  split at h
  ·rename_i x st2 h1
   split at h
   ·rename_i xs2 st3 h2
    cases h
    obtain ⟨G2,s2,z2,k2⟩:=close_step s hv.1 h1
    have hvs:RepVs C G2 w st2.b vs us:=by
     refine RepVs.of_get hv.2.length fun i v' u' hi hu=>?_
     obtain ⟨u2,hu2,hr⟩:=hv.2.get i v' hi
     rw[hu2] at hu
     cases hu
     exact k2 _ _ hr (closesS_alive vs h2 v' (List.mem_of_getElem? hi))
    obtain ⟨G3,s3,z3,k3⟩:=closes_step vs s2 hvs h2
    refine ⟨G3,by simpa using s3,z3.trans z2,fun y uy hy hal=>?_⟩
    exact k3 _ _ (k2 _ _ hy (closesS_back vs h2 hal)) hal
   ·cases h
  ·cases h
def killIf (old:T) (n:Nm) (p:List Nat) (v:LV):LV:=match old with | .sl .own _=>killV n p v | _=>v
def St.storesS (st:St) (n:Nm) (p:List Nat):Nat→List T→Option St
 |_,[]=>some st
 |j,x :: xs=>match rowAt (st.b n).cells (bump j p),setAt (st.b n).cells (bump j p) x with
  |some (old :: _),some cs=>
   St.storesS ⟨fun u=>killIf old n (bump j p) (st.s u),fun m=>if m=n then ⟨(st.b n).real,cs⟩ else st.b m⟩ n p (j+1) xs
  |_,_=>none
theorem run_stores {α:Type} {N:Nat} (n:Nm) (p:List Nat) (k:M α):∀ (xs:List T) (j:Nat) (st:St),(stores n p j xs k).run N st=match st.storesS n p j xs with | some st1=>k.run N st1 | none=>none
 |[],j,st=>rfl
 |x :: xs,j,st=>by
  simp only[stores,St.storesS,M.run]
  cases h1:rowAt (st.b n).cells (bump j p) with
  |none=>rfl
  |some row=>
   cases row with
   |nil=>rfl
   |cons old r=>
    cases h2:setAt (st.b n).cells (bump j p) x with
    |none=>rfl
    |some cs=>
     cases old with
     |sl f es=>cases f<;>(simp only[M.run];exact run_stores n p k xs _ _)
     |_=>simp only[M.run];exact run_stores n p k xs _ _
theorem Sim.drop (s:Sim C G st hs a w):Sim C G st [] a w where
 inj:=s.inj
 lab:=s.lab
 zone:=s.zone
 fresh:=s.fresh
 zin:=s.zin
 old:=s.old
 size:=s.size
 rest:=s.rest
 box:=s.box
 held j y v hj:=by simp at hj
 slot:=s.slot
 ino:=s.ino
 len:=s.len
 dfr:=s.dfr
end
end TM
namespace TM
open Go
section
variable {C:Ctx} {G:Gh} {st st1 st':St} {hs:List (T×Value)} {a:Act} {w:World}
theorem cells_one {u:Value} (h:u.oneCell'=true):u.cells=#[u]:=by
 cases u<;>first | rfl | (simp [Value.oneCell'] at h)
theorem cells_rep {v:LV} {u:Value} {xs:List T} {st2:St} (hv:RepV C G w st.b v u) (h:st2.closesS v.cells=some (xs,st1)):RepVs C G w st.b v.cells u.cells.toList:=by
 have single:∀ (hu:u.oneCell'=true),RepVs C G w st.b [v] u.cells.toList:=by
  intro hu
  rw[cells_one hu]
  show RepVs C G w st.b [v] [u]
  rw[RepVs,RepVs]
  exact ⟨hv,rfl⟩
 cases v with
 |t x=>
  refine single ?_
  rw[RepV] at hv
  exact hv.one
 |ref n p lo hi=>
  refine single ?_
  rw[RepV] at hv
  obtain ⟨_,_,_,_,_,_,_,_,_,rfl,_⟩:=hv
  rfl
 |addr n p=>simp [LV.cells,St.closesS,St.closeS] at h
 |raddr cs=>simp [LV.cells,St.closesS,St.closeS] at h
 |agg vs=>
  rw[RepV] at hv
  obtain ⟨us,rfl,hr⟩:=hv
  exact hr
 |tup vs=>simp [LV.cells,St.closesS,St.closeS] at h
 |fn g caps=>
  refine single ?_
  rw[RepV] at hv
  obtain ⟨us,rfl,hr⟩:=hv
  rfl
 |va vs=>simp [LV.cells,St.closesS,St.closeS] at h
 |dead=>simp [LV.cells,St.closesS,St.closeS] at h
theorem r_store {P:Program} {b i:Nat} {vs:Array Value} {ty:TypeId} {u:Value} (h:w.heap[b]?=some (.cells vs ty (0,0))) (hi:i<vs.size) (h1:u.oneCell'=true) :
  (store ⟨b,i,none⟩ u).run P w=.ok () (w.setCell ⟨b,i,none⟩ u):=by
 rw[run_store P w _ u _ h1,cell_at h]
 have hf:w.frozen? ⟨b,i,none⟩=false:=by simp [World.frozen?,h]
 simp [hi,hf]
theorem stores_step {n:Nm} {p:List Nat} {b off:Nat}:∀ (xs:List T) {j i0:Nat} {us:List Value} {G:Gh} {st st1:St} {hs:List (T×Value)} {w:World},Sim C G st hs a w →
  G.L b=some (.box n,hdOf p)→(p.length=1→(st.b n).real=true)→(∀ t x,xs[t]?=some x→∃ u,us[t]?=some u∧hs[i0+t]?=some (x,u))→us.length=xs.length →
  offOf (st.b n).cells 0 p=off→(∃ row,rowAt (st.b n).cells p=some row)→st.storesS n p j xs=some st1 →
  ∃ G1 w1,(storeCells ⟨b,off,none⟩ us j).run C.P w=.ok () w1∧Sim C G1 st1 [] a w1∧G1.Zn=G.Zn
 |[],j,i0,us,G,st,st1,hs,w,s,hb,hre,hj,hl,ho,hrow,h=>by
  simp only[St.storesS,Option.some.injEq] at h
  subst h
  have:us=[]:=List.length_eq_zero_iff.1 hl
  subst this
  exact ⟨G,w,rfl,s.drop,rfl⟩
 |x :: xs,j,i0,[],G,st,st1,hs,w,s,hb,hre,hj,hl,ho,hrow,h=>by simp at hl
 |x :: xs,j,i0,u :: us,G,st,st1,hs,w,s,hb,hre,hj,hl,ho,⟨row,hrow⟩,h=>by
  simp only[St.storesS] at h
  split at h
  ·rename_i old r cs h1 h2
   obtain ⟨u',hu',hh⟩:=hj 0 x rfl
   cases hu'
   rw[Nat.add_zero] at hh
   have hb':G.L b=some (.box n,hdOf (bump j p)):=by rw[hdOf_bump];exact hb
   have hre':(bump j p).length=1→(st.b n).real=true:=fun e=>hre (by rw[← length_bump j p];exact e)
   have so:=s.storeOne hh h1 h2 hb' hre'
   obtain ⟨vs,ty,urow,hheap,hu,k2,_⟩:=s.addr h1 hb' hre'
   have hoj:offOf (st.b n).cells 0 (bump j p)=off+j:=by rw[offOf_bump j p hrow,ho]
   rw[hoj] at so hu
   have hlt:off+j<vs.size:=by
    have:=k2.length
    rw[hu] at this
    simp at this
    omega
   have hst:=r_store (P:=C.P) hheap hlt (s.held _ _ _ hh).one
   have hslot:(fun u=>killIf old n (bump j p) (st.s u))=fun t=>killV n (bump j p) (st.s t):=by
    funext t
    cases old with
    |sl f es=>
     cases f with
     |own=>rfl
     |_=>exact (kill_idle (bx:=st.b) h1 (by intro es e;cases e) _ (s.slot t)).symm
    |_=>exact (kill_idle (bx:=st.b) h1 (by intro es e;cases e) _ (s.slot t)).symm
   rw[hslot] at h
   obtain ⟨row',k1,k3,_,_⟩:=rowAt_set p (bump j p) (off:=0) h2 hrow (by rw[length_bump];omega)
   have hp:=rowAt_ne hrow
   obtain ⟨G1,w1,q1,q2,q3⟩:=stores_step xs (j:=j+1) (i0:=i0+1) (us:=us) so
    (by
     refine relab_other hb (not_under_root (by simp)) ?_
     unfold Lab.under
     rw[if_neg]
     rintro ⟨_,h4⟩
     have:=h4.length_le
     simp only[length_bump] at this
     have:=(hdOf_prefix p).2 hp
     omega)
    (fun e=>by simp only[if_true];exact hre e)
    (fun t y hy=>by
     obtain ⟨u2,e1,e2⟩:=hj (t+1) y (by simpa using hy)
     refine ⟨u2,by simpa using e1,?_⟩
     rw[List.getElem?_set_ne (by omega),show i0+1+t=i0+(t+1) by omega]
     exact e2)
    (by simpa using hl) (by simp only[if_true];rw[k3,ho]) ⟨row',by simp only[if_true];exact k1⟩ h
   refine ⟨G1,w1,?_,q2,q3⟩
   simp only[storeCells,Sem.run_bind,add_off,hst]
   exact q1
  ·cases h
theorem op_store (s:Sim C G st [] a w) {o:Oper} {t:TypeId} {x y:Operand} (ho:o.op=.store t x y) (h:(opM C.P o).run C.N st=some ((),st')):OpOK C o st' a w:=by
 unfold opM at h;rw[ho] at h
 simp only at h
 obtain ⟨v,hv,h⟩:=run_ev_some h
 have he:=s.ev hv
 split at h
 ·rename_i n p
  obtain ⟨u,hu,h⟩:=run_ev_some h
  have he2:=s.ev hu
  rw[run_closeC] at h
  split at h
  ·rename_i xs st1 hc
   split at h
   ·rename_i hsz
    rw[run_stores] at h
    split at h
    ·rename_i st2 hst
     have hcr:=cells_rep he2 hc
     obtain ⟨G1,s1,z1,k1⟩:=closes_step _ s hcr hc
     have hlx:=closesS_length _ hc
     have hlu:=hcr.length
     have hrow1:∃ row,rowAt (st1.b n).cells p=some row:=by
      cases xs with
      |nil=>simp at hsz
      |cons x xs=>
       simp only[St.storesS,bump_zero] at hst
       split at hst
       ·rename_i h1 _;exact ⟨_,h1⟩
       ·cases hst
     have ha:=k1 _ _ he hrow1
     rw[RepV] at ha
     obtain ⟨b,row,e1,e2,e3,e4⟩:=ha
     obtain ⟨G2,w2,q1,q2,q3⟩:=stores_step xs (j:=0) (i0:=0) (us:=(a.eval y).cells.toList) (off:=offOf (st1.b n).cells 0 p) s1 e3 e4
      (fun t x hx=>by
       have hlt:t<(a.eval y).cells.toList.length:=by
        have:=(List.getElem?_eq_some_iff.1 hx).1
        omega
       refine ⟨(a.eval y).cells.toList[t],by simp,?_⟩
       rw[List.nil_append,Nat.zero_add,List.getElem?_zip_eq_some]
       exact ⟨hx,by simp⟩)
      (by omega) rfl hrow1 hst
     obtain ⟨i,hi,hsi⟩:=info_of_cells (P:=C.P) (t:=t) (by omega)
     refine ⟨G2,w2,undef,.inr ⟨?_,rfl⟩,?_⟩
     ·unfold execOp;rw[ho]
      have hs2:(a.eval y).cells.size=i.size:=by
       rw[← hsi,hsz.1,hlx,← hlu]
       simp
      simp only[Instr.storeAt,Instr.sureAddr,e1,storeVar,Sem.run_bind,Sem.run_pure,Result.andThen_ok,r_size hi,hs2]
      simp [q1]
     ·rw[run_out] at h
      cases hd:o.dst with
      |none=>rw[hd] at h;simp at h;subst h;exact q2
      |some d=>
       rw[hd] at h
       simp only at h
       split at h
       ·rename_i hlt
        cases h
        exact q2.put hlt (by rw[RepV];trivial)
       ·cases h
    ·cases h
   ·cases h
  ·cases h
 ·cases h
def boxLab (D:Nm) (g:Nat→List Nat→Option (List Nat)) (nb:Option (Nat×List Nat)) (L:Labs):Labs:=fun b=>
 match (match nb with | some (B,q)=>if b=B then some q else none | none=>none) with
 |some q=>some (.box D,q)
 |none=>match L b with
  |some (.box m,r)=>if m=D then none else some (.box m,r)
  |some (.held j,r)=>(g j r).map fun q=>(.box D,q)
  |none=>none
theorem boxLab_new {D:Nm} {g:Nat→List Nat→Option (List Nat)} {B:Nat} {q:List Nat} {L:Labs}:boxLab D g (some (B,q)) L B=some (.box D,q):=by
 simp [boxLab]
theorem boxLab_old {D:Nm} {g:Nat→List Nat→Option (List Nat)} {nb:Option (Nat×List Nat)} {L:Labs} {b:Nat} (h:∀ q,nb≠some (b,q)):boxLab D g nb L b=match L b with
  |some (.box m,r)=>if m=D then none else some (.box m,r)
  |some (.held j,r)=>(g j r).map fun q=>(.box D,q)
  |none=>none:=by
 unfold boxLab
 cases nb with
 |none=>rfl
 |some x=>
  obtain ⟨B,q⟩:=x
  have:b≠B:=fun e=>h q (by rw[e])
  simp [this]
theorem boxLab_some {D:Nm} {g:Nat→List Nat→Option (List Nat)} {nb:Option (Nat×List Nat)} {L:Labs} {b:Nat} {l:Lab} (h:boxLab D g nb L b=some l) :
  (∃ q,nb=some (b,q)∧l=(.box D,q))∨((∀ q,nb≠some (b,q))∧((∃ m r,L b=some (.box m,r)∧m≠D∧l=(.box m,r))∨∃ j r q,L b=some (.held j,r)∧g j r=some q∧l=(.box D,q))):=by
 by_cases hb:∃ q,nb=some (b,q)
 ·obtain ⟨q,rfl⟩:=hb
  rw[boxLab_new] at h
  cases h
  exact .inl ⟨q,rfl,rfl⟩
 ·have hb':∀ q,nb≠some (b,q):=fun q e=>hb ⟨q,e⟩
  refine .inr ⟨hb',?_⟩
  rw[boxLab_old hb'] at h
  split at h
  ·split at h
   ·cases h
   ·rename_i hm;cases h;exact .inl ⟨_,_,by assumption,hm,rfl⟩
  ·rename_i j r hL
   obtain ⟨q,hq,rfl⟩:=Option.map_eq_some_iff.1 h
   exact .inr ⟨j,r,q,hL,hq,rfl⟩
  ·cases h
theorem Sim.freshBox {w':World} (s:Sim C G st hs a w) (D:Nm) (hD:D.2≠1) (x:Box) (us:List Value) (nb:Option (Nat×List Nat)) (g:Nat→List Nat→Option (List Nat))
  (hg:∀ j r j' r' q,g j r=some q→g j' r'=some q→j=j'∧r=r') (hgq:∀ B q0,nb=some (B,q0)→∀ j r,g j r≠some q0)
  (hnb:∀ B q0,nb=some (B,q0)→B<w'.heap.size∧(C.w0.heap.size≤B∨C.F0 B)∧(∀ m r,G.L B≠some (.box m,r))∧¬ (C.Zf B∨G.Zn B))
  (hheap:∀ b,(∀ q,nb≠some (b,q))→b<w.heap.size→w'.heap[b]?=w.heap[b]?) (hsize:w.heap.size≤w'.heap.size)
  (hrest:w'.os=w.os∧w'.tape=w.tape∧w'.output=w.output)
  (hbox:RepL (C.Z G) w' (boxLab D g nb G.L) (.box D,[]) 0 x.cells us) (hlen:us.length=x.cells.length)
  (hreal:x.real=true→∃ B,nb=some (B,[])∧∃ ty,w'.heap[B]?=some (.cells us.toArray ty (0,0))) :
  ∃ G',Sim C G' ⟨fun u=>killV D [] (st.s u),fun m=>if m=D then x else st.b m⟩ [] a w'∧G'.Zn=G.Zn∧G'.L=boxLab D g nb G.L∧(∀ m,m≠D→G'.vals m=G.vals m)∧G'.vals D=us:=by
 refine ⟨_,s.newBox D hD x us ((nb.map (·.1)).getD 0) (boxLab D g nb G.L) (fun b b' l h h'=>?_) (fun b l h=>?_) (fun m hm b r h=>?_) (fun b h=>?_) (fun b h1 h2=>?_) hsize hrest hbox hlen (fun hr=>?_),rfl,rfl,fun m hm=>if_neg hm,if_pos rfl⟩
 ·rcases boxLab_some h with ⟨q,h1,rfl⟩ | ⟨h0,⟨m,r,h1,h2,rfl⟩ | ⟨j,r,q,h1,h2,rfl⟩⟩
  ·rcases boxLab_some h' with ⟨q',k1,k2⟩ | ⟨k0,⟨m,r,k1,k2,k3⟩ | ⟨j,r,q',k1,k2,k3⟩⟩
   ·rw[h1] at k1;cases k1;rfl
   ·cases k3;exact (k2 rfl).elim
   ·cases k3;exact (hgq _ _ h1 _ _ k2).elim
  ·rcases boxLab_some h' with ⟨q',k1,k2⟩ | ⟨k0,⟨m',r',k1,k2,k3⟩ | ⟨j,r',q',k1,k2,k3⟩⟩
   ·cases k2;exact (h2 rfl).elim
   ·cases k3;exact s.inj _ _ _ h1 k1
   ·cases k3;exact (h2 rfl).elim
  ·rcases boxLab_some h' with ⟨q',k1,k2⟩ | ⟨k0,⟨m',r',k1,k2,k3⟩ | ⟨j',r',q',k1,k2,k3⟩⟩
   ·cases k2;exact (hgq _ _ k1 _ _ h2).elim
   ·cases k3;exact (k2 rfl).elim
   ·cases k3
    obtain ⟨rfl,rfl⟩:=hg _ _ _ _ _ h2 k2
    exact s.inj _ _ _ h1 k1
 ·rcases boxLab_some h with ⟨q,h1,rfl⟩ | ⟨h0,⟨m,r,h1,h2,rfl⟩ | ⟨j,r,q,h1,h2,rfl⟩⟩
  ·exact ⟨(hnb _ _ h1).1,(hnb _ _ h1).2.1⟩
  ·exact ⟨Nat.lt_of_lt_of_le (s.lab _ _ h1).1 hsize,(s.lab _ _ h1).2⟩
  ·exact ⟨Nat.lt_of_lt_of_le (s.lab _ _ h1).1 hsize,(s.lab _ _ h1).2⟩
 ·have hb:∀ q,nb≠some (b,q):=fun q e=>(hnb _ _ e).2.2.1 m r h
  refine ⟨?_,hheap b hb (s.lab _ _ h).1⟩
  rw[boxLab_old hb,h]
  exact if_neg hm
 ·have hb:∀ q,nb≠some (b,q):=fun q e=>(hnb _ _ e).2.2.2 h
  refine ⟨?_,hheap b hb (s.zone _ h).2⟩
  rw[boxLab_old hb,(s.zone _ h).1]
 ·refine hheap b (fun q e=>?_) (Nat.lt_of_lt_of_le h1 s.size)
  rcases (hnb _ _ e).2.1 with h | h
  ·omega
  ·exact h2 h
 ·obtain ⟨B,rfl,ty,h⟩:=hreal hr
  exact ⟨boxLab_new,ty,h⟩
theorem run_fresh {α:Type} {N:Nat} (d:Nat) (x:Box) (k:M α) (st:St):(fresh d x k).run N st=k.run N ⟨fun u=>killV (d,0) [] (st.s u),fun m=>if m=(d,0) then x else st.b m⟩:=rfl
def rowG (n:Nat) (place:Nat→List Nat):Nat→List Nat→Option (List Nat):=fun j r=>if j<n then some (place j++r) else none
theorem rowG_inj {n k:Nat} {place:Nat→List Nat} (hk:∀ j,(place j).length=k) (hi:∀ j j',place j=place j'→j=j'):∀ j r j' r' q,rowG n place j r=some q→rowG n place j' r'=some q→j=j'∧r=r':=by
 intro j r j' r' q h h'
 unfold rowG at h h'
 split at h
 ·split at h'
  ·cases h
   injection h' with h'
   have e:=List.append_inj h' (by rw[hk,hk])
   exact ⟨(hi _ _ e.1).symm,e.2.symm⟩
  ·cases h'
 ·cases h
theorem held_moved {w':World} (s:Sim C G st hs a w) {D:Nm} {g:Nat→List Nat→Option (List Nat)} {nb:Option (Nat×List Nat)} {j:Nat} {x:T} {u:Value} {pl:List Nat}
  (hj:hs[j]?=some (x,u)) (hgj:∀ r,g j r=some (pl++r)) (hnb:∀ B q0 r,nb=some (B,q0)→G.L B≠some (.held j,r))
  (hheap:∀ b,(∀ q,nb≠some (b,q))→b<w.heap.size→w'.heap[b]?=w.heap[b]?) (hz:∀ B q0,nb=some (B,q0)→¬ (C.Zf B∨G.Zn B)) :
  RepC (C.Z G) w' (boxLab D g nb G.L) (.box D,pl) x u:=by
 refine RepC.move (fun f b hb=>⟨hb,?_⟩) x (fun b r hb=>?_) (s.held j x u hj)
 ·have hzb:C.Zf b∨G.Zn b:=by
   cases f
   ·exact hb.elim
   ·exact .inr hb
   ·exact hb
  exact hheap b (fun q e=>hz _ _ e hzb) (s.zone b hzb).2
 ·have hb':∀ q,nb≠some (b,q):=fun q e=>hnb _ _ r e (by simpa using hb)
  refine ⟨?_,hheap b hb' (s.lab _ _ hb).1⟩
  rw[boxLab_old hb',hb]
  simp [hgj]
end
end TM
namespace TM
open Go
section
variable {C:Ctx} {G:Gh} {st st1 st':St} {hs:List (T×Value)} {a:Act} {w:World}
theorem zeroT_some {P:Program} {t:TypeId} {cs:List T} (h:zeroT P t=some cs):∃ i z,P.info? t=some i∧i.zero=some z∧cs=z.cells.toList.map ofC∧z.cells.toList.all (·.oneCell')=true:=by
 unfold zeroT at h
 cases hi:P.info? t with
 |none=>rw[hi] at h;simp at h
 |some i=>
  rw[hi] at h
  cases hz:i.zero with
  |none=>simp [hz] at h
  |some z=>
   simp only[Option.bind_some,hz] at h
   split at h
   ·rename_i ha;cases h;exact ⟨i,z,rfl,hz,rfl,ha⟩
   ·cases h
theorem RepL_ofC (Z:Fl→Nat→Prop) (w:World) (L:Labs) (l:Lab):∀ (cs:List Value) (c:Nat),cs.all (·.oneCell')=true→RepL Z w L l c (cs.map ofC) cs
 |[],_,_=>by rw[List.map_nil,RepL];trivial
 |x :: cs,c,h=>by
  rw[List.all_cons,Bool.and_eq_true] at h
  rw[List.map_cons,RepL]
  exact ⟨RepC_ofC _ _ _ _ _ h.1,RepL_ofC Z w L l cs _ h.2⟩
theorem rowInfo_some {P:Program} {t:TypeId} {z:List T} (h:rowInfo P t=some z):∃ e i zv,P.underlying t=some (.slice e)∧P.info? e=some i∧i.zero=some zv ∧
  z=zv.cells.toList.map ofC∧zv.cells.toList.all (·.oneCell')=true∧z.length=i.size∧0<z.length∧i.bytes≤4096:=by
 unfold rowInfo at h
 split at h
 ·rename_i e he
  split at h
  ·rename_i z' hz
   split at h
   ·rename_i hc
    cases h
    obtain ⟨i,zv,h1,h2,h3,h4⟩:=zeroT_some hz
    refine ⟨e,i,zv,he,h1,h2,h3,h4,?_,hc.2.1,?_⟩
    ·have:=hc.1
     unfold Program.cellsOf at this
     rw[h1] at this
     exact this
    ·have:=hc.2.2
     rw[h1] at this
     exact this
   ·cases h
  ·cases h
 ·cases h
theorem heap_alloc_lt {o:Obj} {b:Nat} (h:b<w.heap.size):(w.alloc o).heap[b]?=w.heap[b]?:=by
 simp only[World.alloc]
 rw[Array.getElem?_push]
 rw[if_neg (by omega)]
theorem heap_alloc_at {o:Obj}:(w.alloc o).heap[w.heap.size]?=some o:=heap_alloc_new w o
theorem fresh_put {G':Gh} {w':World} {d:Nat} {x:Box} {v:LV} {u:Value} {xs:List (T×Value)} (s:Sim C G' ⟨fun u=>killV (d,0) [] (st.s u),fun m=>if m=(d,0) then x else st.b m⟩ xs a w')
  (hv:RepV C G' w' (fun m=>if m=(d,0) then x else st.b m) v u) (h:(fresh d x (.wrS d v (.ok ()))).run C.N st=some ((),st')):Sim C G' st' xs (a.put (some d) u) w':=by
 rw[run_fresh] at h
 simp only[M.run] at h
 split at h
 ·rename_i hlt
  cases h
  exact s.put hlt hv
 ·cases h
theorem OpOK.mk' {o:Oper} {d:Nat} {G':Gh} {w':World} {v:Value} (hd:o.dst=some d) (hx:(execOp a.eval o).run C.P w=.ok (.value v) w') (s:Sim C G' st' [] (a.put (some d) v) w'):OpOK C o st' a w:=
 ⟨G',w',v,.inl hx,by rw[hd];exact s⟩
theorem op_alloc (s:Sim C G st [] a w) {o:Oper} {t:TypeId} (ho:o.op=.alloc t) (h:(opM C.P o).run C.N st=some ((),st')):OpOK C o st' a w:=by
 unfold opM at h;rw[ho] at h
 simp only at h
 split at h
 ·rename_i d cs hd hz
  obtain ⟨i,z,h1,h2,h3,h4⟩:=zeroT_some hz
  obtain ⟨G',s',z',l',v1,v2⟩:=s.freshBox (w':=w.alloc (.cells z.cells t)) (d,0) (by simp) ⟨true,cs⟩ z.cells.toList (some (w.heap.size,[])) (fun _ _=>none)
   (fun _ _ _ _ _ h=>by cases h) (fun _ _ _ _ _ h=>by cases h)
   (fun B q e=>by
    cases e
    refine ⟨by simp,.inl s.size,fun m r e=>?_,fun e=>?_⟩
    ·have:=(s.lab _ _ e).1;omega
    ·have:=(s.zone _ e).2;omega)
   (fun b _ hb=>heap_alloc_lt hb) (by simp) ⟨rfl,rfl,rfl⟩
   (by show RepL _ _ _ _ _ cs _;rw[h3];exact RepL_ofC _ _ _ _ _ _ h4) (by show _=cs.length;rw[h3];simp)
   (fun _=>⟨_,rfl,t,by rw[heap_alloc_at]⟩)
  refine OpOK.mk' (v:=.pointer (some ⟨w.heap.size,0,none⟩)) hd ?_ (fresh_put s' ?_ h)
  ·unfold execOp;rw[ho]
   refine exec_v ?_
   simp [Instr.alloc,zeroValue,r_info h1,h2,newVar,newRow,go_sem]
  ·rw[RepV]
   refine ⟨w.heap.size,cs,by simp [offOf],by simp [rowAt],?_,fun _=>by simp⟩
   rw[l',boxLab_new];rfl
 ·cases h
theorem op_box (s:Sim C G st [] a w) {o:Oper} {t:TypeId} {x:Operand} (ho:o.op=.box t x) (h:(opM C.P o).run C.N st=some ((),st')):OpOK C o st' a w:=by
 unfold opM at h;rw[ho] at h
 simp only at h
 split at h
 ·rename_i d hd
  obtain ⟨v,hv,h⟩:=run_ev_some h
  have he:=s.ev hv
  rw[run_closeC] at h
  split at h
  ·rename_i xs st1 hc
   have hcr:=cells_rep he hc
   obtain ⟨G1,s1,z1,k1⟩:=closes_step _ s hcr hc
   have hlx:=closesS_length _ hc
   have hlu:=hcr.length
   obtain ⟨G',s',z',l',v1,v2⟩:=s1.freshBox (w':=w.alloc (.cells (a.eval x).cells t)) (d,0) (by simp) ⟨true,xs⟩ (a.eval x).cells.toList (some (w.heap.size,[])) (rowG xs.length fun j=>[j])
    (rowG_inj (k:=1) (fun _=>rfl) (fun j j' e=>by simpa using e)) (fun B q0 e j r e2=>by
     cases e
     unfold rowG at e2
     split at e2<;>simp at e2)
    (fun B q e=>by
     cases e
     refine ⟨by simp,.inl s1.size,fun m r e=>?_,fun e=>?_⟩
     ·have:=(s1.lab _ _ e).1;omega
     ·have:=(s1.zone _ e).2;omega)
    (fun b _ hb=>heap_alloc_lt hb) (by simp) ⟨rfl,rfl,rfl⟩
    (RepL.of_get fun i y hy=>by
     have hlt:i<(a.eval x).cells.toList.length:=by
      have:=(List.getElem?_eq_some_iff.1 hy).1
      simp only at this
      omega
     refine ⟨(a.eval x).cells.toList[i],by simp,?_⟩
     have hij:=(List.getElem?_eq_some_iff.1 hy).1
     have:=held_moved s1 (w':=w.alloc (.cells (a.eval x).cells t)) (D:=(d,0)) (g:=rowG xs.length fun j=>[j]) (nb:=some (w.heap.size,[])) (j:=i) (x:=y) (u:=(a.eval x).cells.toList[i]) (pl:=[i])
      (by rw[List.nil_append,List.getElem?_zip_eq_some];exact ⟨hy,by simp⟩) (fun r=>if_pos hij)
      (fun B q0 r e e2=>by cases e;have:=(s1.lab _ _ e2).1;omega) (fun b _ hb=>heap_alloc_lt hb)
      (fun B q0 e e2=>by cases e;have:=(s1.zone _ e2).2;omega)
     rw[Nat.zero_add]
     exact this) (by show _=xs.length;omega)
    (fun _=>⟨_,rfl,t,by rw[heap_alloc_at]⟩)
   refine OpOK.mk' (v:=.pointer (some ⟨w.heap.size,0,none⟩)) hd ?_ (fresh_put s' ?_ h)
   ·unfold execOp;rw[ho]
    refine exec_v ?_
    simp [Instr.box,newVar,newRow,go_sem]
   ·rw[RepV]
    refine ⟨w.heap.size,xs,by simp [offOf],by simp [rowAt],?_,fun _=>by simp⟩
    rw[l',boxLab_new];rfl
  ·cases h
 ·cases h
end
end TM
namespace TM
open Go
section
variable {C:Ctx} {G:Gh} {st st1 st':St} {hs:List (T×Value)} {a:Act} {w:World}
theorem row_box {Z:Fl→Nat→Prop} {w':World} {L':Labs} {D:Nm} {B cap:Nat} {us:Array Value} {e:TypeId} {wd:Nat} {es:List (List T)}
  (hh:w'.heap[B]?=some (.cells us e (0,0))) (hL:L' B=some (.box D,[0])) (hwd:0<wd) (hes:∀ x∈es,x.length=wd) (hsz:us.size=cap * wd) (hlc:es.length≤cap) (hcm:cap≤maxCap)
  (h0:es=[]→cap=0) (hr:RepLL Z w' L' (.box D,[0]) 0 es us.toList):RepL Z w' L' (.box D,[]) 0 [.sl .own es] [.slice (some ⟨B,0,none⟩) es.length cap]:=by
 rw[RepL,RepL]
 refine ⟨?_,trivial⟩
 rw[RepC]
 by_cases hne:es=[]
 ·exact ⟨some ⟨B,0,none⟩,cap,rfl,hlc,hcm,.inl ⟨hne,fun _=>h0 hne⟩⟩
 refine ⟨some ⟨B,0,none⟩,cap,rfl,hlc,hcm,.inr ⟨B,0,us,e,(0,0),wd,rfl,⟨hwd,fun _=>hne⟩,hh,?_,hes,fun _=>⟨by simpa [Lab.add] using hL,rfl,rfl,hsz⟩,fun h=>absurd rfl h,?_⟩⟩
 ·rw[hsz,Nat.zero_add];exact Nat.mul_le_mul_right _ hlc
 ·rw[List.drop_zero]
  exact hr
theorem ref_row {G':Gh} {w':World} {d:Nat} {es:List (List T)} {u:Value} {bx:Nm→Box} (h:RepL (C.Z G') w' G'.L (.box (d,0),[]) 0 [.sl .own es] [u]) (hb:(bx (d,0)).cells=[.sl .own es]) :
  RepV C G' w' bx (.ref (d,0) [0] 0 es.length) u:=by
 rw[RepL] at h
 obtain ⟨ad,cap,rfl,hd⟩:=Hdr.of_rep h.1
 rw[RepV]
 refine ⟨es,[],ad,cap,by rw[hb];rfl,Nat.zero_le _,Nat.le_refl _,hd,ad,by simp,fun _=>(shift_zero ad es).symm⟩
theorem evParts_run {α:Type} {N:Nat}:∀ {ps:List (Nat×Operand)} {k:List (Nat×LV)→M α} {r:α×St},(evParts ps k).run N st=some r→(s:Sim C G st hs a w) →
  ∃ vs,(k vs).run N st=some r∧vs.map (·.1)=ps.map (·.1)∧∀ (i:Nat) (v:Nat×LV) (x:Nat×Operand),vs[i]?=some v→ps[i]?=some x→v.1=x.1∧RepV C G w st.b v.2 (a.eval x.2)
 |[],k,r,h,s=>⟨[],h,rfl,fun i v x hv=>by simp at hv⟩
 |(i,x) :: ps,k,r,h,s=>by
  simp only[evParts] at h
  obtain ⟨v,hv,h⟩:=run_ev_some h
  obtain ⟨vs,h1,h2,h3⟩:=evParts_run h s
  refine ⟨(i,v) :: vs,h1,by simp [h2],fun j v' x' hv' hx'=>?_⟩
  cases j with
  |zero=>simp at hv' hx';subst hv';subst hx';exact ⟨rfl,s.ev hv⟩
  |succ j=>exact h3 j v' x' (by simpa using hv') (by simpa using hx')
theorem foldl_put (off:Nat):∀ (l:List Value) (s:Nat) (cs:Array Value) (k:Nat),off+s+l.length≤cs.size →
  ((l.zipIdx s).foldl (fun cs (p:Value×Nat)=>cs.setIfInBounds (off+p.2) p.1) cs)[k]?=if off+s≤k∧k<off+s+l.length then l[k-(off+s)]? else cs[k]?
 |[],s,cs,k,_=>by simp;omega
 |x :: l,s,cs,k,h=>by
  rw[List.zipIdx_cons,List.foldl_cons,foldl_put off l (s+1) _ k (by simp only[List.length_cons,Array.size_setIfInBounds] at h ⊢;omega)]
  simp only[List.length_cons] at h ⊢
  by_cases hk:k=off+s
  ·subst hk
   rw[if_neg (by omega),if_pos (by omega)]
   have hlt:off+s<cs.size:=by omega
   simp [hlt]
  ·by_cases h1:off+(s+1)≤k∧k<off+(s+1)+l.length
   ·rw[if_pos h1,if_pos (by omega)]
    rw[show k-(off+s)=(k-(off+(s+1)))+1 by omega,List.getElem?_cons_succ]
   ·rw[if_neg h1,if_neg (by omega),Array.getElem?_setIfInBounds_ne (by omega)]
theorem foldl_size (off:Nat):∀ (l:List (Value×Nat)) (cs:Array Value),(l.foldl (fun cs (p:Value×Nat)=>cs.setIfInBounds (off+p.2) p.1) cs).size=cs.size
 |[],cs=>rfl
 |x :: l,cs=>by rw[List.foldl_cons,foldl_size off l];simp
theorem fill_put (off:Nat) (vs cs:Array Value) (h:off+vs.size≤cs.size) :
  (vs.zipIdx.foldl (fun cs (c,j)=>cs.setIfInBounds (off+j) c) cs).toList=cs.toList.take off++vs.toList++cs.toList.drop (off+vs.size)∧(vs.zipIdx.foldl (fun cs (c,j)=>cs.setIfInBounds (off+j) c) cs).size=cs.size:=by
 have e:(vs.zipIdx.foldl (fun cs (c,j)=>cs.setIfInBounds (off+j) c) cs)=(vs.toList.zipIdx 0).foldl (fun cs (p:Value×Nat)=>cs.setIfInBounds (off+p.2) p.1) cs:=by
  rw[← Array.foldl_toList]
  simp
 rw[e]
 refine ⟨?_,foldl_size off _ _⟩
 apply List.ext_getElem?
 intro k
 rw[Array.getElem?_toList,foldl_put off _ 0 _ _ (by simpa using h)]
 simp only[Nat.add_zero,Array.length_toList]
 have hto:(cs.toList.take off).length=off:=by simp;omega
 by_cases h1:k<off
 ·rw[if_neg (by omega),List.append_assoc,List.getElem?_append_left (by omega),List.getElem?_take,if_pos h1]
  simp
 ·by_cases h2:k<off+vs.size
  ·rw[if_pos (by omega),List.append_assoc,List.getElem?_append_right (by omega),hto,List.getElem?_append_left (by simp;omega)]
  ·rw[if_neg (by omega),List.getElem?_append_right (by simp;omega)]
   simp only[List.length_append,hto,Array.length_toList,List.getElem?_drop,Array.getElem?_toList]
   congr 1
   omega
theorem regroup_fill {wd:Nat}:∀ (ps:List (Nat×LV)) (xs:List T) (s:Nat) {es:List (List T)},xs.length=(ps.flatMap fun p=>p.2.cells).length→fillE wd s (regroup ps xs)=some es →
  ps.map (·.1)=List.range' s ps.length∧es.length=ps.length∧(∀ p∈ps,p.2.cells.length=wd)∧(∀ e∈es,e.length=wd)∧xs.length=ps.length * wd∧∀ i e,es[i]?=some e→e=(xs.drop (i * wd)).take wd
 |[],xs,s,es,hl,h=>by
  simp only[regroup,fillE,Option.some.injEq] at h
  subst h
  simp at hl
  subst hl
  simp
 |(i,x) :: ps,xs,s,es,hl,h=>by
  simp only[regroup,fillE] at h
  split at h
  ·rename_i hc
   obtain ⟨es',h',rfl⟩:=Option.map_eq_some_iff.1 h
   simp only[List.flatMap_cons,List.length_append] at hl
   obtain ⟨k1,k2,k3,k4,k5,k6⟩:=regroup_fill ps (xs.drop x.cells.length) (s+1) (by rw[List.length_drop];omega) h'
   have hx:x.cells.length=wd:=by
    have:=hc.1
    rw[List.length_take,hl] at this
    omega
   refine ⟨?_,by simp [k2],?_,?_,?_,?_⟩
   ·simp only[List.map_cons,List.length_cons,List.range'_succ,k1,hc.2]
   ·intro p hp
    rcases List.mem_cons.1 hp with rfl | hp
    ·exact hx
    ·exact k3 p hp
   ·intro e he
    rcases List.mem_cons.1 he with rfl | he
    ·exact hc.1
    ·exact k4 e he
   ·rw[List.length_drop,hx] at k5
    simp only[List.length_cons,Nat.add_mul]
    omega
   ·intro j e he
    cases j with
    |zero=>simp at he;rw[← he,hx];simp
    |succ j=>
     have:=k6 j e (by simpa using he)
     rw[this,hx,List.drop_drop,Nat.add_mul]
     congr 2
     omega
  ·cases h
theorem fill_row (wd:Nat):∀ (ps:List (Nat×Value)) (s:Nat) (cs:Array Value),ps.map (·.1)=List.range' s ps.length→(∀ p∈ps,p.2.cells.size=wd)→(s+ps.length) * wd≤cs.size →
  ∃ cs',Instr.fill (fun i=>some (i * wd,wd)) cs ps=some cs'∧cs'.toList=cs.toList.take (s * wd)++(ps.flatMap fun p=>p.2.cells.toList)++cs.toList.drop ((s+ps.length) * wd)
 |[],s,cs,_,_,_=>⟨cs,rfl,by simp⟩
 |(i,v) :: ps,s,cs,h1,h2,h3=>by
  simp only[List.map_cons,List.length_cons,List.range'_succ,List.cons.injEq] at h1
  obtain ⟨rfl,h1⟩:=h1
  have hv:=h2 _ (List.mem_cons_self ..)
  simp only at hv
  simp only[List.length_cons] at h3
  have h3':i * wd+wd≤cs.size:=by
   refine Nat.le_trans ?_ h3
   rw[← Nat.succ_mul]
   exact Nat.mul_le_mul_right _ (by omega)
  obtain ⟨hput,hsz⟩:=fill_put (i * wd) v.cells cs (by omega)
  rw[show i+(ps.length+1)=i+1+ps.length by omega] at h3
  simp only[Instr.fill]
  rw[if_neg (by rw[hv];simp;omega)]
  obtain ⟨cs',k1,k2⟩:=fill_row wd ps (i+1) _ h1 (fun p hp=>h2 p (by simp [hp])) (by
   rw[hsz]
   exact h3)
  refine ⟨cs',k1,?_⟩
  rw[k2,hput,hv]
  have hl:(cs.toList.take (i * wd)).length=i * wd:=by simp;omega
  rw[show (i+1) * wd=i * wd+wd by rw[Nat.succ_mul]]
  have hl2:(cs.toList.take (i * wd)++v.cells.toList).length=i * wd+wd:=by rw[List.length_append,hl];simp [hv]
  rw[List.take_append_of_le_length (by omega),List.take_of_length_le (by omega),List.flatMap_cons]
  have hdr:∀ k,i * wd+wd≤k→(cs.toList.take (i * wd)++v.cells.toList++cs.toList.drop (i * wd+wd)).drop k=cs.toList.drop k:=by
   intro k hk
   rw[List.drop_append,List.drop_eq_nil_of_le (by omega),List.nil_append,hl2,List.drop_drop]
   congr 1
   omega
  rw[hdr _ (by
   rw[← Nat.succ_mul]
   exact Nat.mul_le_mul_right _ (by omega))]
  simp only[List.length_cons,List.append_assoc]
  rw[show i+(ps.length+1)=i+1+ps.length by omega]
theorem op_buildSlice (s:Sim C G st [] a w) {o:Oper} {t:TypeId} {len:Nat} {parts:Array (Nat×Operand)} (ho:o.op=.buildSlice t len parts) (h:(opM C.P o).run C.N st=some ((),st')):OpOK C o st' a w:=by
 unfold opM at h;rw[ho] at h
 simp only at h
 split at h
 ·rename_i d z hd hz
  split at h
  ·rename_i hbig
   obtain ⟨e,i,zv,h1,h2,h3,h4,h5,h6,h7,h8⟩:=rowInfo_some hz
   obtain ⟨vs,h,hidx,hrep⟩:=evParts_run h s
   rw[run_closeParts] at h
   split at h
   ·rename_i xs st1 hc
    split at h
    ·rename_i es hes
     split at h
     ·rename_i hlen
      have hlx:=closesS_length _ hc
      obtain ⟨q1,q2,q3,q4,q5,q6⟩:=regroup_fill vs xs 0 hlx hes
      have hlv:vs.length=parts.toList.length:=by
       have:=congrArg List.length hidx
       simpa using this
      have hcells:∀ (vs:List (Nat×LV)) (ps:List (Nat×Operand)) (st1 st2:St) (ys:List T),vs.map (·.1)=ps.map (·.1)→(∀ (i:Nat) (v:Nat×LV) (x:Nat×Operand),vs[i]?=some v→ps[i]?=some x→v.1=x.1∧RepV C G w st.b v.2 (a.eval x.2)) →
        st1.closesS (vs.flatMap fun p=>p.2.cells)=some (ys,st2)→RepVs C G w st.b (vs.flatMap fun p=>p.2.cells) (ps.flatMap fun p=>(a.eval p.2).cells.toList)∧∀ (i:Nat) (v:Nat×LV) (x:Nat×Operand),vs[i]?=some v→ps[i]?=some x→v.2.cells.length=(a.eval x.2).cells.size:=by
       intro vs
       induction vs with
       |nil=>
        intro ps st1 st2 ys h1 _ _
        have:ps=[]:=by
         cases ps with
         |nil=>rfl
         |cons p ps=>simp at h1
        subst this
        exact ⟨by simp [RepVs],fun i v x hv=>by simp at hv⟩
       |cons v vs ih=>
        intro ps st1 st2 ys h1 hr hc
        cases ps with
        |nil=>simp at h1
        |cons p ps=>
         simp only[List.flatMap_cons] at hc ⊢
         rw[closesS_append] at hc
         split at hc
         ·rename_i ys1 st3 hc1
          split at hc
          ·rename_i ys2 st4 hc2
           cases hc
           have hv:=cells_rep (hr 0 v p rfl rfl).2 hc1
           obtain ⟨g1,g2⟩:=ih ps _ _ _ (by simpa using (by simpa using h1:_∧_).2) (fun i v' x' e1 e2=>hr (i+1) v' x' (by simpa using e1) (by simpa using e2)) hc2
           have hll:=hv.length
           refine ⟨RepVs.of_get (by simp [g1.length,hll]) fun i v' u' e1 e2=>?_,fun i v' x' e1 e2=>?_⟩
           ·rw[List.getElem?_append] at e1 e2
            rw[hll] at e2
            by_cases hi:i<v.2.cells.length
            ·rw[if_pos hi] at e1 e2
             obtain ⟨u2,e3,e4⟩:=hv.get i v' e1
             rw[e3] at e2;cases e2;exact e4
            ·rw[if_neg hi] at e1 e2
             obtain ⟨u2,e3,e4⟩:=g1.get _ v' e1
             rw[e3] at e2;cases e2;exact e4
           ·cases i with
            |zero=>simp at e1 e2;subst e1;subst e2;simpa using hll.symm
            |succ i=>exact g2 i v' x' (by simpa using e1) (by simpa using e2)
          ·cases hc
         ·cases hc
      obtain ⟨hcr,hcl⟩:=hcells vs parts.toList st st1 xs hidx hrep hc
      obtain ⟨G1,s1,z1,k1⟩:=closes_step _ s hcr hc
      have hlu:=hcr.length
      have hwd:0<z.length:=h7
      have hll:parts.toList.length=len:=by omega
      obtain ⟨cs',f1,f2⟩:=fill_row z.length (parts.toList.map fun p=>(p.1,a.eval p.2)) 0 ((Array.range (len * z.length)).map (fun j=>(zv.cells)[j % zv.cells.size]!))
       (by
        rw[List.map_map,List.length_map,← hlv,← q1,hidx]
        rfl)
       (fun p hp=>by
        obtain ⟨p0,hp0,rfl⟩:=List.mem_map.1 hp
        obtain ⟨j,hj⟩:=List.mem_iff_getElem?.1 hp0
        have hjl:j<vs.length:=by have:=(List.getElem?_eq_some_iff.1 hj).1;omega
        have:=hcl j vs[j] p0 (by simp) hj
        rw[← this]
        exact q3 _ (by simp))
       (by simp [hll])
      have f2':cs'.toList=(parts.toList.flatMap fun p=>(a.eval p.2).cells.toList):=by
       rw[f2]
       simp [hll,List.flatMap_map]
      have hcsz:cs'.size=len * z.length:=by
       have:=congrArg List.length f2'
       rw[hlu,← hlx,q5] at this
       simp at this
       rw[this,hlv];simp [← hll]
      obtain ⟨G',s',z',l',v1,v2⟩:=s1.freshBox (w':=w.alloc (.cells cs' e)) (d,0) (by simp) ⟨false,[.sl .own es]⟩ [.slice (some ⟨w.heap.size,0,none⟩) es.length len] (some (w.heap.size,[0])) (rowG xs.length fun j=>[0,j / z.length,j % z.length])
       (rowG_inj (k:=3) (fun _=>rfl) (fun j j' e=>by
        simp at e
        rw[← Nat.div_add_mod j z.length,← Nat.div_add_mod j' z.length,e.1,e.2])) (fun B q0 e j r e2=>by
        cases e
        unfold rowG at e2
        split at e2<;>simp at e2)
       (fun B q e=>by
        cases e
        refine ⟨by simp,.inl s1.size,fun m r e=>?_,fun e=>?_⟩
        ·have:=(s1.lab _ _ e).1;omega
        ·have:=(s1.zone _ e).2;omega)
       (fun b _ hb=>heap_alloc_lt hb) (by simp) ⟨rfl,rfl,rfl⟩
       (by
        refine row_box heap_alloc_at boxLab_new hwd q4 (by rw[hcsz]) (by omega) ?_ (fun h=>by rw[h] at hlen;exact hlen.symm) ?_
        ·unfold maxCap
         have:len * 1≤len * z.length:=Nat.mul_le_mul_left _ hwd
         omega
        ·refine RepLL.of_get (wd:=z.length) q4 fun i e' he=>RepL.of_get fun c y hy=>?_
         have hie:=q6 i e' he
         have hcl:c<z.length:=by
          have:=(List.getElem?_eq_some_iff.1 hy).1
          have:=q4 e' (List.mem_of_getElem? he)
          omega
         rw[hie,List.getElem?_take,if_pos hcl,List.getElem?_drop] at hy
         have hlt:=(List.getElem?_eq_some_iff.1 hy).1
         refine ⟨cs'.toList[i * z.length+c]'(by rw[f2'];omega),by simp,?_⟩
         have:=held_moved s1 (w':=w.alloc (.cells cs' e)) (D:=(d,0)) (g:=rowG xs.length fun j=>[0,j / z.length,j % z.length]) (nb:=some (w.heap.size,[0])) (j:=i * z.length+c) (x:=y) (u:=cs'.toList[i * z.length+c]'(by rw[f2'];omega)) (pl:=[0,i,c])
          (by
           rw[List.nil_append,List.getElem?_zip_eq_some]
           refine ⟨hy,?_⟩
           simp only[← f2']
           exact List.getElem?_eq_getElem _) (fun r=>by
           unfold rowG
           rw[if_pos hlt]
           have e1:(i * z.length+c) / z.length=i:=by rw[Nat.mul_comm,Nat.mul_add_div hwd,Nat.div_eq_of_lt hcl,Nat.add_zero]
           have e2:(i * z.length+c) % z.length=c:=by rw[Nat.mul_comm,Nat.mul_add_mod,Nat.mod_eq_of_lt hcl]
           show some ([0,(i * z.length+c) / z.length,(i * z.length+c) % z.length]++r)=_
           rw[e1,e2])
          (fun B q0 r e e2=>by cases e;have:=(s1.lab _ _ e2).1;omega) (fun b _ hb=>heap_alloc_lt hb)
          (fun B q0 e e2=>by cases e;have:=(s1.zone _ e2).2;omega)
         simpa [Lab.add] using this)
       rfl (fun h=>by cases h)
      refine OpOK.mk' (v:=.slice (some ⟨w.heap.size,0,none⟩) len len) hd ?_ (fresh_put s' ?_ h)
      ·unfold execOp;rw[ho]
       refine exec_v ?_
       have hb':¬ (16777216<len * i.size):=by rw[← h6];omega
       have f1':Instr.fill (fun j=>some (j * i.size,i.size)) ((Array.range (len * i.size)).map (fun j=>(zv.cells)[j % zv.cells.size]!)) (parts.toList.map fun p=>(p.1,a.eval p.2))=some cs':=by
        rw[← h6];exact f1
       by_cases h0:len * i.size=0
       ·have hl0:len=0:=by
         rcases Nat.mul_eq_zero.1 h0 with h | h
         ·exact h
         ·omega
        subst hl0
        have hp:parts=#[]:=by
         have:=hll
         simp at this
         exact this
        subst hp
        simp at f1'
        have:cs'=#[]:=by
         simp only[Instr.fill,Option.some.injEq] at f1'
         rw[← f1'];simp
        subst this
        simp [Instr.buildSlice,r_und h1,r_size h2,newRow,go_sem,Instr.fill]
       ·simp [Instr.buildSlice,r_und h1,r_size h2,zeroValue,r_info h2,h3,hb',h0,newRow,f1']
      ·have:=(s'.box (d,0)).1
       simp only[if_true] at this
       rw[v2] at this
       have hh:=ref_row (bx:=fun m=>if m=(d,0) then ⟨false,[.sl .own es]⟩ else st1.b m) this (by simp)
       rw[← hlen]
       rw[← hlen] at hh
       exact hh
     ·cases h
    ·cases h
   ·cases h
  ·cases h
 ·cases h
end
end TM
namespace TM
open Go
section
variable {C:Ctx} {G:Gh} {st st1 st':St} {hs:List (T×Value)} {a:Act} {w:World}
theorem madeCells_at (z:Array Value) (n j:Nat) (hj:j<n) (hz:0<z.size):(madeCells z n)[j]?=z[j % z.size]?:=by
 have:j % z.size<z.size:=Nat.mod_lt _ hz
 simp [madeCells,hj,this]
theorem op_makeSlice (s:Sim C G st [] a w) {o:Oper} {t:TypeId} {l c:Operand} (ho:o.op=.makeSlice t l c) (h:(opM C.P o).run C.N st=some ((),st')):OpOK C o st' a w:=by
 unfold opM at h;rw[ho] at h
 simp only at h
 split at h
 ·rename_i d z hd hz
  obtain ⟨e,i,zv,h1,h2,h3,h4,h5,h6,h7,h8⟩:=rowInfo_some hz
  obtain ⟨v,hv,h⟩:=run_ev_some h
  obtain ⟨u,hu,h⟩:=run_ev_some h
  have he:=s.ev hv
  have he2:=s.ev hu
  split at h
  ·rename_i n m _
   split at h
   ·rename_i hn
    obtain ⟨hn0,hn1,rfl⟩:=hn
    have e1:=RepV_v he
    have e2:=RepV_v he2
    have hzl:zv.cells.size=i.size:=by rw[← h6,h4];simp
    have hwd:0<z.length:=h7
    have hb1:(i.bytes:Int) * m≤281474976710656:=by
     have:(i.bytes:Int) * m≤4096 * 1073741824:=Int.mul_le_mul (by omega) hn1 hn0 (by omega)
     omega
    have hr:=run_make (P:=C.P) w t e i zv h1 h2 h3 .i64 .i64 m m hn0 (Int.le_refl _) hb1 (by omega)
    have hrep:∀ x∈List.replicate m.toNat z,x.length=z.length:=fun x hx=>by rw[(List.mem_replicate.1 hx).2]
    obtain ⟨G',s',z',l',v1,v2⟩:=s.freshBox (w':=w.alloc (.cells (madeCells zv.cells (m.toNat * i.size)) e)) (d,0) (by simp) ⟨false,[.sl .own (List.replicate m.toNat z)]⟩ [.slice (some ⟨w.heap.size,0,none⟩) (List.replicate m.toNat z).length m.toNat] (some (w.heap.size,[0])) (fun _ _=>none)
     (fun _ _ _ _ _ h=>by cases h) (fun _ _ _ _ _ h=>by cases h)
     (fun B q e=>by
      cases e
      refine ⟨by simp,.inl s.size,fun m r e=>?_,fun e=>?_⟩
      ·have:=(s.lab _ _ e).1;omega
      ·have:=(s.zone _ e).2;omega)
     (fun b _ hb=>heap_alloc_lt hb) (by simp) ⟨rfl,rfl,rfl⟩
     (by
      refine row_box heap_alloc_at boxLab_new hwd hrep (by rw[size_madeCells,h6]) (by simp) (by unfold maxCap;omega) (fun h=>by have:=congrArg List.length h;simpa using this) ?_
      refine RepLL.of_get (wd:=z.length) hrep fun j e' he'=>?_
      have hz':e'=z:=(List.mem_replicate.1 (List.mem_of_getElem? he')).2
      have hjl:j<m.toNat:=by
       have:=(List.getElem?_eq_some_iff.1 he').1
       simpa using this
      subst hz'
      have hbase:=RepL_ofC (C.Z G) (w.alloc (.cells (madeCells zv.cells (m.toNat * i.size)) e)) (boxLab (d,0) (fun _ _=>none) (some (w.heap.size,[0])) G.L) (Lab.add (.box (d,0),[0]) (0+j)) zv.cells.toList 0 h5
      rw[← h4] at hbase
      refine hbase.more fun c hc=>?_
      have hlt:j * e'.length+c<m.toNat * i.size:=by
       have:(j+1) * i.size≤m.toNat * i.size:=Nat.mul_le_mul_right _ hjl
       rw[Nat.add_mul] at this
       rw[h6];omega
      rw[List.getElem?_drop,Array.getElem?_toList,madeCells_at _ _ _ hlt (by omega),Array.getElem?_toList,hzl,← h6,Nat.mul_comm,Nat.mul_add_mod,Nat.mod_eq_of_lt (by omega)])
     rfl (fun h=>by cases h)
    refine OpOK.mk' (v:=.slice (some ⟨w.heap.size,0,none⟩) m.toNat m.toNat) hd ?_ (fresh_put s' ?_ h)
    ·unfold execOp;rw[ho]
     refine exec_v ?_
     rw[e1,e2]
     exact hr
    ·have:=(s'.box (d,0)).1
     simp only[if_true] at this
     rw[v2] at this
     have hh:=ref_row (bx:=fun n=>if n=(d,0) then ⟨false,[.sl .own (List.replicate m.toNat z)]⟩ else st.b n) this (by simp)
     simp only[List.length_replicate] at hh
     exact hh
   ·cases h
  ·cases h
 ·cases h
theorem RepVs.append:∀ {xs ys:List LV} {us vs:List Value},RepVs C G w st.b xs us→RepVs C G w st.b ys vs→RepVs C G w st.b (xs++ys) (us++vs)
 |[],ys,us,vs,h,h'=>by rw[RepVs] at h;subst h;exact h'
 |x :: xs,ys,[],vs,h,h'=>by rw[RepVs] at h;exact h.elim
 |x :: xs,ys,u :: us,vs,h,h'=>by
  rw[RepVs] at h
  rw[List.cons_append,List.cons_append,RepVs]
  exact ⟨h.1,RepVs.append h.2 h'⟩
theorem RepVs.take' {xs:List LV} {us:List Value} (h:RepVs C G w st.b xs us) (k:Nat):RepVs C G w st.b (xs.take k) (us.take k):=
 RepVs.of_get (by simp [h.length]) fun i v u h1 h2=>by
  rw[List.getElem?_take] at h1 h2
  split at h1
  ·rename_i hi
   rw[if_pos hi] at h2
   obtain ⟨u',h3,h4⟩:=h.get i v h1
   rw[h3] at h2;cases h2;exact h4
  ·cases h1
theorem RepVs.drop' {xs:List LV} {us:List Value} (h:RepVs C G w st.b xs us) (k:Nat):RepVs C G w st.b (xs.drop k) (us.drop k):=
 RepVs.of_get (by simp [h.length]) fun i v u h1 h2=>by
  rw[List.getElem?_drop] at h1 h2
  obtain ⟨u',h3,h4⟩:=h.get _ v h1
  rw[h3] at h2;cases h2;exact h4
theorem cells_live {v:LV} {u:Value} (hv:RepV C G w st.b v u) (hd:v.isDead=false):RepVs C G w st.b v.cells u.cells.toList:=by
 have single:∀ (hu:u.cells=#[u]),RepVs C G w st.b [v] u.cells.toList:=by
  intro hu
  rw[hu]
  show RepVs C G w st.b [v] [u]
  rw[RepVs,RepVs]
  exact ⟨hv,rfl⟩
 cases v with
 |t x=>
  refine single ?_
  rw[RepV] at hv
  exact cells_one hv.one
 |ref n p lo hi=>
  refine single ?_
  rw[RepV] at hv
  obtain ⟨_,_,_,_,_,_,_,_,_,rfl,_⟩:=hv
  rfl
 |addr n p=>
  refine single ?_
  rw[RepV] at hv
  obtain ⟨_,_,rfl,_⟩:=hv
  rfl
 |raddr cs=>
  refine single ?_
  rw[RepV] at hv
  obtain ⟨_,_,_,_,_,_,rfl,_⟩:=hv
  rfl
 |agg vs=>
  rw[RepV] at hv
  obtain ⟨us,rfl,hr⟩:=hv
  exact hr
 |tup vs=>
  refine single ?_
  rw[RepV] at hv
  obtain ⟨us,rfl,hr⟩:=hv
  rfl
 |fn g caps=>
  refine single ?_
  rw[RepV] at hv
  obtain ⟨us,rfl,hr⟩:=hv
  rfl
 |va vs=>
  refine single ?_
  rw[RepV] at hv
  obtain ⟨_,_,_,_,_,rfl,_⟩:=hv
  rfl
 |dead=>cases hd
theorem fill_build {places:List (Nat×Nat)}:∀ (vs:List (Nat×LV)) (ps:List (Nat×Value)) {cs xs:List LV} {cells:Array Value},vs.length=ps.length →
  (∀ (i:Nat) (v:Nat×LV) (x:Nat×Value),vs[i]?=some v→ps[i]?=some x→v.1=x.1∧RepV C G w st.b v.2 x.2)→fillL places cs vs=some xs→RepVs C G w st.b cs cells.toList →
  ∃ cells',Instr.fill (fun i=>places[i]?) cells ps=some cells'∧RepVs C G w st.b xs cells'.toList
 |[],[],cs,xs,cells,_,_,h,hr=>by
  simp only[fillL,Option.some.injEq] at h
  subst h
  exact ⟨cells,rfl,hr⟩
 |[],_ :: _,_,_,_,hl,_,_,_=>by simp at hl
 |_ :: _,[],_,_,_,hl,_,_,_=>by simp at hl
 |(i,v) :: vs,(i',u) :: ps,cs,xs,cells,hl,hp,h,hr=>by
  obtain ⟨e,hv⟩:=hp 0 _ _ rfl rfl
  simp only at e hv
  subst e
  simp only[fillL] at h
  split at h
  ·rename_i o sz hpl
   split at h
   ·rename_i hc
    obtain ⟨c1,c2,c3⟩:=hc
    have hcr:=cells_live hv c3
    have hll:=hcr.length
    have hcl:=hr.length
    simp only[Array.length_toList] at hll hcl
    have hput:=fill_put o u.cells cells (by omega)
    simp only[Instr.fill,hpl]
    rw[if_neg (by simp;omega)]
    refine fill_build vs ps (by simpa using hl) (fun j v' x' h1 h2=>hp (j+1) v' x' (by simpa using h1) (by simpa using h2)) h ?_
    rw[hput.1,hll,c1]
    exact ((hr.take' o).append hcr).append (hr.drop' _)
   ·cases h
  ·cases h
theorem mapM_places {P:Program}:∀ (fs:List Field) {l:List (Nat×Nat)},(fs.mapM fun f=>(P.info? f.type).map fun i=>(f.offset,i.size))=some l →
  ∀ (w:World),(fs.mapM (fun f=>do pure (f.offset,← sizeOf f.type):Field→Sem (Nat×Nat))).run P w=.ok l w
 |[],l,h,w=>by
  simp at h
  subst h
  rfl
 |f :: fs,l,h,w=>by
  rw[List.mapM_cons] at h
  cases hi:P.info? f.type with
  |none=>simp [hi] at h
  |some i=>
   cases hr:(fs.mapM fun f=>(P.info? f.type).map fun i=>(f.offset,i.size)) with
   |none=>simp [hi,hr] at h
   |some l'=>
    simp [hi,hr] at h
    subst h
    rw[List.mapM_cons]
    simp only[Sem.run_bind,r_size hi,Result.andThen_ok,Sem.run_pure,mapM_places fs hr w]
theorem op_build (s:Sim C G st [] a w) {o:Oper} {t:TypeId} {parts:Array (Nat×Operand)} (ho:o.op=.build t parts) (h:(opM C.P o).run C.N st=some ((),st')):OpOK C o st' a w:=by
 unfold opM at h;rw[ho] at h
 simp only at h
 split at h
 ·rename_i cs fs hb
  obtain ⟨vs,h,hidx,hrep⟩:=evParts_run h s
  split at h
  ·rename_i xs hf
   unfold buildInfo at hb
   split at hb
   ·rename_i z fields hz hu
    obtain ⟨l,hl,hb⟩:=Option.map_eq_some_iff.1 hb
    cases hb
    obtain ⟨i,zv,h1,h2,h3,h4⟩:=zeroT_some hz
    have hplaces:=mapM_places fields.toList hl w
    have hlen:vs.length=(parts.toList.map fun p=>(p.1,a.eval p.2)).length:=by
     have:=congrArg List.length hidx
     simpa using this
    obtain ⟨cells',f1,f2⟩:=fill_build (C:=C) (G:=G) (w:=w) (st:=st) vs (parts.toList.map fun p=>(p.1,a.eval p.2)) (cells:=zv.cells) hlen (fun j v x e1 e2=>by
     rw[List.getElem?_map] at e2
     obtain ⟨p,hp,rfl⟩:=Option.map_eq_some_iff.1 e2
     exact hrep j v p e1 hp) hf (by
     rw[h3,List.map_map]
     exact RepVs_ofC _ h4)
    refine OpOK.of_out s (u:=.agg cells') ?_ (by rw[RepV];exact ⟨cells',rfl,f2⟩) h
    unfold execOp;rw[ho]
    refine exec_v ?_
    have hpl:(fields.mapM (fun f=>do pure (f.offset,← sizeOf f.type):Field→Sem (Nat×Nat))).run C.P w=.ok fs.toArray w:=by
     rw[← Array.toArray_toList (xs:=fields)]
     rw[List.mapM_toArray]
     simp only[Sem.run_map,hplaces,Result.andThen_ok]
    simp only[Instr.build,Sem.run_bind,zeroValue,r_info h1,h2,Result.andThen_ok,Sem.run_pure,r_und hu,hpl]
    have f1':Instr.fill (fun i=>fs.toArray[i]?) zv.cells (parts.map fun (i,x)=>(i,a.eval x)).toList=some cells':=by
     simpa using f1
    rw[f1']
    rfl
   ·cases hb
  ·cases h
 ·cases h
end
end TM
namespace TM
open Go
section
variable {C:Ctx} {G:Gh} {st st1 st':St} {hs:List (T×Value)} {a:Act} {w:World}
theorem RepL.ones {Z:Fl→Nat→Prop} {L:Labs} {l:Lab} {ts:List T} {c:Nat} {us:List Value} (h:RepL Z w L l c ts us):∀ i u,i<ts.length→us[i]?=some u→u.oneCell'=true:=by
 intro i u hi hu
 obtain ⟨u',h1,h2⟩:=h.get i ts[i] (by simp [hi])
 rw[h1] at hu
 cases hu
 exact h2.one
theorem row_of {Z:Fl→Nat→Prop} {L:Labs} {l:Lab} {f:Fl} {es:List (List T)} {ad:Option Addr} {n cap wd:Nat} (h:RepC Z w L l (.sl f es) (.slice ad n cap)) (hw:∀ e∈es,e.length=wd) (hne:es≠[]) :
  n=es.length∧n≤cap∧cap≤maxCap∧∃ b off vs ty fr xs,ad=some ⟨b,off,none⟩∧w.heap[b]?=some (.cells vs ty fr)∧off+n * wd≤vs.size∧(f=.own→L b=some l∧off=0∧fr=(0,0)∧vs.size=cap * wd)∧(f≠.own→Z f b) ∧
   xs=(vs.toList.drop off).take (n * wd)∧xs.length=n * wd∧(∀ u∈xs,u.oneCell'=true)∧(∀ i e,es[i]?=some e→RepL Z w (f.labs L) (l.add i) 0 e (xs.drop (i * wd))):=by
 rw[RepC] at h
 obtain ⟨a,cap',hu,h1,h2,h3⟩:=h
 cases hu
 rcases h3 with ⟨h,_⟩ | ⟨b,off,vs,ty,fr,wd',ha,hwd,hh,hsz,hes,ho,hz,hr⟩
 ·exact (hne h).elim
 ·have hww:wd'=wd:=by
   cases es with
   |nil=>exact (hne rfl).elim
   |cons e es=>rw[← hes e (by simp),hw e (by simp)]
  subst hww
  refine ⟨rfl,h1,h2,b,off,vs,ty,fr,_,ha,hh,hsz,ho,hz,rfl,?_,?_,?_⟩
  ·simp;omega
  ·intro u hu
   obtain ⟨k,hk⟩:=List.mem_iff_getElem?.1 hu
   rw[List.getElem?_take] at hk
   split at hk
   ·rename_i hlt
    have hd:k / wd'<es.length:=by rw[Nat.div_lt_iff_lt_mul hwd.1];exact hlt
    have hrow:=RepLL.get hes hr (k / wd') es[k / wd'] (by simp)
    have hl:=hes es[k / wd'] (by simp)
    have hm:k % wd'<wd':=Nat.mod_lt _ hwd.1
    refine hrow.ones (k % wd') u (by omega) ?_
    rw[List.getElem?_drop,Nat.mul_comm,Nat.div_add_mod]
    exact hk
   ·cases hk
  ·intro i e he
   have hrow:=RepLL.get hes hr i e he
   rw[Nat.zero_add] at hrow
   refine hrow.more fun c hc=>?_
   have hl:=hes e (List.mem_of_getElem? he)
   have hi:i<es.length:=(List.getElem?_eq_some_iff.1 he).1
   have:(i+1) * wd'≤es.length * wd':=Nat.mul_le_mul_right _ hi
   rw[Nat.add_mul] at this
   rw[List.getElem?_drop,List.getElem?_drop,List.getElem?_take,if_pos (by omega)]
theorem cells_of_row {_P:Program} {b off:Nat} {vs:Array Value} {ty:TypeId} {fr:Nat×Nat} {k:Nat} (h:w.heap[b]?=some (.cells vs ty fr)) :
  ∀ j u,((vs.toList.drop off).take k)[j]?=some u→w.cell? ((⟨b,off,none⟩:Addr).add j)=some u:=by
 intro j u hj
 rw[add_off,cell_at h]
 rw[List.getElem?_take] at hj
 split at hj
 ·simpa using hj
 ·cases hj
theorem append_room {P:Program} (t ty e:TypeId) (i:TypeInfo) (ht:P.underlying t=some (.slice e)) (hi:P.info? e=some i)
  (g sLen sCap:Nat) (cur:Array Value) (ty':TypeId) (hg:w.heap[g]?=some (.cells cur ty' (0,0)))
  (a:Addr) (m c:Nat) (news:List Value) (hl:news.length=m * i.size) (hnews:∀ j u,news[j]?=some u→w.cell? (a.add j)=some u) (h1:∀ u∈news,u.oneCell'=true)
  (hroom:sLen+m≤sCap) (hfit:sLen * i.size+news.length≤cur.size) :
  (Builtin.append_ #[t,t] ty #[.slice (some ⟨g,0,none⟩) sLen sCap,.slice (some a) m c]).run P w =
   .ok (.slice (some ⟨g,0,none⟩) (sLen+m) sCap) (w.setRow g (cur.toList.take (sLen * i.size)++news++cur.toList.drop (sLen * i.size+news.length)).toArray):=by
 have hf:=run_firstCells_some (P:=P) w i.size m a m c news hl hnews
 have hst:=run_storeCells_at P g (sLen * i.size) ty' news 0 cur w hg (by simpa using hfit) h1
 simp only[Nat.add_zero] at hst
 simp [Builtin.append_,run_underlying ht,sizeOf,typeInfo,hi,Builtin.lenOf,hroom,hf,Addr.add_lit,hst]
theorem append_none {P:Program} (t ty e:TypeId) (i:TypeInfo) (ht:P.underlying t=some (.slice e)) (hi:P.info? e=some i) (ad ad2:Option Addr) (n cap c:Nat) (hn:n≤cap) :
  (Builtin.append_ #[t,t] ty #[.slice ad n cap,.slice ad2 0 c]).run P w=.ok (.slice ad n cap) w:=by
 cases ad<;>cases ad2<;>simp [Builtin.append_,run_underlying ht,sizeOf,typeInfo,hi,Builtin.lenOf,hn,Builtin.firstCells,loadCells,loadCellsFrom,storeCells]
theorem append_memK {P:Program} {Z Z2:Fl→Nat→Prop} {L L2:Labs} {l l':Lab} {f:Fl} {es0 es es':List (List T)} {a1:Option Addr} {c1:Nat} {u2:Value} {t ty e:TypeId} {i:TypeInfo} {zv:Value} {wd:Nat} (ht:P.underlying t=some (.slice e)) (hi:P.info? e=some i) (hz:i.zero=some zv)
  (hzs:zv.cells.size=i.size) (hwi:wd=i.size) (hby:i.bytes≤4096) (hwd:0<wd) (r1:RepC Z w L l (.sl .own es0) (.slice a1 es0.length c1)) (hes:es.length≤es0.length∧es=es0.take es.length) (r2:RepC Z2 w L2 l' (.sl f es') u2) (hw0:∀ x∈es0,x.length=wd) (hw2:∀ x∈es',x.length=wd) (hlen:(es++es').length≤1073741824) (hne':es'≠[]) :
  ∃ v' w',(Builtin.append_ #[t,t] ty #[.slice a1 es.length c1,u2]).run P w=.ok v' w'∧(w'.os=w.os∧w'.tape=w.tape∧w'.output=w.output)∧w.heap.size≤w'.heap.size ∧
    ∃ B cur cap ty',v'=.slice (some ⟨B,0,none⟩) (es++es').length cap∧w'.heap[B]?=some (.cells cur ty' (0,0))∧cur.size=cap * wd∧(es++es').length≤cap∧cap≤maxCap ∧
      (B=w.heap.size∨L B=some l)∧(∀ b,b≠B→b<w.heap.size→w'.heap[b]?=w.heap[b]?)∧B<w'.heap.size ∧
      (∀ i e,es[i]?=some e→RepL Z w L (l.add i) 0 e (cur.toList.drop (i * wd)))∧∀ i e,es'[i]?=some e→RepL Z2 w (f.labs L2) (l'.add i) 0 e (cur.toList.drop ((es.length+i) * wd)):=by
 subst hwi
 have hw:∀ x∈es++es',x.length=i.size:=by
  intro x hx
  rcases List.mem_append.1 hx with hx | hx
  ·rw[hes.2] at hx;exact hw0 x (List.mem_of_mem_take hx)
  ·exact hw2 x hx
 have h2:=r2
 rw[RepC] at h2
 obtain ⟨a2,c2,rfl,_⟩:=h2
 obtain ⟨_,q1,q2,b2,off2,vs2,ty2,fr2,ys,rfl,hh2,hs2,_,_,hys,hyl,hy1,hyr⟩:=row_of r2 (fun x hx=>hw x (by simp [hx])) hne'
 have hcy:=cells_of_row (_P:=P) (off:=off2) (k:=es'.length * i.size) hh2
 rw[← hys] at hcy
 have hm0:0<es'.length:=List.length_pos_iff.2 hne'
 have hll:(es++es').length=es.length+es'.length:=List.length_append
 have h48:(es.length+es'.length) * i.bytes≤140737488355328:=by
  have:(es.length+es'.length) * i.bytes≤1073741824 * 4096:=Nat.mul_le_mul (by omega) hby
  omega
 have post:∀ (xs:List Value) (cur:Array Value) ,xs.length=es.length * i.size→cur.toList.take ((es.length+es'.length) * i.size)=xs++ys →
   (∀ j e,es[j]?=some e→RepL Z w L (l.add j) 0 e (xs.drop (j * i.size))) →
   (∀ j e,es[j]?=some e→RepL Z w L (l.add j) 0 e (cur.toList.drop (j * i.size)))∧∀ j e,es'[j]?=some e→RepL Z2 w (f.labs L2) (l'.add j) 0 e (cur.toList.drop ((es.length+j) * i.size)):=by
  intro xs cur hxl htk hx
  have hget:∀ k,k<(es.length+es'.length) * i.size→cur.toList[k]?=(xs++ys)[k]?:=by
   intro k hk
   rw[← htk,List.getElem?_take,if_pos hk]
  constructor
  ·intro j e he
   refine (hx j e he).more fun c hc=>?_
   have hl:=hw e (by simp [List.mem_of_getElem? he])
   have hj:j<es.length:=(List.getElem?_eq_some_iff.1 he).1
   have:(j+1) * i.size≤es.length * i.size:=Nat.mul_le_mul_right _ hj
   rw[Nat.add_mul] at this
   rw[List.getElem?_drop,List.getElem?_drop,hget _ (by rw[Nat.add_mul];omega),List.getElem?_append_left (by omega)]
  ·intro j e he
   refine (hyr j e he).more fun c hc=>?_
   have hl:=hw e (by simp [List.mem_of_getElem? he])
   have hj:j<es'.length:=(List.getElem?_eq_some_iff.1 he).1
   have:(j+1) * i.size≤es'.length * i.size:=Nat.mul_le_mul_right _ hj
   rw[Nat.add_mul] at this
   rw[List.getElem?_drop,List.getElem?_drop,hget _ (by rw[Nat.add_mul,Nat.add_mul];omega),List.getElem?_append_right (by rw[hxl,Nat.add_mul];omega)]
   congr 1
   rw[hxl,Nat.add_mul]
   omega
 have grown:∀ (xs:List Value) (old:Nat) (w2:World),xs.length=es.length * i.size→(∀ j e,es[j]?=some e→RepL Z w L (l.add j) 0 e (xs.drop (j * i.size))) →
   w2=(w.drew.alloc (.cells (xs.toArray++ys.toArray++Builtin.zeroCells zv.cells (grownCap w (es.length+es'.length) old e-(es.length+es'.length))) e)) →
   (w2.os=w.os∧w2.tape=w.tape∧w2.output=w.output)∧w.heap.size≤w2.heap.size∧∃ B cur cap ty',Value.slice (some ⟨w.heap.size,0,none⟩) (es.length+es'.length) (grownCap w (es.length+es'.length) old e)=.slice (some ⟨B,0,none⟩) (es++es').length cap∧w2.heap[B]?=some (.cells cur ty' (0,0))∧cur.size=cap * i.size∧(es++es').length≤cap∧cap≤maxCap ∧
    (B=w.heap.size∨L B=some l)∧(∀ b,b≠B→b<w.heap.size→w2.heap[b]?=w.heap[b]?)∧B<w2.heap.size ∧
    (∀ j e,es[j]?=some e→RepL Z w L (l.add j) 0 e (cur.toList.drop (j * i.size)))∧∀ j e,es'[j]?=some e→RepL Z2 w (f.labs L2) (l'.add j) 0 e (cur.toList.drop ((es.length+j) * i.size)):=by
  intro xs old w2 hxl hx hw2
  subst hw2
  have hge:=grownCap_ge w (es.length+es'.length) old e
  have hle:=grownCap_le_maxLen w (es.length+es'.length) old e (by unfold maxLen;omega)
  refine ⟨⟨rfl,rfl,rfl⟩,by simp,w.heap.size,_,_,e,by rw[hll],heap_alloc_new w.drew _,?_,by rw[hll];exact hge,by unfold maxCap;unfold maxLen at hle;omega,.inl rfl,fun b _ hb=>heap_alloc_old w.drew _ hb,by simp,?_⟩
  ·simp only[Array.size_append,List.size_toArray,size_zeroCells,hzs,hxl,hyl,← Nat.add_mul]
   congr 1
   omega
  ·refine post xs _ hxl ?_ hx
   simp only[Array.toList_append]
   have:(es.length+es'.length) * i.size=(xs++ys).length:=by rw[List.length_append,hxl,hyl,Nat.add_mul]
   rw[this]
   exact List.take_left
 by_cases hne:es0=[]
 ·subst hne
  have hes0:es=[]:=by
   have:=hes.1
   exact List.length_eq_zero_iff.1 (by simpa using this)
  subst hes0
  have h1:=r1
  rw[RepC] at h1
  obtain ⟨a1',c1',e1,g1,g2,g3⟩:=h1
  cases e1
  have hc1:c1=0:=by
   rcases g3 with ⟨_,h⟩ | ⟨b,off,vs,ty0,fr,wd,ha,hwd',hh,hsz,hes,ho,_⟩
   ·exact h rfl
   ·exact (hwd'.2 rfl rfl).elim
  subst hc1
  cases a1 with
  |none=>
   have hr:=run_append_nil (P:=P) w t ty e i zv ht hi hz ⟨b2,off2,none⟩ es'.length c2 ys hyl hcy hm0 (by omega) (by
    have:es'.length * i.bytes≤1073741824 * 4096:=Nat.mul_le_mul (by simp at hlen;omega) hby
    omega)
   have hgr:=grown [] 0 (w.drew.alloc (.cells (ys.toArray++Builtin.zeroCells zv.cells (grownCap w es'.length 0 e-es'.length)) e)) (by simp) (fun j e he=>by simp at he) (by simp)
   refine ⟨_,_,hr,hgr.1,hgr.2.1,?_⟩
   have:=hgr.2.2
   simp only[List.length_nil,Nat.zero_add] at this ⊢
   exact this
  |some ad1=>
   have hr:=run_append_grow (P:=P) w t ty e i zv ht hi hz ad1 0 0 [] (by simp) (fun j v hj=>by simp at hj) ⟨b2,off2,none⟩ es'.length c2 ys hyl hcy (by omega) (by simp;omega) (by
    rw[Nat.zero_add]
    exact growslice_fits hm0 (by simpa using h48))
   have hgr:=grown [] 0 (w.drew.alloc (.cells ([].toArray++ys.toArray++Builtin.zeroCells zv.cells (grownCap w (0+es'.length) 0 e-(0+es'.length))) e)) (by simp) (fun j e he=>by simp at he) (by simp)
   refine ⟨_,_,hr,hgr.1,hgr.2.1,?_⟩
   have:=hgr.2.2
   simp only[List.length_nil] at this ⊢
   exact this
 ·obtain ⟨_,p1,p2,b1,off1,vs1,ty1,fr1,xs0,ha1,hh1,hs1,ho1,_,hxs0,hxl0,hx10,hxr0⟩:=row_of r1 hw0 hne
  subst ha1
  obtain ⟨hL1,hof,hfr,hsz1⟩:=ho1 rfl
  subst hof hfr
  have hkm:es.length * i.size≤es0.length * i.size:=Nat.mul_le_mul_right _ hes.1
  obtain ⟨xs,hxs⟩:∃ xs,xs=(vs1.toList.drop 0).take (es.length * i.size):=⟨_,rfl⟩
  have hxx:xs=xs0.take (es.length * i.size):=by
   rw[hxs0,hxs,List.take_take,Nat.min_eq_left hkm]
  have hxl:xs.length=es.length * i.size:=by rw[hxx,List.length_take,hxl0];omega
  have hxr:∀ j e,es[j]?=some e→RepL Z w (Fl.labs .own L) (l.add j) 0 e (xs.drop (j * i.size)):=by
   intro j e he
   have hj:j<es.length:=(List.getElem?_eq_some_iff.1 he).1
   have he0:es0[j]?=some e:=by
    rw[hes.2,List.getElem?_take_of_lt hj] at he
    exact he
   refine (hxr0 j e he0).more fun c hc=>?_
   have hl:=hw e (by simp [List.mem_of_getElem? he])
   have:(j+1) * i.size≤es.length * i.size:=Nat.mul_le_mul_right _ hj
   rw[Nat.add_mul] at this
   rw[hxx,List.getElem?_drop,List.getElem?_drop,List.getElem?_take,if_pos (by omega)]
  by_cases hroom:es.length+es'.length≤c1
  ·have hfit:es.length * i.size+ys.length≤vs1.size:=by rw[hyl,hsz1,← Nat.add_mul];exact Nat.mul_le_mul_right _ hroom
   have hr:=append_room (P:=P) (w:=w) t ty e i ht hi b1 es.length c1 vs1 ty1 hh1 ⟨b2,off2,none⟩ es'.length c2 ys hyl hcy hy1 hroom hfit
   refine ⟨_,_,hr,⟨rfl,rfl,rfl⟩,by simp,b1,_,c1,ty1,by rw[hll],setRow_heap w b1 vs1 _ ty1 _ hh1,?_,by omega,p2,.inr hL1,fun b hb _=>setRow_other w b1 b _ hb,?_,?_⟩
   ·simp only[List.size_toArray,List.length_append,List.length_take,List.length_drop,Array.length_toList]
    omega
   ·have:=(Array.getElem?_eq_some_iff.1 hh1).1
    simpa using this
   ·refine post xs _ hxl ?_ hxr
    rw[hxs,List.drop_zero]
    have:(es.length+es'.length) * i.size=(vs1.toList.take (es.length * i.size)++ys).length:=by
     rw[List.length_append,hyl,Nat.add_mul]
     rw[hxs,List.drop_zero] at hxl
     rw[hxl]
    rw[this]
    exact List.take_left
  ·have hcx:=cells_of_row (_P:=P) (off:=0) (k:=es.length * i.size) hh1
   rw[← hxs] at hcx
   have hr:=run_append_grow (P:=P) w t ty e i zv ht hi hz ⟨b1,0,none⟩ es.length c1 xs hxl hcx ⟨b2,off2,none⟩ es'.length c2 ys hyl hcy (by omega) (by omega) (growslice_fits (by omega) h48)
   have hgr:=grown xs c1 _ hxl hxr rfl
   exact ⟨_,_,hr,hgr.1,hgr.2.1,hgr.2.2⟩
theorem append_mem {P:Program} {Z Z2:Fl→Nat→Prop} {L L2:Labs} {l l':Lab} {f:Fl} {es es':List (List T)} {u1 u2:Value} {t ty e:TypeId} {i:TypeInfo} {zv:Value} {wd:Nat} (ht:P.underlying t=some (.slice e)) (hi:P.info? e=some i) (hz:i.zero=some zv)
  (hzs:zv.cells.size=i.size) (hwi:wd=i.size) (hby:i.bytes≤4096) (hwd:0<wd) (r1:RepC Z w L l (.sl .own es) u1) (r2:RepC Z2 w L2 l' (.sl f es') u2) (hw:∀ x∈es++es',x.length=wd) (hlen:(es++es').length≤1073741824) :
  ∃ v' w',(Builtin.append_ #[t,t] ty #[u1,u2]).run P w=.ok v' w'∧(w'.os=w.os∧w'.tape=w.tape∧w'.output=w.output)∧w.heap.size≤w'.heap.size ∧
    ((es'=[]∧v'=u1∧w'=w)∨es'≠[]∧∃ B cur cap ty',v'=.slice (some ⟨B,0,none⟩) (es++es').length cap∧w'.heap[B]?=some (.cells cur ty' (0,0))∧cur.size=cap * wd∧(es++es').length≤cap∧cap≤maxCap ∧
      (B=w.heap.size∨L B=some l)∧(∀ b,b≠B→b<w.heap.size→w'.heap[b]?=w.heap[b]?)∧B<w'.heap.size ∧
      (∀ i e,es[i]?=some e→RepL Z w L (l.add i) 0 e (cur.toList.drop (i * wd)))∧∀ i e,es'[i]?=some e→RepL Z2 w (f.labs L2) (l'.add i) 0 e (cur.toList.drop ((es.length+i) * wd))):=by
 by_cases hne':es'=[]
 ·subst hne'
  have h1:=r1
  have h2:=r2
  rw[RepC] at h1 h2
  obtain ⟨a1,c1,rfl,g1,g2,_⟩:=h1
  obtain ⟨a2,c2,rfl,_⟩:=h2
  exact ⟨_,w,append_none t ty e i ht hi a1 a2 _ c1 c2 g1,⟨rfl,rfl,rfl⟩,Nat.le_refl _,.inl ⟨rfl,rfl,rfl⟩⟩
 ·have h1:=r1
  rw[RepC] at h1
  obtain ⟨a1,c1,rfl,_⟩:=h1
  obtain ⟨v',w',k1,k2,k3,k4⟩:=append_memK ht hi hz hzs hwi hby hwd r1 ⟨Nat.le_refl _,by rw[List.take_length]⟩ r2 (fun x hx=>hw x (by simp [hx])) (fun x hx=>hw x (by simp [hx])) hlen hne'
  exact ⟨v',w',k1,k2,k3,.inr ⟨hne',k4⟩⟩
theorem append_none_str {P:Program} (t t2 ty e:TypeId) (i:TypeInfo) (ht:P.underlying t=some (.slice e)) (hu2:P.underlying t2=some .string) (hi:P.info? e=some i) (ad:Option Addr) (n cap:Nat) (s:ByteArray) (hs:s.size=0) (hn:n≤cap) :
  (Builtin.append_ #[t,t2] ty #[.slice ad n cap,.string s]).run P w=.ok (.slice ad n cap) w:=by
 have h0:s.data=#[]:=Array.size_eq_zero_iff.1 hs
 cases ad<;>simp [Builtin.append_,run_underlying ht,run_underlying hu2,sizeOf,typeInfo,hi,Builtin.lenOf,hs,hn,Builtin.firstCells,storeCells,h0]
theorem append_room_str {P:Program} (t t2 ty e:TypeId) (i:TypeInfo) (ht:P.underlying t=some (.slice e)) (hu2:P.underlying t2=some .string) (hi:P.info? e=some i) (hs1:i.size=1)
  (g sLen sCap:Nat) (cur:Array Value) (ty':TypeId) (hg:w.heap[g]?=some (.cells cur ty' (0,0))) (s:ByteArray)
  (hroom:sLen+s.size≤sCap) (hfit:sLen+s.size≤cur.size) :
  (Builtin.append_ #[t,t2] ty #[.slice (some ⟨g,0,none⟩) sLen sCap,.string s]).run P w =
   .ok (.slice (some ⟨g,0,none⟩) (sLen+s.size) sCap) (w.setRow g (cur.toList.take sLen++Lib.strCells s++cur.toList.drop (sLen+s.size)).toArray):=by
 have hf:=Lib.run_firstCells_string (P:=P) w 1 s
 have hst:=run_storeCells_at P g sLen ty' (Lib.strCells s) 0 cur w hg (by simpa [Lib.strCells_length] using hfit) (Lib.strCells_oneCell s)
 simp only[Nat.add_zero,Lib.strCells_length] at hst
 simp [Builtin.append_,run_underlying ht,run_underlying hu2,sizeOf,typeInfo,hi,hs1,Builtin.lenOf,hroom,hf,Addr.add_lit,hst]
theorem ofBytes_len (s:ByteArray):(ofBytes s).length=s.size:=by rw[ofBytes,List.length_map,Array.length_toList];rfl
theorem ofBytes_rep {Z:Fl→Nat→Prop} {L:Labs} {l:Lab} (s:ByteArray) (j:Nat) (e:List T) (he:(ofBytes s)[j]?=some e):RepL Z w L l 0 e ((Lib.strCells s).drop j):=by
 unfold ofBytes at he
 rw[List.getElem?_map] at he
 obtain ⟨c,h1,rfl⟩:=Option.map_eq_some_iff.1 he
 have h2:(Lib.strCells s)[j]?=some (Value.int .u8 c.toNat):=by
  unfold Lib.strCells
  rw[List.getElem?_map,h1]
  rfl
 rw[head_drop h2,RepL,RepC]
 exact ⟨⟨rfl,rfl⟩,by rw[RepL];trivial⟩
theorem append_str {P:Program} {Z:Fl→Nat→Prop} {L:Labs} {l:Lab} {es:List (List T)} {s:ByteArray} {u1:Value} {t t2 ty e:TypeId} {i:TypeInfo} {zv:Value} {wd:Nat} (ht:P.underlying t=some (.slice e)) (hu2:P.underlying t2=some .string) (hi:P.info? e=some i) (hz:i.zero=some zv)
  (hzs:zv.cells.size=i.size) (hwi:wd=i.size) (hw1:wd=1) (hby:i.bytes≤4096) (r1:RepC Z w L l (.sl .own es) u1) (hw:∀ x∈es,x.length=wd) (hlen:(es++ofBytes s).length≤1073741824) :
  ∃ v' w',(Builtin.append_ #[t,t2] ty #[u1,.string s]).run P w=.ok v' w'∧(w'.os=w.os∧w'.tape=w.tape∧w'.output=w.output)∧w.heap.size≤w'.heap.size ∧
    ((ofBytes s=[]∧v'=u1∧w'=w)∨ofBytes s≠[]∧∃ B cur cap ty',v'=.slice (some ⟨B,0,none⟩) (es++ofBytes s).length cap∧w'.heap[B]?=some (.cells cur ty' (0,0))∧cur.size=cap * wd∧(es++ofBytes s).length≤cap∧cap≤maxCap ∧
      (B=w.heap.size∨L B=some l)∧(∀ b,b≠B→b<w.heap.size→w'.heap[b]?=w.heap[b]?)∧B<w'.heap.size ∧
      (∀ i e,es[i]?=some e→RepL Z w L (l.add i) 0 e (cur.toList.drop (i * wd)))∧∀ i e,(ofBytes s)[i]?=some e→∀ L' l',RepL Z w L' l' 0 e (cur.toList.drop ((es.length+i) * wd))):=by
 subst hwi
 have hsz:=ofBytes_len s
 have hyr0:∀ j e,(ofBytes s)[j]?=some e→∀ L' l',RepL Z w L' l' 0 e ((Lib.strCells s).drop (j * i.size)):=fun j e he L' l'=>by rw[hw1,Nat.mul_one];exact ofBytes_rep s j e he
 have hyl0:(Lib.strCells s).length=(ofBytes s).length * i.size:=by rw[hw1,Nat.mul_one,hsz,Lib.strCells_length]
 have hbl:∀ x∈ofBytes s,x.length=i.size:=by
  intro x hx
  unfold ofBytes at hx
  obtain ⟨c,_,rfl⟩:=List.mem_map.1 hx
  rw[hw1]
  rfl
 generalize hE:ofBytes s=es' at hsz hyr0 hyl0 hbl hlen ⊢
 by_cases hne':es'=[]
 ·subst hne'
  have h1:=r1
  rw[RepC] at h1
  obtain ⟨a1,c1,rfl,g1,g2,_⟩:=h1
  exact ⟨_,w,append_none_str t t2 ty e i ht hu2 hi a1 _ c1 s hsz.symm g1,⟨rfl,rfl,rfl⟩,Nat.le_refl _,.inl ⟨rfl,rfl,rfl⟩⟩
 generalize hY:Lib.strCells s=ys at hyr0 hyl0
 have hyl:=hyl0
 have hyr:=hyr0
 have hsz':s.size=es'.length:=hsz.symm
 have hm0:0<es'.length:=List.length_pos_iff.2 hne'
 have hll:(es++es').length=es.length+es'.length:=List.length_append
 have h48:(es.length+es'.length) * i.bytes≤140737488355328:=by
  have:(es.length+es'.length) * i.bytes≤1073741824 * 4096:=Nat.mul_le_mul (by omega) hby
  omega
 have post:∀ (xs:List Value) (cur:Array Value) ,xs.length=es.length * i.size→cur.toList.take ((es.length+es'.length) * i.size)=xs++ys →
   (∀ j e,es[j]?=some e→RepL Z w L (l.add j) 0 e (xs.drop (j * i.size))) →
   (∀ j e,es[j]?=some e→RepL Z w L (l.add j) 0 e (cur.toList.drop (j * i.size)))∧∀ j e,es'[j]?=some e→∀ L' l',RepL Z w L' l' 0 e (cur.toList.drop ((es.length+j) * i.size)):=by
  intro xs cur hxl htk hx
  have hget:∀ k,k<(es.length+es'.length) * i.size→cur.toList[k]?=(xs++ys)[k]?:=by
   intro k hk
   rw[← htk,List.getElem?_take,if_pos hk]
  constructor
  ·intro j e he
   refine (hx j e he).more fun c hc=>?_
   have hl:=hw e (List.mem_of_getElem? he)
   have hj:j<es.length:=(List.getElem?_eq_some_iff.1 he).1
   have:(j+1) * i.size≤es.length * i.size:=Nat.mul_le_mul_right _ hj
   rw[Nat.add_mul] at this
   rw[List.getElem?_drop,List.getElem?_drop,hget _ (by rw[Nat.add_mul];omega),List.getElem?_append_left (by omega)]
  ·intro j e he L' l'
   refine (hyr j e he L' l').more fun c hc=>?_
   have hl:=hbl e (List.mem_of_getElem? he)
   have hj:j<es'.length:=(List.getElem?_eq_some_iff.1 he).1
   have:(j+1) * i.size≤es'.length * i.size:=Nat.mul_le_mul_right _ hj
   rw[Nat.add_mul] at this
   rw[List.getElem?_drop,List.getElem?_drop,hget _ (by rw[Nat.add_mul,Nat.add_mul];omega),List.getElem?_append_right (by rw[hxl,Nat.add_mul];omega)]
   congr 1
   rw[hxl,Nat.add_mul]
   omega
 have grown:∀ (xs:List Value) (old:Nat) (w2:World),xs.length=es.length * i.size→(∀ j e,es[j]?=some e→RepL Z w L (l.add j) 0 e (xs.drop (j * i.size))) →
   w2=(w.drew.alloc (.cells (xs.toArray++ys.toArray++Builtin.zeroCells zv.cells (grownCap w (es.length+es'.length) old e-(es.length+es'.length))) e)) →
   (w2.os=w.os∧w2.tape=w.tape∧w2.output=w.output)∧w.heap.size≤w2.heap.size∧∃ B cur cap ty',Value.slice (some ⟨w.heap.size,0,none⟩) (es.length+es'.length) (grownCap w (es.length+es'.length) old e)=.slice (some ⟨B,0,none⟩) (es++es').length cap∧w2.heap[B]?=some (.cells cur ty' (0,0))∧cur.size=cap * i.size∧(es++es').length≤cap∧cap≤maxCap ∧
    (B=w.heap.size∨L B=some l)∧(∀ b,b≠B→b<w.heap.size→w2.heap[b]?=w.heap[b]?)∧B<w2.heap.size ∧
    (∀ j e,es[j]?=some e→RepL Z w L (l.add j) 0 e (cur.toList.drop (j * i.size)))∧∀ j e,es'[j]?=some e→∀ L' l',RepL Z w L' l' 0 e (cur.toList.drop ((es.length+j) * i.size)):=by
  intro xs old w2 hxl hx hw2
  subst hw2
  have hge:=grownCap_ge w (es.length+es'.length) old e
  have hle:=grownCap_le_maxLen w (es.length+es'.length) old e (by unfold maxLen;omega)
  refine ⟨⟨rfl,rfl,rfl⟩,by simp,w.heap.size,_,_,e,by rw[hll],heap_alloc_new w.drew _,?_,by rw[hll];exact hge,by unfold maxCap;unfold maxLen at hle;omega,.inl rfl,fun b _ hb=>heap_alloc_old w.drew _ hb,by simp,?_⟩
  ·simp only[Array.size_append,List.size_toArray,size_zeroCells,hzs,hxl,hyl,← Nat.add_mul]
   congr 1
   omega
  ·refine post xs _ hxl ?_ hx
   simp only[Array.toList_append]
   have:(es.length+es'.length) * i.size=(xs++ys).length:=by rw[List.length_append,hxl,hyl,Nat.add_mul]
   rw[this]
   exact List.take_left
 by_cases hne:es=[]
 ·subst hne
  have h1:=r1
  rw[RepC] at h1
  obtain ⟨a1,c1,rfl,g1,g2,g3⟩:=h1
  have hc1:c1=0:=by
   rcases g3 with ⟨_,h⟩ | ⟨b,off,vs,ty0,fr,wd,ha,hwd',hh,hsz,hes,ho,_⟩
   ·exact h rfl
   ·exact (hwd'.2 rfl rfl).elim
  subst hc1
  cases a1 with
  |none=>
   have hr:=run_append_nil_string (P:=P) w t t2 ty e i zv ht hu2 hi hz s (by omega) (by omega) (by
    have:s.size * i.bytes≤1073741824 * 4096:=Nat.mul_le_mul (by simp at hlen;omega) hby
    omega)
   have hda:s.data.map (fun b=>Value.int .u8 b.toNat)=ys.toArray:=by
    rw[← hY]
    apply Array.ext'
    simp [Lib.strCells]
   rw[hda,hsz'] at hr
   have hgr:=grown [] 0 (w.drew.alloc (.cells (ys.toArray++Builtin.zeroCells zv.cells (grownCap w es'.length 0 e-es'.length)) e)) (by simp) (fun j e he=>by simp at he) (by simp)
   refine ⟨_,_,hr,hgr.1,hgr.2.1,.inr ⟨hne',?_⟩⟩
   have:=hgr.2.2
   simp only[List.length_nil,Nat.zero_add] at this ⊢
   exact this
  |some ad1=>
   have hr:=Lib.run_append_grow_string (P:=P) w t t2 ty e i zv ht hu2 hi hz ad1 0 0 [] (by simp) (fun j v hj=>by simp at hj) s (by omega) (by omega) (by
    rw[Nat.zero_add,hsz']
    exact growslice_fits hm0 (by simpa using h48))
   rw[hY,hsz'] at hr
   have hgr:=grown [] 0 (w.drew.alloc (.cells ([].toArray++ys.toArray++Builtin.zeroCells zv.cells (grownCap w (0+es'.length) 0 e-(0+es'.length))) e)) (by simp) (fun j e he=>by simp at he) (by simp)
   refine ⟨_,_,hr,hgr.1,hgr.2.1,.inr ⟨hne',?_⟩⟩
   have:=hgr.2.2
   simp only[List.length_nil] at this ⊢
   exact this
 ·have h1:=r1
  rw[RepC] at h1
  obtain ⟨a1,c1,rfl,_⟩:=h1
  obtain ⟨_,p1,p2,b1,off1,vs1,ty1,fr1,xs,rfl,hh1,hs1,ho1,_,hxs,hxl,hx1,hxr⟩:=row_of r1 (fun x hx=>hw x (by simp [hx])) hne
  obtain ⟨hL1,rfl,rfl,hsz1⟩:=ho1 rfl
  by_cases hroom:es.length+es'.length≤c1
  ·have hfit:es.length * i.size+ys.length≤vs1.size:=by rw[hyl,hsz1,← Nat.add_mul];exact Nat.mul_le_mul_right _ hroom
   have hr:=append_room_str (P:=P) (w:=w) t t2 ty e i ht hu2 hi hw1 b1 es.length c1 vs1 ty1 hh1 s (by omega) (by rw[hsz',← Nat.mul_one (es.length+es'.length),← hw1,Nat.add_mul,← hyl];exact hfit)
   rw[hY,hsz',show vs1.toList.take es.length=vs1.toList.take (es.length * i.size) by rw[hw1,Nat.mul_one],show es.length+es'.length=es.length * i.size+ys.length by rw[hyl,hw1];omega] at hr
   rw[show es.length * i.size+ys.length=es.length+es'.length by rw[hyl,hw1];omega] at hr
   refine ⟨_,_,hr,⟨rfl,rfl,rfl⟩,by simp,.inr ⟨hne',b1,_,c1,ty1,by rw[hll],setRow_heap w b1 vs1 _ ty1 _ hh1,?_,by omega,p2,.inr hL1,fun b hb _=>setRow_other w b1 b _ hb,?_,?_⟩⟩
   ·have e1:es.length * i.size=es.length:=by rw[hw1,Nat.mul_one]
    have e2:c1 * i.size=c1:=by rw[hw1,Nat.mul_one]
    have e3:es'.length * i.size=es'.length:=by rw[hw1,Nat.mul_one]
    simp only[List.size_toArray,List.length_append,List.length_take,List.length_drop,Array.length_toList]
    omega
   ·have:=(Array.getElem?_eq_some_iff.1 hh1).1
    simpa using this
   ·refine post xs _ hxl ?_ hxr
    rw[hxs,List.drop_zero]
    have:(es.length+es'.length) * i.size=(vs1.toList.take (es.length * i.size)++ys).length:=by
     rw[List.length_append,hyl,Nat.add_mul]
     rw[hxs,List.drop_zero] at hxl
     rw[hxl]
    rw[this]
    exact List.take_left
  ·have hcx:=cells_of_row (_P:=P) (off:=0) (k:=es.length * i.size) hh1
   rw[← hxs] at hcx
   have hr:=Lib.run_append_grow_string (P:=P) w t t2 ty e i zv ht hu2 hi hz ⟨b1,0,none⟩ es.length c1 xs hxl hcx s (by omega) (by omega) (by rw[hsz'];exact growslice_fits (by omega) h48)
   rw[hY,hsz'] at hr
   have hgr:=grown xs c1 _ hxl hxr rfl
   exact ⟨_,_,hr,hgr.1,hgr.2.1,.inr ⟨hne',hgr.2.2⟩⟩
end
end TM
namespace TM
open Go
section
variable {C:Ctx} {G:Gh} {st st1 st':St} {hs:List (T×Value)} {a:Act} {w:World}
def appG (n:Nat):Nat→List Nat→Option (List Nat)
 |0,i :: r=>if i<n then some (0 :: i :: r) else none
 |1,i :: r=>some (0 :: (n+i) :: r)
 |_,_=>none
theorem appG_inj (n:Nat):∀ j r j' r' q,appG n j r=some q→appG n j' r'=some q→j=j'∧r=r':=by
 intro j r j' r' q h h'
 unfold appG at h h'
 split at h
 ·split at h
  ·cases h
   split at h'
   ·split at h'
    ·simp at h';exact ⟨rfl,by rw[h'.1,h'.2]⟩
    ·cases h'
   ·rename_i hi _ _ _ _
    simp at h';omega
   ·cases h'
  ·cases h
 ·cases h
  split at h'
  ·split at h'
   ·simp at h';omega
   ·cases h'
  ·simp at h'
   exact ⟨rfl,by rw[h'.1,h'.2]⟩
  ·cases h'
 ·cases h
theorem appG_long {n j:Nat} {r q:List Nat} (h:appG n j r=some q):q≠[0]:=by
 unfold appG at h
 split at h
 ·split at h
  ·cases h;simp
  ·cases h
 ·cases h;simp
 ·cases h
def headG:Nat→List Nat→Option (List Nat)
 |0,r=>some (0 :: r)
 |_,_=>none
theorem headG_inj:∀ j r j' r' q,headG j r=some q→headG j' r'=some q→j=j'∧r=r':=by
 intro j r j' r' q h h'
 unfold headG at h h'
 split at h
 ·cases h
  split at h'
  ·simp at h';exact ⟨rfl,h'.symm⟩
  ·cases h'
 ·cases h
theorem flat_move {Z Z':Fl→Nat→Prop} {L L':Labs} {l l':Lab}:∀ {e:List T} {c c':Nat} {us:List Value},flatE e=true→RepL Z w L l c e us→RepL Z' w L' l' c' e us
 |[],_,_,_,_,_=>by rw[RepL];trivial
 |x :: e,_,_,[],_,h=>by rw[RepL] at h;exact h.elim
 |x :: e,c,c',u :: us,hf,h=>by
  simp only[flatE,List.all_cons,Bool.and_eq_true] at hf
  rw[RepL] at h ⊢
  obtain ⟨h1,h2⟩:=h
  refine ⟨?_,flat_move (e:=e) hf.2 h2⟩
  cases x with
  |v y=>rw[RepC] at h1 ⊢;exact h1
  |_=>exact (by simpa using hf.1:False).elim
theorem win_rep (s:Sim C G st hs a w) {m:Nm} {q:List Nat} {lo hi:Nat} {u:Value} {es:List (List T)} {r0:List T} (hv:RepV C G w st.b (.ref m q lo hi) u) (hrow:rowAt (st.b m).cells q=some (.sl .own es :: r0)) (hf:es.all flatE=true) :
  RepC (fun _ _=>True) w noLab noWhere (.sl .nw ((es.take hi).drop lo)) u:=by
 rw[RepV] at hv
 obtain ⟨es',r',ad,cap,g1,g2,g3,⟨hlc,hcm,hh⟩,ad',e1,e2⟩:=hv
 rw[hrow] at g1
 cases g1
 have hlen:((es.take hi).drop lo).length=hi-lo:=by simp;omega
 rw[RepC]
 refine ⟨ad',cap-lo,by rw[hlen];exact e1,by rw[hlen];omega,by omega,?_⟩
 by_cases hlt:lo<hi
 ·rcases hh with ⟨hn,_⟩ | ⟨b,cs,ty,wd,ha,hwd,hL,hheap,hcap,hwdt⟩
  ·subst hn;simp at g3;omega
  obtain ⟨urow,blk,off,p1,p2,p3,p4⟩:=s.place hrow
  cases urow with
  |nil=>rw[RepL] at p2;exact p2.elim
  |cons u0 us=>
   rw[RepL] at p2
   have p5:=p2.1
   rw[pathLab_last q hrow,RepC] at p5
   obtain ⟨a0,cap0,q1,q2,q3,q4⟩:=p5
   rcases q4 with ⟨hn,_⟩ | ⟨b0,off0,cs0,ty0,fr0,wd0,k1,k2,k3,k4,k5,k6,k7,k8⟩
   ·subst hn;simp at g3;omega
   obtain ⟨k61,k62,k63,k64⟩:=k6 rfl
   have hbb:b0=b:=s.inj _ _ _ k61 (by simpa using hL)
   subst hbb k62 k63
   rw[hheap] at k3
   cases k3
   have hww:wd0=wd:=by
    cases es with
    |nil=>simp at g3;omega
    |cons e0 es0=>rw[← k5 e0 (by simp),hwdt e0 (by simp)]
   subst hww
   refine .inr ⟨b0,lo * wd0,cs,ty,(0,0),wd0,?_,⟨hwd.1,fun h=>by cases h⟩,hheap,?_,fun e he=>hwdt e (List.mem_of_mem_take (List.mem_of_mem_drop he)),fun h=>(by cases h),fun _=>trivial,?_⟩
   ·rw[e2 (.inl hlt),ha]
    cases es with
    |nil=>simp at g3;omega
    |cons e0 es0=>simp [shift,hwdt e0 (by simp),add_off]
   ·rw[hlen,hcap,← Nat.add_mul]
    exact Nat.mul_le_mul_right _ (by omega)
   ·refine RepLL.of_get (wd:=wd0) (fun e he=>hwdt e (List.mem_of_mem_take (List.mem_of_mem_drop he))) fun j e he=>?_
    rw[List.getElem?_drop,List.getElem?_take] at he
    split at he
    ·have hr:=RepLL.get hwdt k8 (lo+j) e he
     rw[List.drop_drop] at hr ⊢
     rw[Nat.zero_add,Nat.zero_add,Nat.add_mul] at hr
     exact flat_move (List.all_eq_true.1 hf e (List.mem_of_getElem? he)) hr
    ·cases he
 ·refine .inl ⟨?_,fun h=>by cases h⟩
  have:((es.take hi).drop lo).length=0:=by rw[hlen];omega
  exact List.length_eq_zero_iff.1 this
theorem app_fin {G2:Gh} {st2:St} {hs2:List (T×Value)} {w':World} {o:Oper} {z:List T} {d:Nat} {es es':List (List T)} {f:Fl} {B cap:Nat} {cur:Array Value} {ty':TypeId} (s2:Sim C G2 st2 hs2 a w) (hd:o.dst=some d)
  (hexec:(execOp a.eval o).run C.P w=.ok (.value (.slice (some ⟨B,0,none⟩) (es++es').length cap)) w') (f2:w'.os=w.os∧w'.tape=w.tape∧w'.output=w.output) (f3:w.heap.size≤w'.heap.size)
  (hw:∀ e'∈es++es',e'.length=z.length) (h7:0<z.length) (hne0:es'≠[]) (g1:w'.heap[B]?=some (.cells cur ty' (0,0))) (g2:cur.size=cap * z.length) (g3:(es++es').length≤cap) (g4:cap≤maxCap)
  (g5:B=w.heap.size∨G2.L B=some (.held 0,[])) (g6:∀ b,b≠B→b<w.heap.size→w'.heap[b]?=w.heap[b]?) (g7:B<w'.heap.size)
  (g8:∀ i e,es[i]?=some e→RepL (C.Z G2) w G2.L (Lab.add (.held 0,[]) i) 0 e (cur.toList.drop (i * z.length))) (g9:∀ i e,es'[i]?=some e→RepL (C.Z G2) w (f.labs G2.L) (Lab.add (.held 1,[]) i) 0 e (cur.toList.drop ((es.length+i) * z.length)))
  (h:(fresh d ⟨false,[.sl .own (es++es')]⟩ (.wrS d (.ref (d,0) [0] 0 (es++es').length) (.ok ()))).run C.N st2=some ((),st')):OpOK C o st' a w:=by
 have hBnb:∀ m r,G2.L B≠some (.box m,r):=by
  intro m r e
  rcases g5 with g5 | g5
  ·have:=(s2.lab _ _ e).1;omega
  ·rw[g5] at e;cases e
 have hBz:¬ (C.Zf B∨G2.Zn B):=by
  intro e
  rcases g5 with g5 | g5
  ·have:=(s2.zone _ e).2;omega
  ·have:=(s2.zone _ e).1;rw[g5] at this;cases this
 have hhp:∀ b,(∀ q,some (B,[0])≠some (b,q))→b<w.heap.size→w'.heap[b]?=w.heap[b]?:=fun b hb hlt=>g6 b (fun e=>hb [0] (by rw[e])) hlt
 have hZ:∀ f b,C.Z G2 f b→C.Z G2 f b∧w'.heap[b]?=w.heap[b]?:=by
  intro f b hb
  have hzb:C.Zf b∨G2.Zn b:=by
   cases f
   ·exact hb.elim
   ·exact .inr hb
   ·exact hb
  exact ⟨hb,g6 b (fun e=>hBz (e ▸ hzb)) (s2.zone b hzb).2⟩
 have hne:es++es'≠[]:=by
  intro e
  exact hne0 (List.append_eq_nil_iff.1 e).2
 obtain ⟨G',s',z',l',v1,v2⟩:=s2.freshBox (w':=w') (d,0) (by simp) ⟨false,[.sl .own (es++es')]⟩ [.slice (some ⟨B,0,none⟩) (es++es').length cap] (some (B,[0])) (appG es.length)
  (appG_inj _) (fun _ _ e j r e2=>by cases e;exact appG_long e2 rfl)
  (fun B' q e=>by
   cases e
   refine ⟨g7,?_,hBnb,hBz⟩
   rcases g5 with g5 | g5
   ·left;rw[g5];exact s2.size
   ·exact (s2.lab _ _ g5).2)
  hhp f3 f2
  (by
   refine row_box g1 boxLab_new h7 hw g2 g3 g4 (fun e=>(hne e).elim) ?_
   refine RepLL.of_get (wd:=z.length) hw fun j e' he'=>?_
   rw[Nat.zero_add]
   rw[List.getElem?_append] at he'
   split at he'
   ·rename_i hj
    refine RepL.move hZ e' (fun b r hbr=>?_) (g8 j e' he')
    have hbr':G2.L b=some (.held 0,j :: r):=by simpa [Lab.add] using hbr
    have hbB:b≠B:=by
     intro e
     subst e
     rcases g5 with g5 | g5
     ·have:=(s2.lab _ _ hbr').1;omega
     ·rw[g5] at hbr';cases hbr'
    refine ⟨?_,g6 b hbB (s2.lab _ _ hbr').1⟩
    rw[boxLab_old (fun q e=>hbB (by cases e;rfl)),hbr']
    simp [appG,hj,Lab.add]
   ·rename_i hj
    have hrep:=g9 _ e' he'
    rw[show es.length+(j-es.length)=j by omega] at hrep
    refine RepL.move hZ e' (fun b r hbr=>?_) hrep
    cases f with
    |own=>
     have hbr':G2.L b=some (.held 1,(j-es.length) :: r):=by simpa [Lab.add,Fl.labs] using hbr
     have hbB:b≠B:=by
      intro e
      subst e
      rcases g5 with g5 | g5
      ·have:=(s2.lab _ _ hbr').1;omega
      ·rw[g5] at hbr';cases hbr'
     refine ⟨?_,g6 b hbB (s2.lab _ _ hbr').1⟩
     rw[boxLab_old (fun q e=>hbB (by cases e;rfl)),hbr']
     simp [appG,Lab.add]
     omega
    |nw=>simp [Fl.labs,noLab] at hbr
    |fz=>simp [Fl.labs,noLab] at hbr)
  rfl (fun h=>by cases h)
 refine OpOK.mk' hd hexec (fresh_put s' ?_ h)
 have:=(s'.box (d,0)).1
 simp only[if_true] at this
 rw[v2] at this
 exact ref_row (bx:=fun n=>if n=(d,0) then ⟨false,[.sl .own (es++es')]⟩ else st2.b n) this (by simp)
theorem headM_inv {z:List T} {v:LV} {u:Value} {k:Bool→T→M Unit} {x:Unit} (he:RepV C G w st.b v u) (h:(headM z v k).run C.N st=some (x,st')) :
  ∃ ne a1 x1 st1 v1 u1,(k ne a1).run C.N st1=some (x,st')∧st.closeS v1=some (x1,st1)∧RepV C G w st.b v1 u1 ∧
    ((ne=false∧a1=x1∧u1=u)∨(ne=true∧a1=.sl .own []∧∃ e ad cap,x1=.sl .own [e]∧e.length=z.length∧u=.slice ad 0 cap∧u1=.slice ad 1 cap)):=by
 unfold headM at h
 split at h
 ·rename_i n p lo hi
  simp only[M.run] at h
  split at h
  ·rename_i hc
   obtain ⟨c1,c2,c3⟩:=hc
   subst c1 c2
   rw[run_close] at h
   split at h
   ·rename_i x1 st1 hc1
    split at h
    ·rename_i e
     split at h
     ·rename_i hel
      rw[RepV] at he
      obtain ⟨es,r,ad,cap,g1,g2,g3,hh,ad',e1,e2⟩:=he
      have hne:0<es.length:=by
       unfold fullA at c3
       rw[g1] at c3
       cases es with
       |nil=>simp at c3
       |cons _ _=>simp
      refine ⟨true,_,_,_,.ref n p 0 1,.slice ad' 1 cap,h,hc1,?_,.inr ⟨rfl,rfl,e,ad',cap,rfl,hel,by simpa using e1,rfl⟩⟩
      rw[RepV]
      exact ⟨es,r,ad,cap,g1,by omega,by omega,hh,ad',by simp,fun _=>e2 (.inr rfl)⟩
     ·cases h
    ·cases h
   ·cases h
  ·rw[run_close] at h
   split at h
   ·rename_i x1 st1 hc1
    exact ⟨false,x1,x1,st1,_,u,h,hc1,he,.inl ⟨rfl,rfl,rfl⟩⟩
   ·cases h
 ·rw[run_close] at h
  split at h
  ·rename_i x1 st1 hc1
   exact ⟨false,x1,x1,st1,_,u,h,hc1,he,.inl ⟨rfl,rfl,rfl⟩⟩
  ·cases h
theorem app_end {G2:Gh} {st2:St} {hs2:List (T×Value)} {o:Oper} {c:Call} {z:List T} {d:Nat} {x y:Operand} {e t0:TypeId} {i:TypeInfo} {zv:Value} {ne:Bool} {a1 x1 b:T} {u1:Value} {f:Fl} {es':List (List T)}
  (ho:o.op=.call c) (hc:c.callee=.builtin .append) (hd:o.dst=some d) (hargs:c.args.toList=[x,y]) (htys:c.argTypes.toList=[t0,t0]) (h1:C.P.underlying t0=some (.slice e)) (h2:C.P.info? e=some i) (h3:i.zero=some zv) (h4:zv.cells.size=i.size)
  (h6:z.length=i.size) (h7:0<z.length) (h8:i.bytes≤4096) (s2:Sim C G2 st2 hs2 a w) (hx:hs2[0]?=some (x1,u1)) {Z2:Fl→Nat→Prop} {L2:Labs} {l2:Lab} (hb:b=.sl f es') (r2:RepC Z2 w L2 l2 (.sl f es') (a.eval y))
  (hconv:∀ i e us,es'[i]?=some e→RepL Z2 w (f.labs L2) (l2.add i) 0 e us→RepL (C.Z G2) w (f.labs G2.L) (Lab.add (.held 1,[]) i) 0 e us)
  (hcase:(ne=false∧a1=x1∧u1=a.eval x)∨(ne=true∧a1=.sl .own []∧∃ e ad cap,x1=.sl .own [e]∧e.length=z.length∧a.eval x=.slice ad 0 cap∧u1=.slice ad 1 cap))
  (h:(finApp z d ne a1 b).run C.N st2=some ((),st')):OpOK C o st' a w:=by
 subst hb
 have r1:=s2.held 0 _ _ hx
 have ha:c.args.map a.eval=#[a.eval x,a.eval y]:=by
  apply Array.ext'
  simp [hargs]
 have ht:c.argTypes=#[t0,t0]:=by
  apply Array.ext'
  exact htys
 have hexec:∀ v' w',(Builtin.append_ #[t0,t0] o.type #[a.eval x,a.eval y]).run C.P w=.ok v' w'→(execOp a.eval o).run C.P w=.ok (.value v') w':=by
  intro v' w' f1
  unfold execOp
  simp only[ho,resolve,hc,ha,ht,invoke,builtin,Sem.run_bind,Sem.run_pure,Result.andThen_ok,f1]
 unfold finApp at h
 split at h
 ·rename_i es g es2 heq
  cases heq
  split at h
  ·rename_i hb
   obtain ⟨b1,b2,b3⟩:=hb
   rcases hcase with ⟨hn,k1,k2⟩ | ⟨hn,k1,e0,ad,cap,k2,k3,k4,k5⟩
   ·subst k1 k2
    obtain ⟨v',w',f1,f2,f3,f4⟩:=append_mem (P:=C.P) (t:=t0) (ty:=o.type) (e:=e) h1 h2 h3 h4 h6 h8 h7 r1 r2 b3 b2
    rcases f4 with ⟨k1,k2,hww⟩ | ⟨hne0,B,cur,cap,ty',k1,g1,g2,g3,g4,g5,g6,g7,g8,g9⟩
    ·subst k1 k2
     have hww':=hww.symm
     subst hww'
     obtain ⟨G',s',z',l',v1,v2⟩:=s2.freshBox (w':=w) (d,0) (by simp) ⟨false,[.sl .own (es++[])]⟩ [a.eval x] none headG
      headG_inj (fun _ _ e=>by cases e) (fun _ _ e=>by cases e) (fun _ _ _=>rfl) (Nat.le_refl _) ⟨rfl,rfl,rfl⟩
      (by
       rw[RepL,RepL]
       refine ⟨?_,trivial⟩
       rw[List.append_nil]
       exact held_moved s2 (w':=w) (D:=(d,0)) (g:=headG) (nb:=none) (j:=0) (pl:=[0]) hx (fun r=>rfl) (fun _ _ _ e=>by cases e) (fun _ _ _=>rfl) (fun _ _ e=>by cases e))
      rfl (fun h=>by cases h)
     refine OpOK.mk' hd (hexec _ _ f1) (fresh_put s' ?_ h)
     have:=(s'.box (d,0)).1
     simp only[if_true] at this
     rw[v2] at this
     exact ref_row (bx:=fun n=>if n=(d,0) then ⟨false,[.sl .own (es++[])]⟩ else st2.b n) this (by simp)
    ·subst k1
     exact app_fin (f:=f) s2 hd (hexec _ _ f1) f2 f3 b3 h7 hne0 g1 g2 g3 g4 g5 g6 g7 g8 (fun i e hi=>hconv i e _ hi (g9 i e hi)) h
   ·cases k1
    subst k2 k5
    rw[k4] at hexec
    obtain ⟨v',w',f1,f2,f3,B,cur,cap',ty',k6,g1,g2,g3,g4,g5,g6,g7,g8,g9⟩:=append_memK (P:=C.P) (t:=t0) (ty:=o.type) (e:=e) (es:=[]) h1 h2 h3 h4 h6 h8 h7 r1 ⟨by simp,by simp⟩ r2 (fun x hx=>by
     rw[List.mem_singleton] at hx;subst hx;exact k3) (fun x hx=>b3 x (by simpa using hx)) b2 (b1 hn)
    subst k6
    exact app_fin (f:=f) s2 hd (hexec _ _ f1) f2 f3 b3 h7 (b1 hn) g1 g2 g3 g4 g5 g6 g7 g8 (fun i e hi=>hconv i e _ hi (g9 i e hi)) h
  ·cases h
 ·cases h
theorem op_append (s:Sim C G st [] a w) {o:Oper} {c:Call} (ho:o.op=.call c) (hc:c.callee=.builtin .append) (h:(opM C.P o).run C.N st=some ((),st')):OpOK C o st' a w:=by
 unfold opM at h;rw[ho] at h
 simp only[hc] at h
 split at h
 ·rename_i e _;cases e
 ·rename_i e _;cases e
 ·rename_i x y _ hargs
  unfold appendM at h
  split at h
  ·rename_i d t0 t1 hd htys
   split at h
   ·split at h
    ·rename_i z hz
     split at h
     ·rename_i heq
      subst heq
      obtain ⟨e,i,zv,h1,h2,h3,h4,h5,h6,h7,h8⟩:=rowInfo_some hz
      obtain ⟨v,hv,h⟩:=run_ev_some h
      obtain ⟨u,hu,h⟩:=run_ev_some h
      have he:=s.ev hv
      have he2:=s.ev hu
      have hzs:zv.cells.size=i.size:=by rw[← h6,h4];simp
      unfold twoM at h
      split at h
      ·rename_i m q lo hi hfl
       simp only[M.run] at h
       split at h
       ·rename_i es r hrow
        split at h
        ·rename_i hcond
         obtain ⟨_,_,hff⟩:=hcond
         have r2:=win_rep s he2 hrow hff
         obtain ⟨ne,a1,x1,st1,v1,u1,h,hcl,hr1,hcase⟩:=headM_inv he h
         have hcs:st.closesS [v1]=some ([x1],st1):=by simp [St.closesS,hcl]
         obtain ⟨G2,s2,z2,k2⟩:=closes_step [v1] (us:=[u1]) s (by rw[RepVs,RepVs];exact ⟨hr1,rfl⟩) hcs
         exact app_end ho hc hd hargs htys h1 h2 h3 hzs h6 h7 h8 s2 rfl rfl r2 (fun i e us hi hr=>flat_move (by
          have:=List.mem_of_mem_take (List.mem_of_mem_drop (List.mem_of_getElem? hi))
          exact List.all_eq_true.1 hff e this) hr) hcase h
        ·cases h
       ·cases h
      ·rename_i uu _ _ _
       obtain ⟨ne,a1,x1,st1,v1,u1,h,hcl,hr1,hcase⟩:=headM_inv he h
       rw[run_close] at h
       split at h
       ·rename_i x2 st2 hc2
        have hcs:st.closesS [v1,uu]=some ([x1,x2],st2):=by simp [St.closesS,hcl,hc2]
        obtain ⟨G2,s2,z2,k2⟩:=closes_step [v1,uu] (us:=[u1,a.eval y]) s (by rw[RepVs,RepVs,RepVs];exact ⟨hr1,he2,rfl⟩) hcs
        have r2:=s2.held 1 _ _ rfl
        have hx2:∃ f es',x2=.sl f es':=by
         unfold finApp at h
         split at h
         ·exact ⟨_,_,rfl⟩
         ·cases h
        obtain ⟨f,es',rfl⟩:=hx2
        exact app_end ho hc hd hargs htys h1 h2 h3 hzs h6 h7 h8 s2 rfl rfl r2 (fun _ _ _ _ hr=>hr) hcase h
       ·cases h
     ·split at h
      ·rename_i hu2
       obtain ⟨e,i,zv,h1,h2,h3,h4,h5,h6,h7,h8⟩:=rowInfo_some hz
       obtain ⟨v,hv,h⟩:=run_ev_some h
       obtain ⟨u,hu,h⟩:=run_ev_some h
       have he:=s.ev hv
       have he2:=s.ev hu
       rw[run_close] at h
       split at h
       ·rename_i x1 st2 hc1
        have hcs:st.closesS [v]=some ([x1],st2):=by simp [St.closesS,hc1]
        obtain ⟨G2,s2,z2,k2⟩:=closes_step [v] (us:=[a.eval x]) s (by rw[RepVs,RepVs];exact ⟨he,rfl⟩) hcs
        split at h
        ·rename_i es sb z0 _ _
         split at h
         ·rename_i hb
          have r1:=s2.held 0 _ _ rfl
          have eu:=RepV_v he2
          obtain ⟨v',w',f1,f2,f3,f4⟩:=append_str (P:=C.P) (t:=t0) (t2:=t1) (ty:=o.type) (e:=e) (s:=sb) h1 hu2 h2 h3 (by rw[← h6,h4];simp) h6 (by simp) h8 r1 hb.2 hb.1
          have hexec:(execOp a.eval o).run C.P w=.ok (.value v') w':=by
           unfold execOp
           have ha:c.args.map a.eval=#[a.eval x,.string sb]:=by
            apply Array.ext'
            simp [hargs,eu]
           have ht:c.argTypes=#[t0,t1]:=by
            apply Array.ext'
            exact htys
           simp only[ho,resolve,hc,ha,ht,invoke,builtin,Sem.run_bind,Sem.run_pure,Result.andThen_ok,f1]
          generalize hE:ofBytes sb=es' at f4 h hb
          have hall:∀ e'∈es++es',e'.length=1:=by
           intro e' he'
           rcases List.mem_append.1 he' with h9 | h9
           ·exact hb.2 e' h9
           ·rw[← hE] at h9
            unfold ofBytes at h9
            obtain ⟨c9,_,rfl⟩:=List.mem_map.1 h9
            rfl
          rcases f4 with ⟨rfl,rfl,hww⟩ | ⟨hne0,B,cur,cap,ty',rfl,g1,g2,g3,g4,g5,g6,g7,g8,g9⟩
          ·have hww':=hww.symm
           subst hww'
           obtain ⟨G',s',z',l',v1,v2⟩:=s2.freshBox (w':=w) (d,0) (by simp) ⟨false,[.sl .own (es++[])]⟩ [a.eval x] none headG
            headG_inj (fun _ _ e=>by cases e) (fun _ _ e=>by cases e) (fun _ _ _=>rfl) (Nat.le_refl _) ⟨rfl,rfl,rfl⟩
            (by
             rw[RepL,RepL]
             refine ⟨?_,trivial⟩
             rw[List.append_nil]
             exact held_moved s2 (w':=w) (D:=(d,0)) (g:=headG) (nb:=none) (j:=0) (pl:=[0]) rfl (fun r=>rfl) (fun _ _ _ e=>by cases e) (fun _ _ _=>rfl) (fun _ _ e=>by cases e))
            rfl (fun h=>by cases h)
           refine OpOK.mk' hd hexec (fresh_put s' ?_ h)
           have:=(s'.box (d,0)).1
           simp only[if_true] at this
           rw[v2] at this
           exact ref_row (bx:=fun n=>if n=(d,0) then ⟨false,[.sl .own (es++[])]⟩ else st2.b n) this (by simp)
          ·have hBnb:∀ m r,G2.L B≠some (.box m,r):=by
            intro m r e
            rcases g5 with g5 | g5
            ·have:=(s2.lab _ _ e).1;omega
            ·rw[g5] at e;cases e
           have hBz:¬ (C.Zf B∨G2.Zn B):=by
            intro e
            rcases g5 with g5 | g5
            ·have:=(s2.zone _ e).2;omega
            ·have:=(s2.zone _ e).1;rw[g5] at this;cases this
           have hhp:∀ b,(∀ q,some (B,[0])≠some (b,q))→b<w.heap.size→w'.heap[b]?=w.heap[b]?:=fun b hb hlt=>g6 b (fun e=>hb [0] (by rw[e])) hlt
           have hZ:∀ f b,C.Z G2 f b→C.Z G2 f b∧w'.heap[b]?=w.heap[b]?:=by
            intro f b hb
            have hzb:C.Zf b∨G2.Zn b:=by
             cases f
             ·exact hb.elim
             ·exact .inr hb
             ·exact hb
            exact ⟨hb,g6 b (fun e=>hBz (e ▸ hzb)) (s2.zone b hzb).2⟩
           have hne:es++es'≠[]:=by
            intro e
            exact hne0 (List.append_eq_nil_iff.1 e).2
           obtain ⟨G',s',z',l',v1,v2⟩:=s2.freshBox (w':=w') (d,0) (by simp) ⟨false,[.sl .own (es++es')]⟩ [.slice (some ⟨B,0,none⟩) (es++es').length cap] (some (B,[0])) (appG es.length)
            (appG_inj _) (fun _ _ e j r e2=>by cases e;exact appG_long e2 rfl)
            (fun B' q e=>by
             cases e
             refine ⟨g7,?_,hBnb,hBz⟩
             rcases g5 with g5 | g5
             ·left;rw[g5];exact s2.size
             ·exact (s2.lab _ _ g5).2)
            hhp f3 f2
            (by
             refine row_box g1 boxLab_new h7 hall g2 g3 g4 (fun e=>(hne e).elim) ?_
             refine RepLL.of_get (wd:=1) hall fun j e' he'=>?_
             rw[Nat.zero_add]
             rw[List.getElem?_append] at he'
             split at he'
             ·rename_i hj
              refine RepL.move hZ e' (fun b r hbr=>?_) (g8 j e' he')
              have hbr':G2.L b=some (.held 0,j :: r):=by simpa [Lab.add] using hbr
              have hbB:b≠B:=by
               intro e
               subst e
               rcases g5 with g5 | g5
               ·have:=(s2.lab _ _ hbr').1;omega
               ·rw[g5] at hbr';cases hbr'
              refine ⟨?_,g6 b hbB (s2.lab _ _ hbr').1⟩
              rw[boxLab_old (fun q e=>hbB (by cases e;rfl)),hbr']
              simp [appG,hj,Lab.add]
             ·rename_i hj
              have hrep:=g9 _ e' he' noLab noWhere
              rw[show es.length+(j-es.length)=j by omega] at hrep
              refine RepL.move hZ e' (fun b r hbr=>?_) hrep
              simp [noLab] at hbr)
            rfl (fun h=>by cases h)
           refine OpOK.mk' hd hexec (fresh_put s' ?_ h)
           have:=(s'.box (d,0)).1
           simp only[if_true] at this
           rw[v2] at this
           exact ref_row (bx:=fun n=>if n=(d,0) then ⟨false,[.sl .own (es++es')]⟩ else st2.b n) this (by simp)
         ·cases h
        ·cases h
       ·cases h
      ·cases h
    ·cases h
   ·cases h
  ·cases h
 ·rename_i e _;cases e
 ·cases h
end
end TM
