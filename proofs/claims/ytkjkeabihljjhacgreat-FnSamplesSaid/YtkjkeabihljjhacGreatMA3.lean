/- Part 4 of a machine that runs the functions of a program over plain values, and of the proof that its runs are runs of the program. No condition. -/
import Derived.Test.YtkjkeabihljjhacGreatMA2
namespace Go.Proofs.YtkjkeabihljjhacGreat
namespace TM
open Go
section
variable {ρ:Type} {N:Nat} {vs vs':VS} {st st':St} {y:ρ} {P:Program}
theorem intCase {w:TV} {lw:LV} {K:V (.int .i64)→Co ρ} {nn:Nat} (hw:RelV (Qs st.b) w lw):(match w with
  |.c ⟨.int .i64,_,j⟩=>K j
  |_=>no nn) vs=some y→∃ (f:Fg) (j:Int),w=.c ⟨.int .i64,f,j⟩∧lw=.t (.v (.int .i64 j))∧K j vs=some y:=by
 intro hh
 cases w with
 |c z=>
  obtain ⟨t2,f2,j⟩:=z
  cases t2 with
  |int k2=>
   cases k2 with
   |i64=>exact ⟨f2,j,rfl,intV hw,hh⟩
   |_=>cases hh
  |_=>cases hh
 |_=>cases hh
theorem atS_some {l:List UInt8} {i:Int} {k:Int→Option ρ} (h:atS l i k=some y):∃ c,0≤i∧l[i.toNat]?=some c∧k c.toNat=some y:=by
 unfold atS at h
 split at h
 ·rename_i e he
  split at he
  ·exact ⟨e,by assumption,he,h⟩
  ·cases he
 ·cases h
theorem sub_some {α:Type} {l:List α} {a b:Int} {k:List α→Option ρ} (h:sub_ l a b k=some y):(0≤a∧a≤b∧b≤l.length)∧k ((l.take b.toNat).drop a.toNat)=some y:=by
 unfold sub_ at h
 split at h
 ·exact ⟨by assumption,h⟩
 ·cases h
theorem tv_index {d:Option Nat} {t:TypeId} {x i:Operand} {k:Co ρ} (R:Rel vs st):(match P.underlying t with
  |some .string=>evT x fun v=>evT i fun w=>match v,w with
   |.c ⟨.str,_,l⟩,.c ⟨.int kk,_,j⟩=>fun st=>sget l (icast .i64 kk j) fun c=>outT N d (.c ⟨.int .u8,.z,c⟩) k st
   |_,_=>no 64
  |_=>no 65) vs=some y→Law N vs st k y (match P.underlying t with
  |some .string=>ev x fun v=>ev i fun w=>match v,w with
   |.t (.v (.string s)),.t (.v (.int _ k))=>if 0≤k then (match s.data[k.toNat]? with
    |some c=>out d (.t (.v (.int .u8 c.toNat)))
    |none=>.no) else .no
   |_,_=>.no
  |_=>.no):=by
 intro h
 cases hu:P.underlying t with
 |none=>rw[hu] at h;cases h
 |some ds=>
  rw[hu] at h
  cases ds with
  |string=>
   simp only at h ⊢
   obtain ⟨v,lv,vs1,h,hv,g1,_⟩:=evT_ref (N:=N) (m:=fun v=>ev i fun w=>match v,w with
    |.t (.v (.string s)),.t (.v (.int _ k))=>if 0≤k then (match s.data[k.toNat]? with
     |some c=>out d (.t (.v (.int .u8 c.toNat)))
     |none=>.no) else .no
    |_,_=>.no) h R
   refine .of g1 ?_
   obtain ⟨w,lw,vs2,h,hw,g2,_⟩:=evT_ref (N:=N) (m:=fun w=>match lv,w with
    |.t (.v (.string s)),.t (.v (.int _ k))=>if 0≤k then (match s.data[k.toNat]? with
     |some c=>out d (.t (.v (.int .u8 c.toNat)))
     |none=>.no) else .no
    |_,_=>.no) h g1.rel
   refine .of g2 ?_
   cases v with
   |c z=>
    obtain ⟨t1,f1,l⟩:=z
    cases t1 with
    |str=>
     cases w with
     |c z=>
      obtain ⟨t2,f2,j⟩:=z
      cases t2 with
      |int k2=>
       simp only at h
       rw[strV hv,intV hw]
       have h:atS (show List UInt8 from l) (show Int from j) (fun c=>(fun st=>outT N d (.c ⟨.int .u8,.z,c⟩) k st) vs2)=some y:=h
       obtain ⟨c,h0,hc,h⟩:=atS_some h
       simp only
       have hc':(List.toArray (α:=UInt8) l)[Int.toNat j]?=some c:=(List.getElem?_toArray (α:=UInt8)).trans hc
       rw[if_pos h0,hc']
       exact out_law g2.rel (c:=⟨.int .u8,.z,(c.toNat:Int)⟩) rfl h
      |_=>cases h
     |_=>cases h
    |_=>cases h
   |_=>cases h
  |_=>cases h
theorem tv_extract {d:Option Nat} {x:Operand} {i:Nat} {k:Co ρ} (R:Rel vs st):(match x with
  |.tmp t=>rdX t i fun y=>outT N d y k
  |_=>no 67) vs=some y→Law N vs st k y (match x with
  |.tmp t=>.rdX t i fun y=>out d y
  |_=>.no):=by
 intro h
 cases x with
 |tmp t=>
  simp only[rdX] at h
  have hv:=R.s t
  generalize hl:lookS vs.s t=v at h hv
  cases v with
  |tup xs=>
   simp only[RelV] at hv
   obtain ⟨us,hst,hu⟩:=hv
   simp only at h ⊢
   have hd:=hu.drop i
   cases hx:xs.drop i with
   |nil=>rw[hx] at h;cases h
   |cons z rest=>
    rw[hx] at h hd
    cases hux:us.drop i with
    |nil=>rw[hux] at hd;simp only[RelVs] at hd
    |cons w rest'=>
     rw[hux] at hd
     simp only[RelVs] at hd
     have hp:partOf (st.s t) i=some w:=by rw[hst];exact drop_head hux
     have g1:Go1 N vs st (.rdX t i fun y=>out d y) ⟨vs.s,vs.b,.rX t i z :: vs.lg⟩ st (out d w):=
      ⟨⟨R.s,R.b⟩,[.rX t i w],by simp only[M.runT,hp];cases (out d w).runT N st<;>rfl,.one (f:=.rX t i z) ⟨rfl,rfl,hd.1.t⟩⟩
     exact .of g1 (outT_ref h g1.rel hd.1)
  |_=>cases h
 |_=>cases h
theorem tv_makeFunc {d:Option Nat} {g:Fn} {first:Array Operand} {caps:List Operand} {k:Co ρ} (R:Rel vs st):(match g,first.isEmpty with
  |.func g,true=>evTs caps fun vs=>outT N d (.fn g vs) k
  |_,_=>no 68) vs=some y→Law N vs st k y (if first.isEmpty=true then evs caps fun vs=>out d (.fn g vs) else .no):=by
 intro h
 cases g with
 |func g=>
  cases hf:first.isEmpty with
  |false=>rw[hf] at h;cases h
  |true=>
   rw[hf] at h
   simp only[if_true] at h ⊢
   obtain ⟨us,lus,vs1,h,hu,g1,_⟩:=evTs_ref (N:=N) (m:=fun vs=>out d (.fn (.func g) vs)) h R
   exact .of g1 (outT_ref h g1.rel (by simp only[RelV];exact ⟨_,rfl,hu⟩))
 |_=>cases h
theorem bytesC_some {r:List ST} {f:Fg} {l:V (.sl r)} {k:V .str→Co ρ} {vs:VS} (h:bytesC r f l k vs=some y):∃ (g:Fl) (es:List (List T)) (s:V .str),(Cl.mk (.sl r) f l).enc=.sl g es∧bytesL es=some (show List UInt8 from s)∧k s vs=some y:=by
 unfold bytesC at h
 split at h
 ·exact ⟨.own,[],sLit [],rfl,rfl,h⟩
 ·rename_i g f1 l
  refine ⟨g,_,bstr l,rfl,?_,h⟩
  show bytesL ((show List Int from l).map fun e=>[T.v (.int .u8 e)])=some (bytesI l)
  have key:∀ l:List Int,bytesL (l.map fun e=>[T.v (.int .u8 e)])=some (bytesI l):=by
   intro l
   induction l with
   |nil=>rfl
   |cons n l ih=>simp only[List.map_cons,bytesL,ih];rfl
  exact key l
 ·cases h
theorem tv_convert {d:Option Nat} {s t:TypeId} {x:Operand} {k:Co ρ} (R:Rel vs st):(match P.underlying s,P.underlying t with
  |some (.int _),some (.int k')=>evT x fun v=>match v with
   |.c ⟨.int k0,_,n⟩=>outT N d (.c ⟨.int k',.z,iconv k0 k' n⟩) k
   |_=>no 74
  |some .string,some .string=>evT x fun v=>match v with
   |.c ⟨.str,_,l⟩=>outT N d (.c ⟨.str,.z,l⟩) k
   |_=>no 75
  |some (.slice e),some .string=>match P.underlying e with
   |some (.int .u8)=>evT x fun v=>match v with
    |.c ⟨.sl r,f,l⟩=>bytesC r f l fun s=>outT N d (.c ⟨.str,.z,s⟩) k
    |.ref n p none=>rowC n p fun row=>match row with
     |⟨.sl r,f,l⟩ :: _=>match ownF f with
      |true=>bytesC r f l fun s=>outT N d (.c ⟨.str,.z,s⟩) k
      |false=>no 215
     |_=>no 216
    |_=>no 217
   |_=>no 218
  |_,_=>no 76) vs=some y→Law N vs st k y (match P.underlying s,P.underlying t with
  |some (.int _),some (.int k)=>ev x fun v=>match v with
   |.t (.v (.int _ n))=>out d (.t (.v (.int k (k.wrap n))))
   |_=>.no
  |some .string,some .string=>ev x fun v=>match v with
   |.t (.v (.string s))=>out d (.t (.v (.string s)))
   |_=>.no
  |some (.slice e),some .string=>match P.underlying e with
   |some (.int .u8)=>ev x fun v=>match v with
    |.t (.sl _ es)=>match bytesL es with
     |some bs=>out d (.t (.v (.string ⟨bs.toArray⟩)))
     |none=>.no
    |.ref n p 0 hi=>.rdB n fun bx=>match rowAt bx.cells p with
     |some (.sl .own es :: _)=>match bytesL es with
      |some bs=>if hi=es.length then out d (.t (.v (.string ⟨bs.toArray⟩))) else .no
      |none=>.no
     |_=>.no
    |_=>.no
   |_=>.no
  |_,_=>.no):=by
 intro h
 cases hs:P.underlying s with
 |none=>rw[hs] at h;cases h
 |some ds=>
  rw[hs] at h
  cases ht:P.underlying t with
  |none=>rw[ht] at h;cases ds<;>cases h
  |some dt=>
   rw[ht] at h
   cases ds with
   |int ks=>
    cases dt with
    |int k'=>
     simp only at h ⊢
     obtain ⟨v,lv,vs1,h,hv,g1,_⟩:=evT_ref (N:=N) (m:=fun v=>match v with
      |.t (.v (.int _ n))=>out d (.t (.v (.int k' (k'.wrap n))))
      |_=>.no) h R
     refine .of g1 ?_
     cases v with
     |c z=>
      obtain ⟨t1,f1,n⟩:=z
      cases t1 with
      |int k0=>rw[intV hv];exact out_law g1.rel (c:=⟨.int k',.z,iconv k0 k' n⟩) rfl h
      |_=>cases h
     |_=>cases h
    |_=>cases h
   |string=>
    cases dt with
    |string=>
     simp only at h ⊢
     obtain ⟨v,lv,vs1,h,hv,g1,_⟩:=evT_ref (N:=N) (m:=fun v=>match v with
      |.t (.v (.string s))=>out d (.t (.v (.string s)))
      |_=>.no) h R
     refine .of g1 ?_
     cases v with
     |c z=>
      obtain ⟨t1,f1,l⟩:=z
      cases t1 with
      |str=>rw[strV hv];exact out_law g1.rel (c:=⟨.str,.z,l⟩) rfl h
      |_=>cases h
     |_=>cases h
    |_=>cases h
   |slice el=>
    cases dt with
    |string=>
     simp only at h ⊢
     cases he:P.underlying el with
     |none=>rw[he] at h;cases h
     |some de=>
      rw[he] at h
      cases de with
      |int ke=>
       cases ke with
       |u8=>
        simp only at h ⊢
        obtain ⟨v,lv,vs1,h,hv,g1,_⟩:=evT_ref (N:=N) (m:=fun v=>match v with
         |.t (.sl _ es)=>match bytesL es with
          |some bs=>out d (.t (.v (.string ⟨bs.toArray⟩)))
          |none=>.no
         |.ref n p 0 hi=>.rdB n fun bx=>match rowAt bx.cells p with
          |some (.sl .own es :: _)=>match bytesL es with
           |some bs=>if hi=es.length then out d (.t (.v (.string ⟨bs.toArray⟩))) else .no
           |none=>.no
          |_=>.no
         |_=>.no) h R
        refine .of g1 ?_
        cases v with
        |c z=>
         obtain ⟨t1,f1,l⟩:=z
         cases t1 with
         |sl r=>
          simp only at h
          obtain ⟨g,es,s,q1,q2,h⟩:=bytesC_some h
          simp only[RelV] at hv
          subst hv
          rw[q1]
          simp only[q2]
          exact out_law g1.rel (c:=⟨.str,.z,s⟩) rfl h
         |_=>cases h
        |ref n p sub=>
         cases sub with
         |some s=>cases h
         |none=>
          simp only[RelV] at hv
          obtain ⟨hi,rfl,es,r0,hes,hhi⟩:=hv
          simp only at h ⊢
          obtain ⟨row,vs2,h,hrow,g2,_⟩:=rowC_ref (N:=N) (m:=fun bx=>match rowAt bx.cells (pthL p) with
           |some (.sl .own es :: _)=>match bytesL es with
            |some bs=>if hi=es.length then out d (.t (.v (.string ⟨bs.toArray⟩))) else .no
            |none=>.no
           |_=>.no) h g1.rel
          refine .of g2 ?_
          cases row with
          |nil=>cases h
          |cons w rest=>
           obtain ⟨t1,f1,l⟩:=w
           cases t1 with
           |sl r=>
            simp only at h
            cases hf:ownF f1 with
            |false=>rw[hf] at h;cases h
            |true=>
             rw[hf] at h
             simp only at h
             obtain ⟨g,es',s,q1,q2,h⟩:=bytesC_some h
             have e1:encs (⟨.sl r,f1,l⟩ :: rest)=.sl g es' :: encs rest:=by rw[← q1];rfl
             rw[hrow,e1] at hes
             cases hes
             rw[hrow,e1]
             simp only[q2,if_pos hhi]
             exact out_law g2.rel (c:=⟨.str,.z,s⟩) rfl h
           |_=>cases h
        |_=>cases h
       |_=>cases h
      |_=>cases h
    |_=>cases h
   |_=>cases h
theorem rep_some {α:Type} {n:Int} {e:α} {k:List α→Option ρ} (h:rep_ n e k=some y):(0≤n∧n≤1073741824)∧k (List.replicate n.toNat e)=some y:=by
 unfold rep_ at h
 split at h
 ·exact ⟨by assumption,h⟩
 ·cases h
theorem makeSlice_end {d:Nat} {r:List (ST×Fg)} {z:List T} {zs:List Cl} {n:Int} {k:Co ρ} {vs:VS} {st:St} (R:Rel vs st) (hz:zeroCs (cts r)=some zs) (h3:zeroOks (cts r) z=true) :
  (fun st=>mkRow (cts r) (fgs r) zs fun e=>lrep (cts r) n e fun x=>freshT d ⟨false,[⟨.sl (cts r),.sl .own (fgs r),x⟩]⟩ (wrS N d (.ref (d,0) ⟨0,[]⟩ none) k) st) vs=some y →
  Law N vs st k y (if 0≤n∧n≤1073741824∧n=n then fresh d ⟨false,[.sl .own (List.replicate n.toNat z)]⟩ (.wrS d (.ref (d,0) [0] 0 n.toNat) (.ok ())) else .no):=by
 intro h
 obtain ⟨e,h,he⟩:=mkRow_some h
 obtain ⟨hn,h⟩:=rep_some h
 rw[if_pos ⟨hn.1,hn.2,rfl⟩]
 rw[zeroCs_enc hz h3] at he
 refine fresh_ref h R ?_ (by simp)
 show T.sl .own ((lis (cts r) _).map fun e=>encR (cts r) (fgs r) e)=_
 congr 1
 rw[← he]
 exact List.map_replicate
theorem tv_makeSlice {d:Option Nat} {t:TypeId} {l c:Operand} {k:Co ρ} (R:Rel vs st):(match d,rowT P t with
  |some d,some r=>match zeroCs (cts r) with
   |some zs=>evT l fun v=>evT c fun u=>match v,u with
    |.c ⟨.int .i64,_,n⟩,.c ⟨.int .i64,_,m⟩=>iteC (match sameOp l c with
      |true=>bLit true
      |false=>ieq .i64 m n) (fun st=>mkRow (cts r) (fgs r) zs fun e=>lrep (cts r) n e fun x=>freshT d ⟨false,[⟨.sl (cts r),.sl .own (fgs r),x⟩]⟩ (wrS N d (.ref (d,0) ⟨0,[]⟩ none) k) st) (no 37)
    |_,_=>no 38
   |none=>no 39
  |_,_=>no 39) vs=some y→Law N vs st k y (match d,rowInfo P t with
  |some d,some z=>ev l fun v=>ev c fun u=>match v,u with
    |.t (.v (.int .i64 n)),.t (.v (.int .i64 m))=>if 0≤n∧n≤1073741824∧m=n then fresh d ⟨false,[.sl .own (List.replicate n.toNat z)]⟩ (.wrS d (.ref (d,0) [0] 0 n.toNat) (.ok ())) else .no
    |_,_=>.no
  |_,_=>.no):=by
 intro h
 cases d with
 |none=>cases h
 |some d=>
  cases hr:rowT P t with
  |none=>rw[hr] at h;cases h
  |some r=>
   rw[hr] at h
   obtain ⟨z,e,h1,h2,h3,h4⟩:=rowT_some hr
   rw[h1]
   simp only at h ⊢
   cases hz:zeroCs (cts r) with
   |none=>rw[hz] at h;cases h
   |some zs=>
    rw[hz] at h
    simp only at h
    cases hso:sameOp l c with
    |true=>
     rw[hso] at h
     have:∃ t,l=.tmp t∧c=.tmp t:=by
      cases l<;>cases c<;>first | cases hso | skip
      rename_i a b
      exact ⟨a,rfl,by rw[Nat.eq_of_beq_eq_true hso]⟩
     obtain ⟨t0,rfl,rfl⟩:=this
     refine .of (go_rdS R) (.of (go_rdS (R.lg _)) ?_)
     have hv:=R.s t0
     change (match lookS vs.s t0,lookS vs.s t0 with
      |.c ⟨.int .i64,_,n⟩,.c ⟨.int .i64,_,m⟩=>iteC (bLit true) (fun st=>mkRow (cts r) (fgs r) zs fun e=>lrep (cts r) n e fun x=>freshT d ⟨false,[⟨.sl (cts r),.sl .own (fgs r),x⟩]⟩ (wrS N d (.ref (d,0) ⟨0,[]⟩ none) k) st) (no 37)
      |_,_=>no 38) _=some y at h
     generalize hlk:lookS vs.s t0=v at h hv
     cases v with
     |c w=>
      obtain ⟨t1,f1,n⟩:=w
      cases t1 with
      |int k1=>
       cases k1 with
       |i64=>
        rw[intV hv]
        simp only
        exact makeSlice_end (R.lg _) hz h3 h
       |_=>cases h
      |_=>cases h
     |_=>cases h
    |false=>
     rw[hso] at h
     obtain ⟨v,lv,vs1,h,hv,g1,s1⟩:=evT_ref (N:=N) (m:=fun v=>ev c fun u=>match v,u with
      |.t (.v (.int .i64 n)),.t (.v (.int .i64 m))=>if 0≤n∧n≤1073741824∧m=n then fresh d ⟨false,[.sl .own (List.replicate n.toNat z)]⟩ (.wrS d (.ref (d,0) [0] 0 n.toNat) (.ok ())) else .no
      |_,_=>.no) h R
     refine .of g1 ?_
     obtain ⟨u,lu,vs2,h,hu,g2,s2⟩:=evT_ref (N:=N) (m:=fun u=>match lv,u with
      |.t (.v (.int .i64 n)),.t (.v (.int .i64 m))=>if 0≤n∧n≤1073741824∧m=n then fresh d ⟨false,[.sl .own (List.replicate n.toNat z)]⟩ (.wrS d (.ref (d,0) [0] 0 n.toNat) (.ok ())) else .no
      |_,_=>.no) h g1.rel
     refine .of g2 ?_
     cases v with
     |c w=>
      obtain ⟨t1,f1,n⟩:=w
      cases t1 with
      |int k1=>
       cases k1 with
       |i64=>
        obtain ⟨f,m,rfl,rfl,h⟩:=intCase (K:=fun m=>iteC (ieq .i64 m n) (fun st=>mkRow (cts r) (fgs r) zs fun e=>lrep (cts r) n e fun x=>freshT d ⟨false,[⟨.sl (cts r),.sl .own (fgs r),x⟩]⟩ (wrS N d (.ref (d,0) ⟨0,[]⟩ none) k) st) (no 37)) (nn:=38) hu (by
         cases u with
         |c w=>obtain ⟨t2,f2,j⟩:=w;cases t2 with
          |int k2=>cases k2<;>exact h
          |_=>exact h
         |_=>exact h)
        rw[intV hv]
        simp only
        rcases iteC_ref h with ⟨hm,h⟩ | ⟨_,h⟩
        ·have hm':m=(show Int from n):=by
          have:(m==(show Int from n))=true:=hm
          exact eq_of_beq this
         subst hm'
         exact makeSlice_end g2.rel hz h3 h
        ·cases h
       |_=>cases h
      |_=>cases h
     |_=>cases h
theorem app_some {α:Type} {l m:List α} {k:List α→Option ρ} (h:app_ l m k=some y):l.length+m.length≤1073741824∧k (l++m)=some y:=by
 unfold app_ at h
 split at h
 ·exact ⟨by assumption,h⟩
 ·cases h
theorem lenC_enc (r:List ST) (f:Fg) (l:V (.sl r)):∃ g es,(Cl.mk (.sl r) f l).enc=.sl g es∧((es.length:Nat):Int)=lenC r f l:=by
 cases f with
 |sl f fs=>exact ⟨_,_,rfl,by simp [lenC,llen];rfl⟩
 |z=>exact ⟨_,_,rfl,rfl⟩
 |nil=>exact ⟨_,_,rfl,rfl⟩
 |pt f fs=>exact ⟨_,_,rfl,rfl⟩
 |fn fs=>exact ⟨_,_,rfl,rfl⟩
theorem tv_len {d:Option Nat} {c:Call} {x:Operand} {k:Co ρ} (R:Rel vs st):(match (c.argTypes[0]?).bind P.underlying with
   |some .string=>evT x fun v=>match v with
    |.c ⟨.str,_,l⟩=>outT N d (.c ⟨.int .i64,.z,slen l⟩) k
    |_=>no 77
   |some (.slice _)=>evT x fun v=>match v with
    |.c ⟨.sl r,f,l⟩=>outT N d (.c ⟨.int .i64,.z,lenC r f l⟩) k
    |.ref n p none=>rowC n p fun row=>match row with
     |⟨.sl r,f,l⟩ :: _=>match ownF f with
      |true=>outT N d (.c ⟨.int .i64,.z,lenC r f l⟩) k
      |false=>no 78
     |_=>no 78
    |.ref _ _ (some (x,y))=>outT N d (.c ⟨.int .i64,.z,wlen x y⟩) k
    |_=>no 79
   |_=>no 80) vs=some y→Law N vs st k y (match (c.argTypes[0]?).bind P.underlying with
   |some .string=>ev x fun v=>match v with
    |.t (.v (.string s))=>out d (.t (.v (.int .i64 s.size)))
    |_=>.no
   |some (.slice _)=>ev x fun v=>match v with
    |.t (.sl _ es)=>out d (.t (.v (.int .i64 es.length)))
    |.ref _ _ lo hi=>out d (.t (.v (.int .i64 ((hi-lo:Nat):Int))))
    |_=>.no
   |_=>.no):=by
 intro h
 cases hu:(c.argTypes[0]?).bind P.underlying with
 |none=>rw[hu] at h;cases h
 |some ds=>
  rw[hu] at h
  cases ds with
  |string=>
   simp only at h ⊢
   obtain ⟨v,lv,vs1,h,hv,g1,_⟩:=evT_ref (N:=N) (m:=fun v=>match v with
    |.t (.v (.string s))=>out d (.t (.v (.int .i64 s.size)))
    |_=>.no) h R
   refine .of g1 ?_
   cases v with
   |c w=>
    obtain ⟨t1,f1,l⟩:=w
    cases t1 with
    |str=>rw[strV hv];exact out_law g1.rel (c:=⟨.int .i64,.z,slen l⟩) rfl h
    |_=>cases h
   |_=>cases h
  |slice e=>
   simp only at h ⊢
   obtain ⟨v,lv,vs1,h,hv,g1,_⟩:=evT_ref (N:=N) (m:=fun v=>match v with
    |.t (.sl _ es)=>out d (.t (.v (.int .i64 es.length)))
    |.ref _ _ lo hi=>out d (.t (.v (.int .i64 ((hi-lo:Nat):Int))))
    |_=>.no) h R
   refine .of g1 ?_
   cases v with
   |c w=>
    obtain ⟨t1,f1,l⟩:=w
    cases t1 with
    |sl r=>
     simp only[RelV] at hv
     subst hv
     obtain ⟨g,es,he,hl⟩:=lenC_enc r f1 l
     rw[he]
     exact out_law g1.rel (c:=⟨.int .i64,.z,lenC r f1 l⟩) (by rw[← hl];rfl) h
    |_=>cases h
   |ref n p sub=>
    cases sub with
    |some s=>
     obtain ⟨lo,hi⟩:=s
     simp only[RelV] at hv
     obtain ⟨rfl,_⟩:=hv
     exact out_law g1.rel (c:=⟨.int .i64,.z,wlen lo hi⟩) rfl h
    |none=>
     simp only[RelV] at hv
     obtain ⟨hi,rfl,es,r0,hes,hhi⟩:=hv
     simp only at h ⊢
     obtain ⟨row,vs2,h,hrow,g2,_⟩:=rowC_ref (N:=N) (m:=fun _=>(M.no:M Unit)) h g1.rel
     obtain ⟨R2,_,_,dd,hdd,_⟩:=g2
     refine .of (Go1.skip R2 hdd) ?_
     cases row with
     |nil=>cases h
     |cons w rest=>
      obtain ⟨t1,f1,l⟩:=w
      cases t1 with
      |sl r=>
       simp only at h
       cases hf:ownF f1 with
       |false=>rw[hf] at h;cases h
       |true=>
        rw[hf] at h
        obtain ⟨g,es',he,hl⟩:=lenC_enc r f1 l
        have e1:encs (⟨.sl r,f1,l⟩ :: rest)=.sl g es' :: encs rest:=by rw[← he];rfl
        rw[hrow,e1] at hes
        cases hes
        simp only at h
        rw[show ((hi-0:Nat):Int)=lenC r f1 l by rw[Nat.sub_zero,hhi,hl]]
        exact out_law R2 (c:=⟨.int .i64,.z,lenC r f1 l⟩) rfl h
      |_=>cases h
   |_=>cases h
  |_=>cases h
theorem tv_max {d:Option Nat} {x z:Operand} {k:Co ρ} (R:Rel vs st):(evT x fun v=>evT z fun u=>match v,u with
   |.c ⟨.int .i64,_,a⟩,.c ⟨.int .i64,_,e⟩=>outT N d (.c ⟨.int .i64,.z,imax a e⟩) k
   |_,_=>no 81) vs=some y→Law N vs st k y (ev x fun v=>ev z fun u=>match v,u with
   |.t (.v (.int .i64 a)),.t (.v (.int .i64 b))=>out d (.t (.v (.int .i64 (if b > a then b else a))))
   |_,_=>.no):=by
 intro h
 obtain ⟨v,lv,vs1,h,hv,g1,_⟩:=evT_ref (N:=N) (m:=fun v=>ev z fun u=>match v,u with
   |.t (.v (.int .i64 a)),.t (.v (.int .i64 b))=>out d (.t (.v (.int .i64 (if b > a then b else a))))
   |_,_=>.no) h R
 refine .of g1 ?_
 obtain ⟨u,lu,vs2,h,hu,g2,_⟩:=evT_ref (N:=N) (m:=fun u=>match lv,u with
   |.t (.v (.int .i64 a)),.t (.v (.int .i64 b))=>out d (.t (.v (.int .i64 (if b > a then b else a))))
   |_,_=>.no) h g1.rel
 refine .of g2 ?_
 cases v with
 |c w=>
  obtain ⟨t1,f1,n⟩:=w
  cases t1 with
  |int k1=>
   cases k1 with
   |i64=>
    obtain ⟨f,m,rfl,rfl,h⟩:=intCase (K:=fun m=>outT N d (.c ⟨.int .i64,.z,imax n m⟩) k) (nn:=81) hu (by
     cases u with
     |c w=>obtain ⟨t2,f2,j⟩:=w;cases t2 with
      |int k2=>cases k2<;>exact h
      |_=>exact h
     |_=>exact h)
    rw[intV hv]
    exact out_law g2.rel (c:=⟨.int .i64,.z,imax n m⟩) rfl h
   |_=>cases h
  |_=>cases h
 |_=>cases h
theorem ownBytes_some {r:List ST} {f f':Fg} {l:V (.sl r)} {xs:V (.sl [.int .u8])} (h:ownBytes r f l=some (f',xs)):(Cl.mk (.sl r) f l).enc=.sl .own ((show List Int from xs).map fun e=>[T.v (.int .u8 e)]):=by
 unfold ownBytes at h
 split at h
 ·cases h;rfl
 ·cases h;rfl
 ·cases h
theorem ofBytes_N (l:List UInt8):ofBytes ⟨l.toArray⟩=(bytesN l).map fun e=>[T.v (.int .u8 e)]:=by unfold ofBytes bytesN;simp
theorem tv_appendS {t1:TypeId} {d:Nat} {x z:Operand} {k:Co ρ} {r:List (ST×Fg)} {zz:List T} (R:Rel vs st):zz.length=r.length→appendS N P t1 r d x z k vs=some y→Law N vs st k y (match P.underlying t1 with
     |some .string=>ev x fun v=>ev z fun u=>close v fun a=>match a,u,zz with
      |.sl .own es,.t (.v (.string s)),[_]=>if (es++ofBytes s).length≤1073741824∧(∀ e'∈es,e'.length=zz.length) then
        fresh d ⟨false,[.sl .own (es++ofBytes s)]⟩ (.wrS d (.ref (d,0) [0] 0 (es++ofBytes s).length) (.ok ())) else .no
      |_,_,_=>.no
     |_=>.no):=by
 intro hz h
 unfold appendS at h
 cases hu:P.underlying t1 with
 |none=>rw[hu] at h;cases h
 |some dt=>
  rw[hu] at h
  cases dt with
  |string=>
   match r,h,hz with
   |[],h,_=>cases h
   |_ :: _ :: _,h,_=>cases h
   |[r0],h,hz=>
   obtain ⟨z0,rfl⟩:∃ z0,zz=[z0]:=List.length_eq_one_iff.1 hz
   simp only at h ⊢
   let fin:T→LV→M Unit:=fun a u=>match a,u,[z0] with
      |.sl .own es,.t (.v (.string s)),[_]=>if (es++ofBytes s).length≤1073741824∧(∀ e'∈es,e'.length=[z0].length) then
        fresh d ⟨false,[.sl .own (es++ofBytes s)]⟩ (.wrS d (.ref (d,0) [0] 0 (es++ofBytes s).length) (.ok ())) else .no
      |_,_,_=>.no
   show Law N vs st k y (ev x fun v=>ev z fun u=>close v fun a=>fin a u)
   obtain ⟨v,lv,vs1,h,hv,g1,_⟩:=evT_ref (N:=N) (m:=fun v=>ev z fun u=>close v fun a=>fin a u) h R
   refine .of g1 ?_
   obtain ⟨u,lu,vs2,h,hu,g2,_⟩:=evT_ref (N:=N) (m:=fun u=>close lv fun a=>fin a u) h g1.rel
   refine .of g2 ?_
   obtain ⟨ca,vs3,st3,h,g3,k3⟩:=closeT_ref (N:=N) (m:=fun a=>fin a lu) h g2.rel hv.w
   refine .of g3 ?_
   cases u with
   |c cu=>
    obtain ⟨tu,fu,su⟩:=cu
    cases tu with
    |str=>
     simp only[RelV] at hu
     subst hu
     have hb:ofBytes ⟨List.toArray (α:=UInt8) su⟩=(bytesN su).map fun e=>[T.v (.int .u8 e)]:=ofBytes_N su
     have fine:∀ (es:List (List T)) (xs l:List Int) (f:Fg),ca.enc=.sl .own es→(∀ e∈es,e.length=1)→es=xs.map (fun e=>[T.v (.int .u8 e)])→app_ xs (bytesN su) (fun l=>freshT d ⟨false,[⟨.sl [.int .u8],.sl .own [f],l⟩]⟩ (wrS N d (.ref (d,0) ⟨0,[]⟩ none) k) vs3)=some y→Law N vs3 st3 k y (fin ca.enc (.t (.v (.string ⟨List.toArray (α:=UInt8) su⟩)))):=by
      intro es xs l f he h1 hx h
      obtain ⟨hl,h⟩:=app_some h
      rw[he]
      show Law N vs3 st3 k y (if (es++ofBytes ⟨List.toArray (α:=UInt8) su⟩).length≤1073741824∧(∀ e'∈es,e'.length=[z0].length) then
        fresh d ⟨false,[.sl .own (es++ofBytes ⟨List.toArray (α:=UInt8) su⟩)]⟩ (.wrS d (.ref (d,0) [0] 0 (es++ofBytes ⟨List.toArray (α:=UInt8) su⟩).length) (.ok ())) else .no)
      rw[if_pos ⟨by rw[hb,List.length_append,List.length_map,hx,List.length_map];exact hl,h1⟩]
      refine fresh_ref h g3.rel ?_ rfl
      show T.sl .own ((xs++bytesN su).map fun e=>[T.v (.int .u8 e)])=_
      rw[hb,hx,List.map_append]
     obtain ⟨ta,fa,la⟩:=ca
     cases ta with
     |sl ra=>
      simp only at h
      cases ho:ownBytes ra fa la with
      |none=>rw[ho] at h;cases h
      |some fx=>
       obtain ⟨f,xs⟩:=fx
       rw[ho] at h
       exact fine _ (show List Int from xs) [] f (ownBytes_some ho) (by
        intro e he
        obtain ⟨e0,_,rfl⟩:=List.mem_map.1 he
        rfl) rfl h
     |_=>cases h
    |_=>cases h
   |_=>cases h
  |_=>cases h
theorem flat_enc:∀ (row:List ST) (fs:List Fg) (e:R row),row.all flatST=true→flatE (encR row fs e)=true
 |[],_,_,_=>by simp [encR,flatE]
 |t :: row,[],_,_=>by simp [encR,flatE]
 |t :: row,f :: fs,e,h=>by
  simp only[List.all_cons,Bool.and_eq_true] at h
  have ih:=flat_enc row fs (tailR t row e) h.2
  simp only[encR]
  unfold flatE at ih ⊢
  rw[List.all_cons,ih,Bool.and_true]
  cases t<;>first | rfl | exact absurd h.1 (by simp [flatST])
theorem peekT_ref {n:Nm} {p:Pth} {sub:Option (X×X)} {lv:LV} {k:Cl→Co ρ} (h:peekT n p sub k vs=some y) (R:Rel vs st) (hv:RelV (Qs st.b) (.ref n p sub) lv) :
  ∃ lo hi es r c vs',lv=.ref n (pthL p) lo hi∧rowAt (st.b n).cells (pthL p)=some (.sl .own es :: r)∧(lo≤hi∧hi≤es.length∧es.all flatE=true)∧k c vs'=some y∧c.enc=.sl .own ((es.take hi).drop lo)∧∀ m:Box→M Unit,Go1 N vs st (.rdB n m) vs' st (m (st.b n)):=by
 unfold peekT rowC at h
 simp only[rdB] at h
 cases hbx:lookB vs.b n with
 |none=>rw[hbx] at h;cases h
 |some bx=>
 rw[hbx] at h
 simp only at h
 obtain ⟨rw0,h,hrow0⟩:=getAt_ref _ _ _ h
 have hrow:rowAt (st.b n).cells (pthL p)=some (encs rw0):=by rw[(R.b n bx hbx).2];exact hrow0
 clear hrow0
 have g:∀ m:Box→M Unit,Go1 N vs st (.rdB n m) ⟨vs.s,vs.b,.rB n :: vs.lg⟩ st (m (st.b n)):=fun m=>go_rdB R
 cases rw0 with
 |nil=>cases h
 |cons c0 rest=>
  obtain ⟨t0,f,l⟩:=c0
  cases t0<;>first | (cases h;done) | skip
  rename_i row
  simp only at h
  cases hf:(ownF f&&row.all flatST) with
  |false=>rw[hf] at h;cases h
  |true=>
   rw[hf] at h
   rw[Bool.and_eq_true] at hf
   obtain ⟨hf1,hf2⟩:=hf
   cases sub with
   |none=>
    simp only at h
    simp only[RelV] at hv
    obtain ⟨hi,rfl,es,r,h1,h2⟩:=hv
    rw[hrow] at h1
    have hc:((Cl.mk (.sl row) f l).enc)=.sl .own es:=by
     have:encs (⟨.sl row,f,l⟩ :: rest)=(Cl.mk (.sl row) f l).enc :: encs rest:=rfl
     rw[this] at h1
     simp only[Option.some.injEq,List.cons.injEq] at h1
     exact h1.1
    have hfl:es.all flatE=true:=by
     cases f with
     |sl g fs=>
      have:(T.sl g ((lis row l).map fun e=>encR row fs e))=.sl .own es:=hc
      simp only[T.sl.injEq] at this
      rw[← this.2,List.all_map,List.all_eq_true]
      intro e _
      exact flat_enc row fs e hf2
     |nil=>
      have:T.sl .own []=.sl .own es:=hc
      simp only[T.sl.injEq,true_and] at this
      rw[← this];rfl
     |z=>cases hf1
     |pt _ _=>cases hf1
     |fn _=>cases hf1
    refine ⟨0,hi,es,r,_,_,rfl,by rw[hrow];exact h1,⟨Nat.zero_le _,by omega,hfl⟩,h,?_,g⟩
    rw[hc,h2,List.take_length,List.drop_zero]
   |some xy=>
    obtain ⟨x,z⟩:=xy
    simp only[RelV] at hv
    obtain ⟨rfl,hxy,L,hL,es,r,h1,h2⟩:=hv
    rw[hrow] at h1
    cases f<;>first | (cases h;done) | skip
    rename_i g fs
    cases g<;>first | (cases h;done) | skip
    simp only at h
    have h1':=h1
    have this:encs (⟨.sl row,.sl .own fs,l⟩ :: rest)=.sl .own ((lis row l).map fun e=>encR row fs e) :: encs rest:=rfl
    rw[this] at h1
    simp only[Option.some.injEq,List.cons.injEq,T.sl.injEq,true_and] at h1
    obtain ⟨h3,h4⟩:=h1
    refine ⟨x,z,es,r,_,_,rfl,by rw[hrow];exact h1',⟨hxy,Nat.le_trans hL (Nat.le_of_eq h2),?_⟩,h,?_,g⟩
    ·rw[← h3,List.all_map,List.all_eq_true]
     intro e _
     exact flat_enc row fs e hf2
    ·rw[← h3,← List.map_take,← List.map_drop]
     rfl
theorem headW_ref {n:Nm} {c lo hi:Nat} {k:Option (V .bool)→Cl→Co ρ} {m:Bool→T→M Unit} {zz:List T} {rl:Nat} (hz:zz.length=rl) (h:headW rl n c lo hi k vs=some y) (R:Rel vs st) :
  ∃ nb ne cl vs' st',k nb cl vs'=some y∧(ne=true→∃ b,nb=some b∧(show Bool from b)=true)∧lo=0∧Go1 N vs st (if hi=0∧fullA (st.b n).cells (pthL ⟨c,[]⟩)=true then close (.ref n (pthL ⟨c,[]⟩) 0 1) fun a=>match a with
    |.sl .own [e]=>if e.length=zz.length then m true (.sl .own []) else .no
    |_=>.no
  else close (.ref n (pthL ⟨c,[]⟩) 0 hi) fun a=>m false a) vs' st' (m ne cl.enc)∧KeepW st.b st'.b:=by
 unfold headW at h
 simp only[rdB] at h
 cases hbx:lookB vs.b n with
 |none=>rw[hbx] at h;cases h
 |some bx=>
  rw[hbx] at h
  simp only at h
  obtain ⟨hre,hce⟩:=R.b n bx hbx
  cases hdr:bx.cells.drop c with
  |nil=>rw[hdr] at h;cases h
  |cons c1 rest=>
   obtain ⟨t1,f,l⟩:=c1
   rw[hdr] at h
   cases t1<;>first | (cases h;done) | skip
   rename_i row
   cases f<;>first | (cases h;done) | skip
   rename_i f fs
   cases f<;>first | (cases h;done) | skip
   simp only at h
   cases hwd:(Nat.beq row.length rl&&Nat.beq fs.length rl) with
   |false=>rw[hwd] at h;cases h
   |true=>
    rw[hwd] at h
    simp only at h
    obtain ⟨hx0,h3⟩:=ite_some h
    clear h
    have hx0:lo=0:=by
     have:((show Nat from lo)==0)=true:=hx0
     simpa using this
    rw[Bool.and_eq_true] at hwd
    have hw1:=Nat.eq_of_beq_eq_true hwd.1
    have hw2:=Nat.eq_of_beq_eq_true hwd.2
    have hrow:rowAt (st.b n).cells (pthL ⟨c,[]⟩)=some (.sl .own ((lis row l).map fun e=>encR row fs e) :: encs rest):=by
     rw[hce]
     show rowAt (encs bx.cells) [c]=_
     simp only[rowAt]
     rw[encs_drop,hdr]
     rfl
    by_cases hcase:hi=0∧lis row l≠[]
    ·obtain ⟨hh0,hne⟩:=hcase
     have hfull:fullA (st.b n).cells (pthL ⟨c,[]⟩)=true:=by
      unfold fullA
      rw[hrow]
      cases hl:lis row l with
      |nil=>exact absurd hl hne
      |cons e es=>rfl
     have g1:=go_rdB (N:=N) (n:=n) (γ:=Unit) (k:=fun bx=>match rowAt bx.cells (pthL ⟨c,[]⟩) with
      |some (.sl .own es :: _)=>if 1=es.length∨0<1 then match setAt bx.cells (pthL ⟨c,[]⟩) .hole with
       |some cs=>.wrB n ⟨bx.real,cs⟩ (.kill n (pthL ⟨c,[]⟩) ((fun (a:T)=>match a with
         |.sl .own [e]=>if e.length=zz.length then m true (.sl .own []) else .no
         |_=>.no) (.sl .own (es.take 1))))
       |none=>.no
       else .no
      |_=>.no) R
     obtain ⟨vs2,st2,h,g2,k2⟩:=close_win (N:=N) (hi:=1) (k:=fun _=>k (some (wne row l hi)) ⟨.sl row,.sl .own fs,wtake row l hi⟩) (m:=fun a=>match a with
             |.sl .own [e]=>if e.length=zz.length then m true (.sl .own []) else .no
             |_=>.no) h3 g1.rel hre hce hdr (.inr Nat.one_pos)
     refine ⟨some (wne row l hi),true,⟨.sl row,.sl .own fs,wtake row l hi⟩,vs2,st2,h,fun _=>⟨_,rfl,?_⟩,hx0,?_,k2⟩
     ·show ((show Nat from hi)==0&&!(List.isEmpty (α:=TM.R row) l))=true
      subst hh0
      cases hl:lis row l with
      |nil=>exact absurd hl hne
      |cons e es=>
       have:List.isEmpty (α:=TM.R row) l=false:=by
        have:(lis row l).isEmpty=false:=by rw[hl];rfl
        exact this
       rw[this];rfl
     ·rw[if_pos ⟨hh0,hfull⟩]
      have e1:(Cl.mk (.sl row) (.sl .own fs) (wtake row l hi)).enc=.sl .own []:=by
       subst hh0
       rfl
      rw[e1]
      have e2:(Cl.mk (.sl row) (.sl .own fs) (wtake row l 1)).enc=.sl .own (((lis row l).take 1).map fun e=>encR row fs e):=rfl
      rw[e2] at g2
      cases hl:lis row l with
      |nil=>exact absurd hl hne
      |cons e es=>
       rw[hl] at g2
       simp only[List.take_succ_cons,List.take_zero,List.map_cons,List.map_nil] at g2
       rw[if_pos (by rw[encR_length e (by omega),hz,hw1])] at g2
       exact g1.trans g2
    ·have hnf:¬ (hi=0∧fullA (st.b n).cells (pthL ⟨c,[]⟩)=true):=by
      intro hb
      apply hcase
      refine ⟨hb.1,fun hl=>?_⟩
      have:=hb.2
      unfold fullA at this
      rw[hrow,hl] at this
      cases this
     have hq0:hi=(lis row l).length∨0<hi:=by
      rcases Nat.eq_zero_or_pos hi with h0 | h0
      ·left
       have:lis row l=[]:=Classical.byContradiction fun hn=>hcase ⟨h0,hn⟩
       rw[this,h0];rfl
      ·exact .inr h0
     have g1:=go_rdB (N:=N) (n:=n) (γ:=Unit) (k:=fun bx=>match rowAt bx.cells (pthL ⟨c,[]⟩) with
      |some (.sl .own es :: _)=>if hi=es.length∨0<hi then match setAt bx.cells (pthL ⟨c,[]⟩) .hole with
       |some cs=>.wrB n ⟨bx.real,cs⟩ (.kill n (pthL ⟨c,[]⟩) ((fun a=>m false a) (.sl .own (es.take hi))))
       |none=>.no
       else .no
      |_=>.no) R
     obtain ⟨vs2,st2,h,g2,k2⟩:=close_win (N:=N) (k:=k (some (wne row l hi))) (m:=fun a=>m false a) h3 g1.rel hre hce hdr hq0
     refine ⟨_,false,_,vs2,st2,h,(fun h=>by cases h),hx0,?_,k2⟩
     rw[if_neg hnf]
     exact g1.trans g2
theorem headT_ref {v:TV} {lv:LV} {k:Option (V .bool)→Cl→Co ρ} {m:Bool→T→M Unit} {zz:List T} {rl:Nat} (hz:zz.length=rl) (h:headT rl v k vs=some y) (R:Rel vs st) (hv:RelV (Qw st.b) v lv) :
  ∃ nb ne cl vs' st',k nb cl vs'=some y∧(ne=true→∃ b,nb=some b∧(show Bool from b)=true)∧Go1 N vs st (headM zz lv m) vs' st' (m ne cl.enc)∧KeepW st.b st'.b:=by
 have gen:(∀ n p lo hi,lv≠.ref n p lo hi)→closeT v (k none) vs=some y→∃ nb ne cl vs' st',k nb cl vs'=some y∧(ne=true→∃ b,nb=some b∧(show Bool from b)=true)∧Go1 N vs st (headM zz lv m) vs' st' (m ne cl.enc)∧KeepW st.b st'.b:=by
  intro hn h
  obtain ⟨c,vs',st',h,g,kk⟩:=closeT_ref (N:=N) (m:=fun a=>m false a) h R hv
  refine ⟨none,false,c,vs',st',h,(fun h=>by cases h),?_,kk⟩
  have:headM zz lv m=close lv (fun a=>m false a):=by
   cases lv<;>first | rfl | exact absurd rfl (hn _ _ _ _)
  rw[this]
  exact g
 cases v with
 |ref n p sub=>
  simp only[headT] at h
  have kl:∀ lo hi,lv=.ref n (pthL p) lo hi→∃ g,Go1 N vs st (headM zz lv m) g st (if lo=0∧hi=0∧fullA (st.b n).cells (pthL p)=true then close (.ref n (pthL p) 0 1) fun a=>match a with
   |.sl .own [e]=>if e.length=zz.length then m true (.sl .own []) else .no
   |_=>.no
  else close (.ref n (pthL p) lo hi) fun a=>m false a)∧g=⟨vs.s,vs.b,.rB n :: vs.lg⟩:=by
   intro lo hi e
   subst e
   exact ⟨_,go_rdB R,rfl⟩
  simp only[rdB] at h
  cases hbx:lookB vs.b n with
  |none=>rw[hbx] at h;cases h
  |some bx=>
  rw[hbx] at h
  simp only at h
  have rest:∀ hi,lv=.ref n (pthL p) 0 hi→Qw st.b n p hi→closeT (.ref n p none) (k none) ⟨vs.s,vs.b,.rB n :: vs.lg⟩=some y→∃ nb ne cl vs' st',k nb cl vs'=some y∧(ne=true→∃ b,nb=some b∧(show Bool from b)=true)∧Go1 N vs st (headM zz lv m) vs' st' (m ne cl.enc)∧KeepW st.b st'.b:=by
   intro hi e hq h
   obtain ⟨g,g1,rfl⟩:=kl 0 hi e
   rw[if_neg (by
    intro hc
    obtain ⟨_,h0,hf⟩:=hc
    unfold fullA at hf
    split at hf
    ·rename_i e0 es0 r0 hr
     have:=hq _ _ hr
     rw[h0] at this
     simp at this
    ·cases hf)] at g1
   obtain ⟨c,vs',st',h,g2,kk⟩:=closeT_ref (N:=N) (m:=fun a=>m false a) h g1.rel (lv:=.ref n (pthL p) 0 hi) (by simp only[RelV];exact ⟨hi,rfl,hq⟩)
   exact ⟨none,false,c,vs',st',h,(fun h=>by cases h),g1.trans g2,kk⟩
  obtain ⟨c,r⟩:=p
  cases sub with
  |none=>
   simp only[RelV] at hv
   obtain ⟨hi,e,hq⟩:=hv
   cases r<;>exact rest hi e hq h
  |some xy=>
   obtain ⟨lo,hi⟩:=xy
   cases r with
   |cons a b=>cases b<;>cases h
   |nil=>
    simp only[RelV] at hv
    obtain ⟨e,_⟩:=hv
    obtain ⟨g,g1,rfl⟩:=kl lo hi e
    obtain ⟨nb,ne,cl,vs',st',h,hn,hl,g2,kk⟩:=headW_ref (N:=N) (m:=m) (hi:=hi) hz h g1.rel
    refine ⟨nb,ne,cl,vs',st',h,hn,?_,kk⟩
    refine g1.trans ?_
    subst hl
    simp only[true_and]
    exact g2
 |dead=>cases h
 |c x=>exact gen (fun n p lo hi e=>by simp only[RelV] at hv;rw[hv] at e;cases e) h
 |addr n p=>cases h
 |raddr cs=>cases h
 |agg xs=>cases h
 |tup xs=>cases h
 |va xs=>cases h
 |fn g xs=>exact gen (fun n p lo hi e=>by simp only[RelV] at hv;obtain ⟨_,hv,_⟩:=hv;rw[hv] at e;cases e) h
theorem endApp_ref {rl d:Nat} {zz:List T} {k:Co ρ} {nb:Option (V .bool)} {ne:Bool} {ca cb:Cl} {b:T} (hz:zz.length=rl) (hne:ne=true→∃ b,nb=some b∧(show Bool from b)=true) (hcb:∀ g es',cb.enc=.sl g es'→∃ g',b=.sl g' es')
  (R:Rel vs st) (h:endApp N rl d k nb ca cb vs=some y):Law N vs st k y (finApp zz d ne ca.enc b):=by
 obtain ⟨ta,fa,xs⟩:=ca
 obtain ⟨tb,fb,ys⟩:=cb
 have fine:∀ (es es':List (List T)) (g:Fl) (c:Cl),es.length+es'.length≤1073741824→(ne=true→es'≠[])→(∀ e∈es,e.length=zz.length)→(∀ e∈es',e.length=zz.length)→c.enc=.sl .own (es++es') →
   freshT d ⟨false,[c]⟩ (wrS N d (.ref (d,0) ⟨0,[]⟩ none) k) vs=some y→(Cl.mk tb fb ys).enc=.sl g es'→Law N vs st k y (finApp zz d ne (.sl .own es) b):=by
  intro es es' g c hl hn h5 h6 hc h hb
  obtain ⟨g',rfl⟩:=hcb _ _ hb
  show Law N vs st k y (if (ne=true→es'≠[])∧(es++es').length≤1073741824∧(∀ e'∈es++es',e'.length=zz.length) then
      fresh d ⟨false,[.sl .own (es++es')]⟩ (.wrS d (.ref (d,0) [0] 0 (es++es').length) (.ok ())) else .no)
  rw[if_pos ⟨hn,by rw[List.length_append];exact hl,fun e he=>by
   rcases List.mem_append.1 he with he | he
   ·exact h5 e he
   ·exact h6 e he⟩]
  exact fresh_ref h R hc rfl
 have wid:∀ (ra:List ST) (fs:List Fg) (l:List (TM.R ra)),(Nat.beq ra.length rl&&Nat.beq fs.length rl)=true→∀ e∈l.map (fun e=>encR ra fs e),e.length=zz.length:=by
  intro ra fs l hc e he
  simp only[Bool.and_eq_true] at hc
  obtain ⟨e0,_,rfl⟩:=List.mem_map.1 he
  have q1:=Nat.eq_of_beq_eq_true hc.1
  have q2:=Nat.eq_of_beq_eq_true hc.2
  rw[encR_length e0 (by omega),hz,q1]
 unfold endApp at h
 cases ta with
 |sl ra=>
  cases tb with
  |sl rb=>
   cases nb with
   |none=>
    have nof:∀ es':List (List T),ne=true→es'≠[]:=fun _ hn=>by
     obtain ⟨_,h,_⟩:=hne hn
     cases h
    cases fa with
    |nil=>
     cases fb with
     |nil=>exact fine [] [] .own ⟨.sl ra,.nil,xs⟩ (by simp) (nof _) (by simp) (by simp) rfl h rfl
     |sl g fs=>
      simp only at h
      cases hc:(Nat.beq rb.length rl&&Nat.beq fs.length rl) with
      |false=>rw[hc] at h;cases h
      |true=>
       rw[hc] at h
       obtain ⟨hl,h⟩:=app_some h
       refine fine [] ((lis rb ys).map fun e=>encR rb fs e) g _ (by simp only[List.length_map];exact hl) (nof _) (by simp) (wid _ _ _ hc) ?_ h rfl
       rfl
     |_=>cases h
    |sl g fs=>
     cases g with
     |own=>
      cases fb with
      |nil=>
       simp only at h
       cases hc:(Nat.beq ra.length rl&&Nat.beq fs.length rl) with
       |false=>rw[hc] at h;cases h
       |true=>
        rw[hc] at h
        obtain ⟨hl,h⟩:=app_some h
        refine fine ((lis ra xs).map fun e=>encR ra fs e) [] .own _ (by simp only[List.length_map,List.length_nil];exact hl) (nof _) (wid _ _ _ hc) (by simp) ?_ h rfl
        show T.sl .own (((lis ra xs)++[]).map fun e=>encR ra fs e)=_
        rw[List.append_nil,List.append_nil]
      |sl g' fs'=>
       simp only at h
       cases hc:(Fg.beqs fs fs'&&(Nat.beq ra.length rl&&Nat.beq fs.length rl)) with
       |false=>rw[hc] at h;cases h
       |true=>
        rw[hc] at h
        rw[Bool.and_eq_true] at hc
        obtain ⟨hc1,hc2⟩:=hc
        have hfs:=Fg.beqs_eq _ _ hc1
        subst hfs
        obtain ⟨er,h⟩:=castL_some h
        subst er
        obtain ⟨hl,h⟩:=app_some h
        refine fine ((lis rb xs).map fun e=>encR rb fs e) ((lis rb ys).map fun e=>encR rb fs e) g' _ (by simp only[List.length_map];exact hl) (nof _) (wid _ _ _ hc2) (wid _ _ _ hc2) ?_ h rfl
        show T.sl .own ((lis rb _).map fun e=>encR rb fs e)=_
        rw[← List.map_append]
        rfl
      |_=>cases h
     |_=>cases h
    |_=>cases h
   |some w=>
    cases fa with
    |sl g fs=>
     cases g with
     |own=>
      cases fb with
      |sl g' fs'=>
       simp only at h
       cases hc:(Fg.beqs fs fs'&&(Nat.beq ra.length rl&&Nat.beq fs.length rl)) with
       |false=>rw[hc] at h;cases h
       |true=>
        rw[hc] at h
        rw[Bool.and_eq_true] at hc
        obtain ⟨hc1,hc2⟩:=hc
        have hfs:=Fg.beqs_eq _ _ hc1
        subst hfs
        obtain ⟨er,h⟩:=castL_some h
        subst er
        obtain ⟨hok,h⟩:=ite_some h
        obtain ⟨hl,h⟩:=app_some h
        refine fine ((lis rb xs).map fun e=>encR rb fs e) ((lis rb ys).map fun e=>encR rb fs e) g' _ (by simp only[List.length_map];exact hl) (fun hn=>?_) (wid _ _ _ hc2) (wid _ _ _ hc2) ?_ h rfl
        ·obtain ⟨b0,hb0,hb1⟩:=hne hn
         cases hb0
         have hok:(!(show Bool from w) || !(List.isEmpty (α:=TM.R rb) ys))=true:=hok
         rw[hb1] at hok
         intro hnil
         rw[List.map_eq_nil_iff] at hnil
         have:List.isEmpty (α:=TM.R rb) ys=true:=by
          show (lis rb ys).isEmpty=true
          rw[hnil];rfl
         rw[this] at hok
         cases hok
        ·show T.sl .own ((lis rb _).map fun e=>encR rb fs e)=_
         rw[← List.map_append]
         rfl
      |_=>cases h
     |_=>cases h
    |_=>cases h
  |_=>cases h
 |_=>cases h
theorem twoT_ref {rl d:Nat} {zz:List T} {k:Co ρ} {v u:TV} {lv lu:LV} (hz:zz.length=rl) (R:Rel vs st) (hv:RelV (Qs st.b) v lv) (hu:RelV (Qs st.b) u lu) (h:twoT N (flatE zz) rl d k v u vs=some y):Law N vs st k y (twoM zz d lv lu):=by
 have snd:(headT rl v (fun nb a=>closeT u fun b=>endApp N rl d k nb a b) vs=some y)→(twoM zz d lv lu=headM zz lv fun ne a=>close lu fun b=>finApp zz d ne a b)→Law N vs st k y (twoM zz d lv lu):=by
  intro h e
  rw[e]
  obtain ⟨nb,ne,ca,vs1,st1,h,hn,g1,k1⟩:=headT_ref (N:=N) (m:=fun ne a=>close lu fun b=>finApp zz d ne a b) hz h R hv.w
  refine .of g1 ?_
  obtain ⟨cb,vs2,st2,h,g2,k2⟩:=closeT_ref (N:=N) (m:=fun b=>finApp zz d ne ca.enc b) h g1.rel (k1.v hu.w)
  refine .of g2 ?_
  exact endApp_ref hz hn (fun g es' e=>⟨g,e⟩) g2.rel h
 cases hf:flatE zz with
 |false=>
  rw[hf] at h
  have h':headT rl v (fun nb a=>closeT u fun b=>endApp N rl d k nb a b) vs=some y:=by
   cases u<;>exact h
  refine snd h' ?_
  unfold twoM
  rw[hf]
 |true=>
  rw[hf] at h
  cases u with
  |ref m q sub=>
   have h:peekT m q sub (fun b=>headT rl v fun nb a=>endApp N rl d k nb a b) vs=some y:=h
   obtain ⟨lo,hi,es,r,c,vs1,rfl,hrow,hb,h,hc,g⟩:=peekT_ref (N:=N) h R hu
   have g1:=g (fun bx=>match rowAt bx.cells (pthL q) with
    |some (.sl .own es :: _)=>if lo≤hi∧hi≤es.length∧es.all flatE=true then headM zz lv fun ne a=>finApp zz d ne a (.sl .nw ((es.take hi).drop lo)) else .no
    |_=>.no)
   have e:twoM zz d lv (.ref m (pthL q) lo hi)=.rdB m (fun bx=>match rowAt bx.cells (pthL q) with
    |some (.sl .own es :: _)=>if lo≤hi∧hi≤es.length∧es.all flatE=true then headM zz lv fun ne a=>finApp zz d ne a (.sl .nw ((es.take hi).drop lo)) else .no
    |_=>.no):=by
    unfold twoM
    rw[hf]
    rfl
   rw[e]
   refine .of g1 ?_
   rw[hrow]
   simp only
   rw[if_pos hb]
   obtain ⟨nb,ne,ca,vs2,st2,h,hn,g2,k2⟩:=headT_ref (N:=N) (m:=fun ne a=>finApp zz d ne a (.sl .nw ((es.take hi).drop lo))) hz h g1.rel hv.w
   refine .of g2 ?_
   refine endApp_ref hz hn (fun g es' e=>?_) g2.rel h
   rw[hc] at e
   cases e
   exact ⟨_,rfl⟩
  |dead=>
   obtain ⟨nb,ne,ca,vs1,st1,h,_⟩:=headT_ref (N:=N) (zz:=zz) (m:=fun ne a=>.no) hz h R hv.w
   cases h
  |c x=>
   refine snd h ?_
   simp only[RelV] at hu
   subst hu
   unfold twoM
   rw[hf]
  |fn g xs=>
   refine snd h ?_
   simp only[RelV] at hu
   obtain ⟨us,rfl,_⟩:=hu
   unfold twoM
   rw[hf]
  |addr n p=>
   obtain ⟨nb,ne,ca,vs1,st1,h,_⟩:=headT_ref (N:=N) (zz:=zz) (m:=fun ne a=>.no) hz h R hv.w
   cases h
  |raddr xs=>
   obtain ⟨nb,ne,ca,vs1,st1,h,_⟩:=headT_ref (N:=N) (zz:=zz) (m:=fun ne a=>.no) hz h R hv.w
   cases h
  |agg xs=>
   obtain ⟨nb,ne,ca,vs1,st1,h,_⟩:=headT_ref (N:=N) (zz:=zz) (m:=fun ne a=>.no) hz h R hv.w
   cases h
  |tup xs=>
   obtain ⟨nb,ne,ca,vs1,st1,h,_⟩:=headT_ref (N:=N) (zz:=zz) (m:=fun ne a=>.no) hz h R hv.w
   cases h
  |va xs=>
   obtain ⟨nb,ne,ca,vs1,st1,h,_⟩:=headT_ref (N:=N) (zz:=zz) (m:=fun ne a=>.no) hz h R hv.w
   cases h
theorem tv_append {c:Call} {dst:Option Nat} {x z:Operand} {k:Co ρ} (R:Rel vs st):appendT N P c dst x z k vs=some y→Law N vs st k y (appendM P c dst x z):=by
 intro h
 unfold appendT at h
 unfold appendM
 cases dst with
 |none=>cases h
 |some d=>
 cases hat:c.argTypes.toList with
 |nil=>rw[hat] at h;cases h
 |cons t0 ts=>
 cases ts with
 |nil=>rw[hat] at h;cases h
 |cons t1 ts=>
 cases ts with
 |cons t2 ts=>rw[hat] at h;cases h
 |nil=>
 rw[hat] at h
 simp only at h ⊢
 cases hu:P.underlying t0 with
 |none=>rw[hu] at h;cases h
 |some ds=>
 rw[hu] at h
 cases ds with
 |slice el=>
  simp only at h ⊢
  cases hr:rowT P t0 with
  |none=>rw[hr] at h;cases h
  |some r=>
  rw[hr] at h
  obtain ⟨zz,e,h1,h2,h3,h4⟩:=rowT_some hr
  rw[h1]
  cases ht:Nat.beq t1 t0 with
  |false=>
   rw[ht] at h
   simp only at h ⊢
   rw[if_neg (fun e=>by rw[e,Nat.beq_refl] at ht;cases ht)]
   exact tv_appendS R h4 h
  |true=>
  rw[ht] at h
  simp only at h ⊢
  rw[if_pos (Nat.eq_of_beq_eq_true ht)]
  obtain ⟨v,lv,vs1,h,hv,g1,_⟩:=evT_ref (N:=N) (m:=fun v=>ev z fun u=>twoM zz d v u) h R
  refine .of g1 ?_
  obtain ⟨u,lu,vs2,h,hu,g2,_⟩:=evT_ref (N:=N) (m:=fun u=>twoM zz d lv u) h g1.rel
  refine .of g2 ?_
  have hfl:flatP P t0=flatE zz:=by unfold flatP;rw[h1]
  rw[hfl] at h
  exact twoT_ref h4 g2.rel hv hu h
 |_=>cases h
theorem go_wrF {γ:Type} {m:M γ} (R:Rel vs st) {n:Nm} {c:Nat} {bx:VB} {row:List ST} {fs:List Fg} {l l':V (.sl row)} {rest:List Cl} (hce:(st.b n).cells=encs bx.cells) (hdr:bx.cells.drop c=⟨.sl row,.sl .own fs,l⟩ :: rest) (hfl:row.all flatST=true) (hlen:(lis row l').length=(lis row l).length) :
  Go1 N vs st (.wrB n ⟨bx.real,encs (bx.cells.set c ⟨.sl row,.sl .own fs,l'⟩)⟩ m) ⟨vs.s,(n,⟨bx.real,bx.cells.set c ⟨.sl row,.sl .own fs,l'⟩⟩) :: vs.b,.wB n :: vs.lg⟩ ⟨st.s,fun k=>if k=n then ⟨bx.real,encs (bx.cells.set c ⟨.sl row,.sl .own fs,l'⟩)⟩ else st.b k⟩ m:=by
 have hc:c<bx.cells.length:=(List.getElem?_eq_some_iff.1 (drop_head hdr)).1
 have hold:(encs bx.cells).drop c=.sl .own ((lis row l).map fun e=>encR row fs e) :: encs rest:=by rw[encs_drop,hdr];rfl
 refine ⟨⟨fun t=>?_,fun k z hz=>?_⟩,[.wB n ⟨bx.real,encs (bx.cells.set c ⟨.sl row,.sl .own fs,l'⟩)⟩],?_,.one (f:=.wB n) rfl⟩
 ·refine RelV.mono (fun k q hi h=>?_) _ _ (R.s t)
  obtain ⟨es,r,h1,h2⟩:=h
  by_cases hk:k=n
  ·subst hk
   rw[hce] at h1
   have hx:encs (bx.cells.set c ⟨.sl row,.sl .own fs,l'⟩)=(encs bx.cells).set c (.sl .own ((lis row l').map fun e=>encR row fs e)):=by rw[← encs_set];rfl
   have hcl:c<(encs bx.cells).length:=by simpa [encs] using hc
   have fin:∃ es' r',rowAt (encs (bx.cells.set c ⟨.sl row,.sl .own fs,l'⟩)) (pthL q)=some (.sl .own es' :: r')∧es.length=es'.length:=by
    rw[hx]
    obtain ⟨c0,qr⟩:=q
    cases qr with
    |nil=>
     have h1:some ((encs bx.cells).drop c0)=some (.sl .own es :: r):=h1
     have h1:=Option.some.inj h1
     show ∃ es' r',some (((encs bx.cells).set c _).drop c0)=_∧_
     by_cases hcc:c0=c
     ·subst hcc
      rw[hold] at h1
      simp only[List.cons.injEq,T.sl.injEq,true_and] at h1
      refine ⟨_,_,congrArg some (head_drop (by rw[List.getElem?_set_self hcl])),?_⟩
      rw[← h1.1,List.length_map,List.length_map,hlen]
     ·have h3:=drop_head h1
      exact ⟨es,_,congrArg some (head_drop (by rw[List.getElem?_set_ne (fun e=>hcc e.symm)];exact h3)),rfl⟩
    |cons a b=>
     obtain ⟨i,c1⟩:=a
     have h1:rowAt (encs bx.cells) (c0 :: i :: (c1 :: pthR b))=some (.sl .own es :: r):=h1
     obtain ⟨es0,r0,e,k1,k2,k3⟩:=rowAt_some h1
     by_cases hcc:c0=c
     ·subst hcc
      rw[hold] at k1
      simp only[List.cons.injEq,T.sl.injEq,true_and] at k1
      rw[← k1.1,List.getElem?_map] at k2
      cases hl:(lis row l)[i]? with
      |none=>rw[hl] at k2;cases k2
      |some e0=>
       rw[hl] at k2
       cases k2
       have hf:=flat_enc row fs e0 hfl
       have hnf:∀ (d:Nat) es1 r1,(encR row fs e0).drop d≠.sl .own es1 :: r1:=by
        intro d es1 r1 hd
        have:=List.all_eq_true.1 hf _ (List.mem_of_getElem? (drop_head hd))
        cases this
       cases b with
       |nil=>
        have k3:some ((encR row fs e0).drop c1)=_:=k3
        exact absurd (Option.some.inj k3) (hnf _ _ _)
       |cons a2 b2=>
        obtain ⟨es3,r3,e3,k4,_⟩:=rowAt_some k3
        exact absurd k4 (hnf _ _ _)
     ·refine ⟨es,r,?_,rfl⟩
      have h3:=drop_head k1
      exact rowAt_mk (by rw[List.getElem?_set_ne (fun e=>hcc e.symm)];exact h3) k2 k3
   obtain ⟨es',r',k1,k2⟩:=fin
   exact ⟨es',r',by simpa using k1,by rw[h2,k2]⟩
  ·exact ⟨es,r,by simpa [hk] using h1,h2⟩
 ·simp only[lookB] at hz
  by_cases hk:k=n
  ·subst hk
   rw[nm_eq.2 rfl] at hz
   cases hz
   simp
  ·have:nmEq n k=false:=by
    cases h:nmEq n k with
    |false=>rfl
    |true=>exact absurd (nm_eq.1 h).symm hk
   rw[this] at hz
   simpa [hk] using R.b k z hz
 ·simp only[M.runT]
  cases m.runT N _<;>rfl
theorem tv_clear {c:Call} {dst:Option Nat} {x:Operand} {k:Co ρ} (R:Rel vs st):clearT P c dst x k vs=some y→Law N vs st k y (match x with
  |.tmp t0=>clearM P c dst t0
  |_=>.no):=by
 intro h
 unfold clearT at h
 cases x with
 |const v=>cases h
 |func f=>cases h
 |global g=>cases h
 |tmp t0=>
 cases dst with
 |some d=>cases h
 |none=>
 simp only
 unfold clearM
 cases hat:c.argTypes.toList with
 |nil=>rw[hat] at h;cases h
 |cons t ts=>
 cases ts with
 |cons t2 ts=>rw[hat] at h;cases h
 |nil=>
 rw[hat] at h
 simp only at h ⊢
 cases hz:rowInfo P t with
 |none=>rw[hz] at h;cases h
 |some z=>
 rw[hz] at h
 simp only at h
 simp only[rdS] at h
 have hv:=R.s t0
 have g0:=fun (kk:LV→M Unit)=>go_rdS (N:=N) (t:=t0) (k:=kk) R
 cases hl:lookS vs.s t0 with
 |ref n p sub=>
  rw[hl] at h hv g0
  obtain ⟨c0,r⟩:=p
  cases r with
  |cons a b=>cases h
  |nil=>
  cases sub with
  |none=>cases h
  |some xy=>
  obtain ⟨lo,hi⟩:=xy
  simp only[RelV] at hv
  obtain ⟨hs0,hxy,L,hL,es,r,hrow,hLl⟩:=hv
  simp only at h
  unfold clearW at h
  simp only[rdB] at h
  cases hbx:lookB vs.b n with
  |none=>rw[hbx] at h;cases h
  |some bx=>
  rw[hbx] at h
  simp only at h
  obtain ⟨hre,hce⟩:=R.b n bx hbx
  split at h
  case h_2=>cases h
  rename_i t1 f1 l rest hdr
  cases hq:(flatST t1&&zeroOks [t1] z) with
  |false=>rw[hq] at h;cases h
  |true=>
  rw[hq] at h
  cases hzs:zeroCs [t1] with
  |none=>rw[hzs] at h;cases h
  |some zs=>
  rw[hzs] at h
  simp only at h
  rw[Bool.and_eq_true] at hq
  obtain ⟨e,h,he⟩:=mkRow_some h
  rw[zeroCs_enc hzs hq.2] at he
  obtain ⟨zv,hzv⟩:∃ zv,z=[.v zv]:=by
   have:=encR_length (r:=[t1]) (fs:=[f1]) e rfl
   rw[he] at this
   obtain ⟨z0,rfl⟩:=List.length_eq_one_iff.1 this
   have h9:=flat_enc [t1] [f1] e (by simp [hq.1])
   rw[he] at h9
   unfold flatE at h9
   cases z0 with
   |v zv=>exact ⟨zv,rfl⟩
   |_=>simp at h9
  subst hzv
  simp only
  have hcs:((st.b n).cells).drop c0=.sl .own ((lis [t1] l).map fun e=>encR [t1] [f1] e) :: encs rest:=by rw[hce,encs_drop,hdr];rfl
  have hrow':rowAt (st.b n).cells [c0]=some (.sl .own ((lis [t1] l).map fun e=>encR [t1] [f1] e) :: encs rest):=by rw[rowAt,hcs]
  have hes:es=(lis [t1] l).map fun e=>encR [t1] [f1] e:=by
   have hrow:rowAt (st.b n).cells [c0]=some (.sl .own es :: r):=hrow
   rw[hrow'] at hrow
   simp only[Option.some.injEq,List.cons.injEq,T.sl.injEq,true_and] at hrow
   exact hrow.1.symm
  have hc:c0<bx.cells.length:=(List.getElem?_eq_some_iff.1 (drop_head hdr)).1
  have hall:((lis [t1] l).map fun e=>encR [t1] [f1] e).all oneV=true:=by
   rw[List.all_map,List.all_eq_true]
   intro e0 _
   have h8:=encR_length (r:=[t1]) (fs:=[f1]) e0 rfl
   have h9:=flat_enc [t1] [f1] e0 (by simp [hq.1])
   obtain ⟨z0,hz0⟩:=List.length_eq_one_iff.1 h8
   show oneV (encR [t1] [f1] e0)=true
   rw[hz0] at h9 ⊢
   unfold flatE at h9
   cases z0 with
   |v zv=>rfl
   |_=>simp at h9
  have hhi:hi≤(lis [t1] l).length:=by
   have:L=((lis [t1] l).map fun e=>encR [t1] [f1] e).length:=by rw[hLl,hes]
   rw[List.length_map] at this
   exact Nat.le_trans hL (Nat.le_of_eq this)
  refine .of (g0 _) ?_
  rw[hs0]
  simp only
  refine .of (go_rdB (R.lg _)) ?_
  have hpl:pthL ⟨c0,[]⟩=[c0]:=rfl
  rw[hpl,hrow']
  simp only
  rw[if_pos ⟨hxy,by rw[List.length_map];exact hhi,hall⟩]
  have hnew:(Cl.mk (.sl [t1]) (.sl .own [f1]) (lclr [t1] l lo hi e)).enc=.sl .own (clearL ((lis [t1] l).map fun e=>encR [t1] [f1] e) lo hi zv):=by
   show T.sl .own ((List.take lo (lis [t1] l)++List.replicate (hi-lo) e++List.drop hi (lis [t1] l)).map fun e=>encR [t1] [f1] e)=_
   unfold clearL
   rw[List.map_append,List.map_append,List.map_take,List.map_drop,List.map_replicate,he]
  have hset:setAt (st.b n).cells [c0] (.sl .own (clearL ((lis [t1] l).map fun e=>encR [t1] [f1] e) lo hi zv))=some (encs (bx.cells.set c0 ⟨.sl [t1],.sl .own [f1],lclr [t1] l lo hi e⟩)):=by
   rw[setAt,if_pos (by rw[hce];simpa [encs] using hc),hce,← hnew,encs_set]
  rw[hset]
  simp only
  rw[hre]
  refine ⟨_,_,h,go_wrF (R.lg _ |>.lg _) hce hdr (by simp [hq.1]) ?_⟩
  show (List.take lo (lis [t1] l)++List.replicate (hi-lo) e++List.drop hi (lis [t1] l)).length=_
  have key:∀ (a b:Nat) (m:List (TM.R [t1])) (e:TM.R [t1]),a≤b→b≤m.length→(m.take a++List.replicate (b-a) e++m.drop b).length=m.length:=by
   intro a b m e h1 h2
   simp only[List.length_append,List.length_take,List.length_replicate,List.length_drop]
   omega
  exact key lo hi _ e hxy hhi
 |_=>rw[hl] at h;cases h
end
end TM
namespace TM
open Go
section
variable {ρ:Type} {N:Nat} {vs vs':VS} {st st':St} {y:ρ} {P:Program}
theorem hiT_ref {γ:Type} {hi:Option Operand} {n:Int} {k:TV→Co ρ} {m:LV→M γ} (h:hiT hi n k vs=some y) (R:Rel vs st) :
  ∃ v lv vs',k v vs'=some y∧RelV (Qs st.b) v lv∧Go1 N vs st (ev (hi.getD (.const (.int .i64 n))) m) vs' st (m lv)∧Same vs vs':=by
 cases hi with
 |some h0=>exact evT_ref h R
 |none=>exact ⟨_,_,_,h,(show RelV (Qs st.b) (.c ⟨.int .i64,.z,n⟩) (.t (.v (.int .i64 n))) from by simp only[RelV];rfl),.refl R,.rfl⟩
theorem str_sub (l:List UInt8) (a b:Nat):(ByteArray.mk l.toArray).extract a b=ByteArray.mk ((l.take b).drop a).toArray:=by
 have:((ByteArray.mk l.toArray).extract a b).data=((l.take b).drop a).toArray:=by
  rw[ByteArray.data_extract]
  apply Array.ext'
  simp [List.extract_eq_take_drop,List.drop_take]
 cases hx:(ByteArray.mk l.toArray).extract a b with
 |mk dd=>rw[hx] at this;simp only at this;rw[this]
theorem slice_str {d:Option Nat} {l:List UInt8} {i j:Int} {k:Co ρ} (R:Rel vs st):ssub l i j (fun r=>outT N d (.c ⟨.str,.z,r⟩) k vs)=some y →
  Law N vs st k y (if 0≤i∧i≤j∧j≤((ByteArray.mk l.toArray).size:Int) then out d (.t (.v (.string ((ByteArray.mk l.toArray).extract i.toNat j.toNat)))) else .no):=by
 intro h
 obtain ⟨hb,h⟩:=sub_some h
 rw[show ((ByteArray.mk l.toArray).size:Int)=(l.length:Int) from rfl,if_pos hb,str_sub]
 exact out_law R (c:=⟨.str,.z,_⟩) rfl h
theorem slice_lst {d:Option Nat} {r:List ST} {fs:List Fg} {f:Fl} {l:List (TM.R r)} {i j:Int} {k:Co ρ} {p:Prop} [Decidable p] (hp:p) (R:Rel vs st):lsub r l i j (fun y=>outT N d (.c ⟨.sl r,.sl f fs,y⟩) k vs)=some y →
  Law N vs st k y (if 0≤i∧i≤j∧j≤((l.map fun e=>encR r fs e).length:Int)∧p then out d (.t (.sl f (((l.map fun e=>encR r fs e).take j.toNat).drop i.toNat))) else .no):=by
 intro h
 obtain ⟨hb,h⟩:=sub_some h
 rw[if_pos ⟨hb.1,hb.2.1,by rw[List.length_map];exact hb.2.2,hp⟩]
 refine outT_ref h R ?_
 simp only[RelV]
 rw[← List.map_take,← List.map_drop]
 rfl
theorem evT_no {x:Operand} {n:Nat} (h:evT x (fun _=>(no n:Co ρ)) vs=some y):False:=by
 cases x<;>cases h
theorem win_some {α:Type} {l:List α} {a b:Int} {k:Nat→Nat→Option ρ} {z:ρ} (h:win_ l a b k=some z):(0≤a∧a≤b∧b≤(l.length:Int))∧k a.toNat b.toNat=some z:=by
 unfold win_ at h
 split at h
 ·rename_i hb;exact ⟨hb,h⟩
 ·cases h
theorem tv_slice {d:Option Nat} {t:TypeId} {x:Operand} {lo hi:Option Operand} {k:Co ρ} (R:Rel vs st):(evT x fun v=>evT (lo.getD (.const (.int .i64 0))) fun l=>match v with
  |.c ⟨.str,_,a⟩=>match P.underlying t with
   |some .string=>hiT hi (slen a) fun h=>match l,h with
    |.c ⟨.int .i64,_,i⟩,.c ⟨.int .i64,_,j⟩=>fun st=>ssub a i j fun r=>outT N d (.c ⟨.str,.z,r⟩) k st
    |_,_=>no 69
   |_=>no 70
  |.c ⟨.sl r,.sl f fs,a⟩=>match rowT P t with
   |some r'=>hiT hi (llen r a) fun h=>match l,h,f.low&&(Nat.beq r.length r'.length&&Nat.beq fs.length r.length) with
    |.c ⟨.int .i64,_,i⟩,.c ⟨.int .i64,_,j⟩,true=>fun st=>lsub r a i j fun y=>outT N d (.c ⟨.sl r,.sl f fs,y⟩) k st
    |_,_,_=>no 71
   |none=>no 72
  |.ref n p none=>match rowT P t with
   |some r'=>rowC n p fun row=>match row with
    |⟨.sl r,.sl .own fs,a⟩ :: _=>hiT hi (llen r a) fun h=>match l,h,Nat.beq r.length r'.length&&Nat.beq fs.length r.length with
     |.c ⟨.int .i64,_,i⟩,.c ⟨.int .i64,_,j⟩,true=>fun st=>lwin r a i j fun x y=>outT N d (.ref n p (some (x,y))) k st
     |_,_,_=>no 71
    |_=>no 72
   |none=>no 72
  |_=>no 73) vs=some y→Law N vs st k y (ev x fun v=>ev (lo.getD (.const (.int .i64 0))) fun l=>
   match v with
   |.t (.v (.string s))=>ev (hi.getD (.const (.int .i64 s.size))) fun h=>match P.underlying t,l,h with
    |some .string,.t (.v (.int .i64 a)),.t (.v (.int .i64 b))=>if 0≤a∧a≤b∧b≤(s.size:Int) then out d (.t (.v (.string (s.extract a.toNat b.toNat)))) else .no
    |_,_,_=>.no
   |.t (.sl f es)=>ev (hi.getD (.const (.int .i64 es.length))) fun h=>match l,h with
    |.t (.v (.int .i64 a)),.t (.v (.int .i64 b))=>if 0≤a∧a≤b∧b≤(es.length:Int)∧f≠.own∧(rowInfo P t).isSome=true∧(∀ e∈es,e.length=((rowInfo P t).getD []).length) then out d (.t (.sl f ((es.take b.toNat).drop a.toNat))) else .no
    |_,_=>.no
   |.ref n p lo' hi'=>.rdB n fun bx=>match rowAt bx.cells p with
    |some (.sl .own es :: _)=>ev (hi.getD (.const (.int .i64 ((hi':Int)-lo')))) fun h=>match l,h with
     |.t (.v (.int .i64 a)),.t (.v (.int .i64 b))=>if 0≤a∧a≤b∧b≤(hi':Int)-lo'∧(rowInfo P t).isSome=true∧(∀ e∈es,e.length=((rowInfo P t).getD []).length) then out d (.ref n p (lo'+a.toNat) (lo'+b.toNat)) else .no
     |_,_=>.no
    |_=>.no
   |_=>.no):=by
 intro h
 obtain ⟨v,lv,vs1,h,hv,g1,_⟩:=evT_ref (N:=N) (m:=fun v=>ev (lo.getD (.const (.int .i64 0))) fun l=>
   match v with
   |.t (.v (.string s))=>ev (hi.getD (.const (.int .i64 s.size))) fun h=>match P.underlying t,l,h with
    |some .string,.t (.v (.int .i64 a)),.t (.v (.int .i64 b))=>if 0≤a∧a≤b∧b≤(s.size:Int) then out d (.t (.v (.string (s.extract a.toNat b.toNat)))) else .no
    |_,_,_=>.no
   |.t (.sl f es)=>ev (hi.getD (.const (.int .i64 es.length))) fun h=>match l,h with
    |.t (.v (.int .i64 a)),.t (.v (.int .i64 b))=>if 0≤a∧a≤b∧b≤(es.length:Int)∧f≠.own∧(rowInfo P t).isSome=true∧(∀ e∈es,e.length=((rowInfo P t).getD []).length) then out d (.t (.sl f ((es.take b.toNat).drop a.toNat))) else .no
    |_,_=>.no
   |.ref n p lo' hi'=>.rdB n fun bx=>match rowAt bx.cells p with
    |some (.sl .own es :: _)=>ev (hi.getD (.const (.int .i64 ((hi':Int)-lo')))) fun h=>match l,h with
     |.t (.v (.int .i64 a)),.t (.v (.int .i64 b))=>if 0≤a∧a≤b∧b≤(hi':Int)-lo'∧(rowInfo P t).isSome=true∧(∀ e∈es,e.length=((rowInfo P t).getD []).length) then out d (.ref n p (lo'+a.toNat) (lo'+b.toNat)) else .no
     |_,_=>.no
    |_=>.no
   |_=>.no) h R
 refine .of g1 ?_
 cases v with
 |c w=>
  obtain ⟨t1,f1,l0⟩:=w
  cases t1 with
  |str=>
   rw[strV hv]
   let M1:LV→LV→M Unit:=fun l h=>match P.underlying t,l,h with
    |some .string,.t (.v (.int .i64 a)),.t (.v (.int .i64 b))=>if 0≤a∧a≤b∧b≤((ByteArray.mk (List.toArray (α:=UInt8) l0)).size:Int) then out d (.t (.v (.string ((ByteArray.mk (List.toArray (α:=UInt8) l0)).extract a.toNat b.toNat)))) else .no
    |_,_,_=>.no
   obtain ⟨w,lw,vs2,h,hw,g2,_⟩:=evT_ref (N:=N) (m:=fun l=>ev (hi.getD (.const (.int .i64 (ByteArray.mk (List.toArray (α:=UInt8) l0)).size))) fun h=>M1 l h) h g1.rel
   refine .of g2 ?_
   simp only at h
   cases hu:P.underlying t with
   |none=>rw[hu] at h;cases h
   |some ds=>
   rw[hu] at h
   cases ds with
   |string=>
    simp only at h
    obtain ⟨z,lz,vs3,h,hz,g3,_⟩:=hiT_ref (N:=N) (n:=(List.length (α:=UInt8) l0:Int)) (m:=fun h=>M1 lw h) h g2.rel
    refine .of g3 ?_
    cases w with
    |c w=>
     obtain ⟨t2,f2,i⟩:=w
     cases t2 with
     |int k2=>
      cases k2 with
      |i64=>
       obtain ⟨f,j,rfl,rfl,h⟩:=intCase (K:=fun j=>fun st=>ssub l0 i j fun r=>outT N d (.c ⟨.str,.z,r⟩) k st) (nn:=69) hz (by
        cases z with
        |c w=>obtain ⟨t2,f2,j⟩:=w;cases t2 with
         |int k2=>cases k2<;>exact h
         |_=>exact h
        |_=>exact h)
       rw[intV hw]
       simp only[M1,hu]
       exact slice_str g3.rel h
      |_=>cases h
     |_=>cases h
    |_=>cases h
   |_=>cases h
  |sl r=>
   cases f1 with
   |sl f fs=>
    simp only[RelV] at hv
    subst hv
    rw[enc_sl]
    let es:=(lis r l0).map fun e=>encR r fs e
    let M1:LV→LV→M Unit:=fun l h=>match l,h with
     |.t (.v (.int .i64 a)),.t (.v (.int .i64 b))=>if 0≤a∧a≤b∧b≤(es.length:Int)∧f≠.own∧(rowInfo P t).isSome=true∧(∀ e∈es,e.length=((rowInfo P t).getD []).length) then out d (.t (.sl f ((es.take b.toNat).drop a.toNat))) else .no
     |_,_=>.no
    obtain ⟨w,lw,vs2,h,hw,g2,_⟩:=evT_ref (N:=N) (m:=fun l=>ev (hi.getD (.const (.int .i64 es.length))) fun h=>M1 l h) h g1.rel
    refine .of g2 ?_
    simp only at h
    cases hr:rowT P t with
    |none=>rw[hr] at h;cases h
    |some r'=>
    rw[hr] at h
    obtain ⟨zz,e,h1,h2,h3,h4⟩:=rowT_some hr
    simp only at h
    have hlen:((es.length:Nat):Int)=llen r l0:=by
     show (((lis r l0).map fun e=>encR r fs e).length:Int)=_
     rw[List.length_map]
     rfl
    rw[hlen]
    obtain ⟨z,lz,vs3,h,hz,g3,_⟩:=hiT_ref (N:=N) (m:=fun h=>M1 lw h) h g2.rel
    refine .of g3 ?_
    cases hc:(f.low&&(Nat.beq r.length r'.length&&Nat.beq fs.length r.length)) with
    |false=>
     rw[hc] at h
     cases w with
     |c w=>obtain ⟨t2,f2,i⟩:=w;cases t2 with
      |int k2=>cases k2 with
       |i64=>cases z with
        |c z=>obtain ⟨t3,f3,j⟩:=z;cases t3 with
         |int k3=>cases k3<;>cases h
         |_=>cases h
        |_=>cases h
       |_=>cases h
      |_=>cases h
     |_=>cases h
    |true=>
     rw[hc] at h
     simp only[Bool.and_eq_true] at hc
     obtain ⟨hc0,hc1,hc2⟩:=hc
     have q1:=Nat.eq_of_beq_eq_true hc1
     have q2:=Nat.eq_of_beq_eq_true hc2
     cases w with
     |c w=>
      obtain ⟨t2,f2,i⟩:=w
      cases t2 with
      |int k2=>
       cases k2 with
       |i64=>
        obtain ⟨f',j,rfl,rfl,h⟩:=intCase (K:=fun j=>fun st=>lsub r l0 i j fun y=>outT N d (.c ⟨.sl r,.sl f fs,y⟩) k st) (nn:=71) hz (by
         cases z with
         |c w=>obtain ⟨t2,f2,j⟩:=w;cases t2 with
          |int k2=>cases k2<;>exact h
          |_=>exact h
         |_=>exact h)
        rw[intV hw]
        refine slice_lst (p:=f≠.own∧(rowInfo P t).isSome=true∧(∀ e∈es,e.length=((rowInfo P t).getD []).length)) ⟨?_,?_,?_⟩ g3.rel h
        ·intro hf
         rw[hf] at hc0
         cases hc0
        ·rw[h1];rfl
        ·intro e he
         obtain ⟨e0,_,rfl⟩:=List.mem_map.1 he
         rw[h1,encR_length e0 q2,Option.getD_some,h4,q1]
       |_=>cases h
      |_=>cases h
     |_=>cases h
   |_=>exact (evT_no (n:=73) h).elim
  |_=>exact (evT_no (n:=73) h).elim
 |ref n p sub=>
  cases sub with
  |some s=>exact (evT_no (n:=73) h).elim
  |none=>
   simp only[RelV] at hv
   obtain ⟨hi0,rfl,es,r0,hes,hhi⟩:=hv
   let M2:LV→LV→M Unit:=fun l h=>match l,h with
    |.t (.v (.int .i64 a)),.t (.v (.int .i64 b))=>if 0≤a∧a≤b∧b≤(hi0:Int)-(0:Nat)∧(rowInfo P t).isSome=true∧(∀ e∈es,e.length=((rowInfo P t).getD []).length) then out d (.ref n (pthL p) (0+a.toNat) (0+b.toNat)) else .no
    |_,_=>.no
   obtain ⟨w,lw,vs2,h,hw,g2,_⟩:=evT_ref (N:=N) (m:=fun l=>.rdB n fun bx=>match rowAt bx.cells (pthL p) with
    |some (.sl .own es :: _)=>ev (hi.getD (.const (.int .i64 ((hi0:Int)-(0:Nat))))) fun h=>match l,h with
     |.t (.v (.int .i64 a)),.t (.v (.int .i64 b))=>if 0≤a∧a≤b∧b≤(hi0:Int)-(0:Nat)∧(rowInfo P t).isSome=true∧(∀ e∈es,e.length=((rowInfo P t).getD []).length) then out d (.ref n (pthL p) (0+a.toNat) (0+b.toNat)) else .no
     |_,_=>.no
    |_=>.no) h g1.rel
   refine .of g2 ?_
   simp only at h
   cases hr:rowT P t with
   |none=>rw[hr] at h;cases h
   |some r'=>
   rw[hr] at h
   obtain ⟨zz,e,h1,h2,h3,h4⟩:=rowT_some hr
   simp only at h
   obtain ⟨row,vs3,h,hrow,g3,_⟩:=rowC_ref (N:=N) (m:=fun bx=>match rowAt bx.cells (pthL p) with
    |some (.sl .own es :: _)=>ev (hi.getD (.const (.int .i64 ((hi0:Int)-(0:Nat))))) fun h=>match lw,h with
     |.t (.v (.int .i64 a)),.t (.v (.int .i64 b))=>if 0≤a∧a≤b∧b≤(hi0:Int)-(0:Nat)∧(rowInfo P t).isSome=true∧(∀ e∈es,e.length=((rowInfo P t).getD []).length) then out d (.ref n (pthL p) (0+a.toNat) (0+b.toNat)) else .no
     |_,_=>.no
    |_=>.no) h g2.rel
   refine .of g3 ?_
   rw[hes]
   simp only
   cases row with
   |nil=>cases h
   |cons z rest=>
    obtain ⟨t1,f1,l⟩:=z
    cases t1 with
    |sl r=>
     cases f1 with
     |sl f fs=>
      cases f with
      |own=>
       simp only at h
       have e1:encs (⟨.sl r,.sl .own fs,l⟩ :: rest)=.sl .own ((lis r l).map fun e=>encR r fs e) :: encs rest:=rfl
       rw[hrow,e1] at hes
       simp only[Option.some.injEq,List.cons.injEq,T.sl.injEq,true_and] at hes
       have hlen:(hi0:Int)-((0:Nat):Int)=((lis r l).length:Int):=by
        rw[hhi,← hes.1,List.length_map]
        omega
       rw[hlen]
       obtain ⟨z,lz,vs4,h,hz,g4,_⟩:=hiT_ref (N:=N) (n:=((lis r l).length:Int)) (m:=fun h=>match lw,h with
        |.t (.v (.int .i64 a)),.t (.v (.int .i64 b))=>if 0≤a∧a≤b∧b≤((lis r l).length:Int)∧(rowInfo P t).isSome=true∧(∀ e∈es,e.length=((rowInfo P t).getD []).length) then out d (.ref n (pthL p) (0+a.toNat) (0+b.toNat)) else .no
        |_,_=>.no) h g3.rel
       refine .of g4 ?_
       cases hc:(Nat.beq r.length r'.length&&Nat.beq fs.length r.length) with
       |false=>
        rw[hc] at h
        cases w with
        |c w=>obtain ⟨t2,f2,i⟩:=w;cases t2 with
         |int k2=>cases k2 with
          |i64=>cases z with
           |c z=>obtain ⟨t3,f3,j⟩:=z;cases t3 with
            |int k3=>cases k3<;>cases h
            |_=>cases h
           |_=>cases h
          |_=>cases h
         |_=>cases h
        |_=>cases h
       |true=>
        rw[hc] at h
        simp only[Bool.and_eq_true] at hc
        obtain ⟨hc1,hc2⟩:=hc
        have q1:=Nat.eq_of_beq_eq_true hc1
        have q2:=Nat.eq_of_beq_eq_true hc2
        cases w with
        |c w=>
         obtain ⟨t2,f2,i⟩:=w
         cases t2 with
         |int k2=>
          cases k2 with
          |i64=>
           obtain ⟨f',j,rfl,rfl,h⟩:=intCase (K:=fun j=>fun st=>lwin r l i j fun x y=>outT N d (.ref n p (some (x,y))) k st) (nn:=71) hz (by
            cases z with
            |c w=>obtain ⟨t2,f2,j⟩:=w;cases t2 with
             |int k2=>cases k2<;>exact h
             |_=>exact h
            |_=>exact h)
           rw[intV hw]
           simp only
           obtain ⟨hb,h⟩:=win_some h
           have hb2:j≤((lis r l).length:Int):=hb.2.2
           rw[if_pos ⟨hb.1,hb.2.1,hb2,by rw[h1];rfl,fun e he=>by
            rw[← hes.1] at he
            obtain ⟨e0,_,rfl⟩:=List.mem_map.1 he
            rw[h1,encR_length e0 q2,Option.getD_some,h4,q1]⟩]
           refine outT_ref h g4.rel ?_
           simp only[RelV,Nat.zero_add]
           refine ⟨trivial,Int.toNat_le_toNat hb.2.1,(lis r l).length,Int.toNat_le.2 hb2,es,r0,?_,?_⟩
           ·rw[hrow,e1,hes.1,hes.2]
           ·rw[← hes.1,List.length_map]
          |_=>cases h
         |_=>cases h
        |_=>cases h
      |_=>cases h
     |_=>cases h
    |_=>cases h
 |_=>exact (evT_no (n:=73) h).elim
theorem opT_ref {o:Oper} {k:Co ρ} (h:opT N P o k vs=some y) (R:Rel vs st):Law N vs st k y (opM P o):=by
 unfold opM
 cases ho:o.op with
 |move x=>simp only[opT,ho] at h;exact tv_move R h
 |assign x=>simp only[opT,ho] at h;exact tv_move R h
 |pick a b c=>simp only[opT,ho] at h;exact tv_pick R h
 |alloc t=>simp only[opT,ho] at h;exact tv_alloc R h
 |box t x=>simp only[opT,ho] at h;exact tv_box R h
 |build t ps=>simp only[opT,ho] at h;exact tv_build R h
 |buildSlice t n ps=>simp only[opT,ho] at h;exact tv_buildSlice R h
 |makeSlice t l c=>simp only[opT,ho] at h;exact tv_makeSlice R h
 |load t x=>simp only[opT,ho] at h;exact tv_load R h
 |store t x z=>simp only[opT,ho] at h;exact tv_store R h
 |nilCheck x=>simp only[opT,ho] at h;exact tv_nilCheck R h
 |binOp op t x z t'=>
  simp only[opT,ho] at h
  simp only
  obtain ⟨v,lv,vs1,h,hv,g1,_⟩:=evT_ref (N:=N) (m:=fun v=>ev z fun u=>match binV P t op v u with
   |some r=>out o.dst (.t (.v r))
   |none=>.no) h R
  refine .of g1 ?_
  obtain ⟨u,lu,vs2,h,hu,g2,_⟩:=evT_ref (N:=N) (m:=fun u=>match binV P t op lv u with
   |some r=>out o.dst (.t (.v r))
   |none=>.no) h g1.rel
  exact .of g2 (binT_ref g2.rel hv hu h)
 |unOp op t x=>simp only[opT,ho] at h;exact tv_unOp R h
 |fieldAddr s x f=>simp only[opT,ho] at h;exact tv_fieldAddr R h
 |field s x f=>simp only[opT,ho] at h;exact tv_field R h
 |indexAddr t x i=>simp only[opT,ho] at h;exact tv_indexAddr R h
 |index t x i=>simp only[opT,ho] at h;exact tv_index R h
 |extract x i=>simp only[opT,ho] at h;exact tv_extract R h
 |makeFunc g a b=>simp only[opT,ho] at h;exact tv_makeFunc R h
 |slice t x lo hi mx=>
  cases mx with
  |none=>simp only[opT,ho] at h;exact tv_slice R h
  |some m=>simp only[opT,ho] at h;cases h
 |convert s t x=>simp only[opT,ho] at h;exact tv_convert R h
 |call c=>
  simp only[opT,ho] at h
  cases hc:c.callee with
  |builtin b=>
   cases ha:c.args.toList with
   |nil=>rw[hc,ha] at h;cases b<;>cases h
   |cons x xs=>
    cases xs with
    |nil=>
     rw[hc,ha] at h
     simp only[hc,ha]
     cases b with
     |len=>exact tv_len R h
     |clear=>
      have h:clearT P c o.dst x k vs=some y:=h
      have:=tv_clear (N:=N) (x:=x) (dst:=o.dst) (c:=c) R h
      cases x<;>exact this
     |_=>cases h
    |cons z zs=>
     cases zs with
     |nil=>
      rw[hc,ha] at h
      simp only[hc,ha]
      cases b with
      |max=>exact tv_max R h
      |append=>exact tv_append R h
      |_=>cases h
     |cons _ _=>rw[hc,ha] at h;cases b<;>cases h
  |value f=>rw[hc] at h;cases h
  |invoke r m=>rw[hc] at h;cases h
 |_=>simp only[opT,ho] at h;cases h
end
end TM
namespace TM
open Go
def AP.arg:AP→List T→Arg
 |.one _ _,ts=>.one (ts.headD .hole)
 |.agg _,ts=>.agg ts
 |.ptr _,ts=>.ptr ts
 |.own _ _,ts=>.own (ts.headD .hole)
 |.owns _,ts=>.owns ts
def argsL:List AP→List T→List Arg
 |[],_=>[]
 |a :: as,ts=>a.arg (ts.take a.len) :: argsL as (ts.drop a.len)
mutual
theorem encT_frz:∀ (t:ST) (f:Fg) (x:V t),okF t f=true→encT t f.frz x=TM.frz (encT t f x)
 |.int k,f,x,h=>by simp only[encT,TM.frz]
 |.bool,f,x,h=>by simp only[encT,TM.frz]
 |.str,f,x,h=>by simp only[encT,TM.frz]
 |.hole,f,x,h=>by simp [okF] at h
 |.hs _ _,f,x,h=>by simp [okF] at h
 |.sl r,f,x,h=>by
  cases f with
  |sl g fs=>
   simp only[okF] at h
   simp only[Fg.frz,encT,TM.frz,frzLL_map,List.map_map]
   congr 1
   refine List.map_congr_left fun e _=>?_
   exact encR_frz r fs e h
  |_=>simp [okF] at h
 |.pt r,f,x,h=>by
  cases f with
  |pt g fs=>
   simp only[okF] at h
   simp only[Fg.frz,encT,TM.frz]
   rw[encR_frz r fs x h]
  |_=>simp [okF] at h
 |.fn g r,f,x,h=>by
  cases f with
  |fn fs=>
   simp only[okF] at h
   simp only[Fg.frz,encT,TM.frz]
   rw[encR_frz r fs x h]
  |_=>simp [okF] at h
theorem encR_frz:∀ (r:List ST) (fs:List Fg) (x:R r),okFs r fs=true→encR r (Fg.frzs fs) x=frzL (encR r fs x)
 |[],fs,x,h=>by simp only[encR,frzL]
 |t :: r,[],x,h=>by simp [okFs] at h
 |t :: r,f :: fs,x,h=>by
  simp only[okFs,Bool.and_eq_true] at h
  simp only[Fg.frzs,encR,frzL]
  rw[encT_frz t f (headR t r x) h.1,encR_frz r fs (tailR t r x) h.2]
end
structure Rd (N:Nat) (st:St) (vs vs':VS) (l:List Ac):Prop where
 same:Same vs vs'
 fits:fitsT N l st
 rd:∀ x∈l,isRead x
 cov:Covers l vs.lg vs'.lg
theorem Rd.nil {N:Nat} {st:St} {vs:VS}:Rd N st vs vs []:=⟨.rfl,trivial,by simp,.nil⟩
theorem fits_reads {N:Nat} {l l':List Ac} {st:St} (h:∀ x∈l,isRead x):fitsT N (l++l') st↔fitsT N l st∧fitsT N l' st:=by
 rw[fitsT_append,appT_reads _ _ h]
theorem Rd.trans {N:Nat} {st:St} {a b c:VS} {l l':List Ac} (h:Rd N st a b l) (k:Rd N st b c l'):Rd N st a c (l++l'):=
 ⟨h.same.trans k.same,(fits_reads h.rd).2 ⟨h.fits,k.fits⟩,fun x hx=>(List.mem_append.1 hx).elim (h.rd x) (k.rd x),h.cov.trans k.cov⟩
theorem Rd.rel {N:Nat} {st:St} {a b:VS} {l:List Ac} (h:Rd N st a b l) (R:Rel a st):Rel b st:=by
 have:=R.lg b.lg
 rw[← h.same.1,← h.same.2] at this
 exact this
section
variable {ρ:Type} {N:Nat} {vs vs':VS} {st:St} {y:ρ}
theorem lendZ_some {t:ST} {f:Fg} {c:Cl} {k:Cl→Res ρ} (h:lendZ t f c k=some y):∃ x:V t,k ⟨t,f,x⟩=some y∧encT t f x=frz c.enc:=by
 unfold lendZ at h
 cases hc:(okF c.t c.f&&Fg.beq c.f.frz f) with
 |true=>
  rw[hc] at h
  simp only[Bool.and_eq_true] at hc
  obtain ⟨e,h⟩:=castV_some h
  refine ⟨_,h,?_⟩
  obtain ⟨t0,f0,x0⟩:=c
  simp only at e hc
  subst e
  rw[← Fg.beq_eq _ _ hc.2]
  exact encT_frz t0 f0 x0 hc.1
 |false=>
  rw[hc] at h
  simp only at h
  split at h
  ·rename_i fs h1 h2
   refine ⟨_,h,?_⟩
   obtain ⟨t0,f0,x0⟩:=c
   simp only at h1 h2
   subst h1
   subst h2
   simp [encT,Cl.enc,lnil,lis,TM.frz,frzLL]
  ·cases h
theorem lendC_some {t:ST} {f:Fg} {c:Cl} {k:Cl→Res ρ} (h:lendC t f c k=some y):∃ x:V t,k ⟨t,f,x⟩=some y∧(encT t f x=c.enc∨encT t f x=frz c.enc):=by
 unfold lendC at h
 cases hc:Fg.beq c.f f with
 |true=>
  rw[hc] at h
  obtain ⟨e,h⟩:=castV_some h
  refine ⟨_,h,.inl ?_⟩
  obtain ⟨t0,f0,x0⟩:=c
  simp only at e
  subst e
  rw[← Fg.beq_eq _ _ hc]
  rfl
 |false=>
  rw[hc] at h
  obtain ⟨x,h1,h2⟩:=lendZ_some h
  exact ⟨x,h1,.inr h2⟩
theorem lendZs_some:∀ {r:List (ST×Fg)} {cs:List Cl} {k:List Cl→Res ρ},lendZs r cs k=some y→∃ xs,k xs=some y∧encs xs=frzL ((encs cs).take xs.length)∧xs.length=r.length
 |[],cs,k,h=>⟨[],h,by simp [encs,frzL],rfl⟩
 |(t,f) :: r,c :: cs,k,h=>by
  simp only[lendZs] at h
  obtain ⟨x,h,h1⟩:=lendZ_some h
  obtain ⟨xs,h,h2,h3⟩:=lendZs_some h
  refine ⟨_,h,?_,by simp [h3]⟩
  simp only[encs,List.map_cons,List.length_cons,List.take_succ_cons,frzL] at h2 ⊢
  rw[h2]
  congr 1
 |_ :: _,[],k,h=>by cases h
theorem rB_fits {n:Nm} {x:Box} {st':St} (h:fitsT N [.rB n x] st'):st'.b n=x:=h.1
theorem rowC_rd {n:Nm} {p:Pth} {k:List Cl→Co ρ} (h:rowC n p k vs=some y) (R:Rel vs st) :
  ∃ row vs',k row vs'=some y∧rowAt (st.b n).cells (pthL p)=some (encs row)∧Rd N st vs vs' [.rB n (st.b n)]:=by
 simp only[rowC,rdB] at h
 split at h
 ·rename_i x hx
  obtain ⟨h1,h2⟩:=R.b n x hx
  obtain ⟨row,h,h3⟩:=getAt_ref _ _ _ h
  exact ⟨row,_,h,by rw[h2];exact h3,⟨rfl,rfl⟩,⟨rfl,trivial⟩,by simp [isRead],.one (f:=.rB n) rfl⟩
 ·cases h
theorem encs_mkRow {r:List ST} {fs:List Fg} {cs:List Cl} {k:R r→Res ρ} (h:mkRow r fs cs k=some y):∃ e,k e=some y∧encR r fs e=encs cs∧cs.length=r.length∧fs.length=r.length:=
 let ⟨h1,h2⟩:=mkRow_len h
 let ⟨e,h3,h4⟩:=mkRow_some h
 ⟨e,h3,h4,h1,h2⟩
theorem free_idx {mv:List (Option Nm)} {n:Nm} (h:inM n mv=false):mvIdx n 0 mv=none:=by
 have key:∀ (l:List (Option Nm)) (i:Nat),inM n l=false→mvIdx n i l=none:=by
  intro l
  induction l with
  |nil=>intro i _;rfl
  |cons o l ih=>
   intro i h
   cases o with
   |none=>simp only[inM] at h;simp only[mvIdx];exact ih _ h
   |some m=>
    simp only[inM,Bool.or_eq_false_iff] at h
    have:m≠n:=by
     intro e
     subst e
     rw[nm_eq.2 rfl] at h
     exact absurd h.1 (by simp)
    simp only[mvIdx,if_neg this]
    exact ih _ h.2
 exact key mv 0 h
mutual
theorem lendT_ref:∀ (v:TV) {lv:LV} {t:ST} {f:Fg} {k:Cl→Co ρ} {vs:VS},lendT v t f k vs=some y→Rel vs st→RelV (Qs st.b) v lv →
  ∃ c vs' l,k c vs'=some y∧Rd N st vs vs' l∧∀ (mv:List (Option Nm)) (lent:Bool),(lends? v=true→lent=true)→freeT mv v=true→∀ st',fitsT N l st'→lend st' mv lent lv c.enc
 |.c x,lv,t,f,k,vs,h,R,hv=>by
  simp only[lendT] at h
  obtain ⟨z,h,h1⟩:=lendC_some h
  simp only[RelV] at hv
  subst hv
  refine ⟨_,vs,[],h,.nil,fun mv lent hl hm st' _=>?_⟩
  simp only[lend]
  exact h1
 |.ref n p (some s),lv,t,f,k,vs,h,R,hv=>by
  unfold lendT at h
  cases h
 |.ref n p none,lv,t,f,k,vs,h,R,hv=>by
  cases t with
  |sl r=>
   cases f with
   |sl g fs=>
    cases g with
    |fz=>
     simp only[lendT] at h
     obtain ⟨row,vs1,h,hrow,g1⟩:=rowC_rd (N:=N) h R
     cases row with
     |nil=>cases h
     |cons z rest=>
      obtain ⟨t1,f1,l⟩:=z
      cases t1 with
      |sl r'=>
       simp only at h
       cases hf:ownF f1 with
       |false=>rw[hf] at h;cases h
       |true=>
        rw[hf] at h
        obtain ⟨x,h,h1⟩:=lendZ_some h
        obtain ⟨es,hes⟩:=ownF_enc (l:=l) hf
        refine ⟨_,vs1,_,h,g1,fun mv lent hl hm st' hfit=>?_⟩
        simp only[RelV] at hv
        obtain ⟨hi,rfl,es',r0,hes',hhi⟩:=hv
        have e1:encs (⟨.sl r',f1,l⟩ :: rest)=.sl .own es :: encs rest:=by rw[← hes];rfl
        rw[hrow,e1] at hes'
        cases hes'
        have h2:(Cl.mk (.sl r) (.sl .fz fs) x).enc=.sl .fz (frzLL es):=by
         show encT _ _ _=_
         rw[h1,hes]
         rfl
        rw[h2]
        simp only[lend]
        refine ⟨hl rfl,free_idx (by simpa [freeT] using hm),?_⟩
        rw[rB_fits hfit,hrow,e1]
        simp only[hhi,List.take_length,List.drop_zero]
      |_=>cases h
    |_=>cases h
   |_=>cases h
  |_=>cases h
 |.addr n p,lv,t,f,k,vs,h,R,hv=>by
  cases t with
  |pt r=>
   cases f with
   |pt g fs=>
    cases g with
    |fz=>
     simp only[lendT] at h
     obtain ⟨row,vs1,h,hrow,g1⟩:=rowC_rd (N:=N) h R
     obtain ⟨xs,h,h1,h2⟩:=lendZs_some h
     obtain ⟨e,h,h3,h4,h5⟩:=encs_mkRow h
     refine ⟨_,vs1,_,h,g1,fun mv lent hl hm st' hfit=>?_⟩
     rw[addrV hv]
     have h6:(Cl.mk (.pt r) (.pt .fz fs) e).enc=.pt .fz (encs xs):=by
      show T.pt .fz (encR r fs e)=_
      rw[h3]
     rw[h6]
     simp only[lend]
     refine ⟨hl rfl,free_idx (by simpa [freeT] using hm),?_⟩
     rw[rB_fits hfit,hrow]
     simp only
     rw[show (encs xs).length=xs.length by simp [encs]]
     exact h1
    |_=>cases h
   |_=>cases h
  |_=>cases h
 |.raddr cs,lv,t,f,k,vs,h,R,hv=>by
  cases t with
  |pt r=>
   cases f with
   |pt g fs=>
    cases g with
    |fz=>
     simp only[lendT] at h
     cases hc:Nat.beq r.length cs.length with
     |false=>rw[hc] at h;cases h
     |true=>
      rw[hc] at h
      obtain ⟨xs,h,h1,h2⟩:=lendZs_some h
      obtain ⟨e,h,h3,h4,h5⟩:=encs_mkRow h
      refine ⟨_,vs,[],h,.nil,fun mv lent hl hm st' _=>?_⟩
      simp only[RelV] at hv
      subst hv
      have h6:(Cl.mk (.pt r) (.pt .fz fs) e).enc=.pt .fz (encs xs):=by
       show T.pt .fz (encR r fs e)=_
       rw[h3]
      rw[h6]
      simp only[lend]
      refine ⟨trivial,.inr ?_⟩
      rw[h1,List.take_of_length_le]
      rw[h4,Nat.eq_of_beq_eq_true hc]
      simp [encs]
    |_=>cases h
   |_=>cases h
  |_=>cases h
 |.fn g xs,lv,t,f,k,vs,h,R,hv=>by
  cases t with
  |fn g' r=>
   cases f with
   |fn fs=>
    simp only[lendT] at h
    cases hc:Nat.beq g g' with
    |false=>rw[hc] at h;cases h
    |true=>
     rw[hc] at h
     simp only[RelV] at hv
     obtain ⟨us,rfl,hu⟩:=hv
     obtain ⟨cs,vs1,l,h,g1,h1,_⟩:=lendTs_ref xs h R hu
     obtain ⟨e,h,h3,h4,h5⟩:=encs_mkRow h
     refine ⟨_,vs1,l,h,g1,fun mv lent hl hm st' hfit=>?_⟩
     have h6:(Cl.mk (.fn g' r) (.fn fs) e).enc=.fn (.func g') (encs cs):=by
      show T.fn (.func g') (encR r fs e)=_
      rw[h3]
     rw[h6]
     simp only[lend]
     exact ⟨by rw[Nat.eq_of_beq_eq_true hc],h1 mv lent (fun hx=>hl (by simpa [lends?] using hx)) (by simpa [freeT] using hm) st' hfit⟩
   |_=>cases h
  |_=>cases h
 |.agg xs,lv,t,f,k,vs,h,R,hv=>by cases t<;>cases f<;>cases h
 |.tup xs,lv,t,f,k,vs,h,R,hv=>by cases t<;>cases f<;>cases h
 |.va xs,lv,t,f,k,vs,h,R,hv=>by cases t<;>cases f<;>cases h
 |.dead,lv,t,f,k,vs,h,R,hv=>by cases t<;>cases f<;>cases h
theorem lendTs_ref:∀ (xs:List TV) {lvs:List LV} {r:List (ST×Fg)} {k:List Cl→Co ρ} {vs:VS},lendTs xs r k vs=some y→Rel vs st→RelVs (Qs st.b) xs lvs →
  ∃ cs vs' l,k cs vs'=some y∧Rd N st vs vs' l∧(∀ (mv:List (Option Nm)) (lent:Bool),(lendss? xs=true→lent=true)→freeTs mv xs=true→∀ st',fitsT N l st'→lends st' mv lent lvs (encs cs))∧cs.length=r.length
 |[],lvs,r,k,vs,h,R,hv=>by
  cases r with
  |nil=>
   simp only[RelVs] at hv
   subst hv
   exact ⟨[],vs,[],h,.nil,fun _ _ _ _ _ _=>by simp [encs,lends],rfl⟩
  |cons _ _=>cases h
 |x :: xs,[],r,k,vs,h,R,hv=>by simp only[RelVs] at hv
 |x :: xs,v :: lvs,r,k,vs,h,R,hv=>by
  cases r with
  |nil=>cases h
  |cons tf r=>
   obtain ⟨t,f⟩:=tf
   simp only[lendTs] at h
   simp only[RelVs] at hv
   obtain ⟨c,vs1,l1,h,g1,k1⟩:=lendT_ref x h R hv.1
   obtain ⟨cs,vs2,l2,h,g2,k2,k3⟩:=lendTs_ref xs h (g1.rel R) hv.2
   refine ⟨c :: cs,vs2,l1++l2,h,g1.trans g2,fun mv lent hl hm st' hfit=>?_,by simp [k3]⟩
   obtain ⟨q1,q2⟩:=(fits_reads g1.rd).1 hfit
   simp only[freeTs,Bool.and_eq_true] at hm
   simp only[encs,List.map_cons,lends]
   exact ⟨k1 mv lent (fun hx=>hl (by simp [lendss?,hx])) hm.1 st' q1,k2 mv lent (fun hx=>hl (by simp [lendss?,hx])) hm.2 st' q2⟩
end
end
end TM
namespace TM
open Go
def outsL:List (List (ST×Fg))→List T→List (List T)
 |[],_=>[]
 |o :: os,ts=>ts.take o.length :: outsL os (ts.drop o.length)
section
variable {ρ:Type} {N:Nat} {vs vs':VS} {st:St} {y:ρ}
theorem argsT_ref:∀ {as:List AP} {xs:List TV} {lvs:List LV} {k:List Cl→List (Option Nm)→Co ρ} {vs:VS},argsT xs as k vs=some y→Rel vs st→RelVs (Qs st.b) xs lvs →
  ∃ cs mv vs' l,k cs mv vs'=some y∧Rd N st vs vs' l∧mv.length=as.length∧∀ (mv0:List (Option Nm)) (lent:Bool),(lendsA? xs as=true→lent=true)→freeA mv0 xs as=true→∀ st',fitsT N l st'→argsOK st' mv0 lent mv lvs (argsL as (encs cs))
 |[],xs,lvs,k,vs,h,R,hv=>by
  cases xs with
  |nil=>
   simp only[RelVs] at hv
   subst hv
   exact ⟨[],[],vs,[],h,.nil,rfl,fun _ _ _ _ _ _=>by simp [argsL,argsOK]⟩
  |cons _ _=>cases h
 |a :: as,[],lvs,k,vs,h,R,hv=>by cases h
 |a :: as,x :: xs,[],k,vs,h,R,hv=>by simp only[RelVs] at hv
 |a :: as,x :: xs,v :: lvs,k,vs,h,R,hv=>by
  simp only[RelVs] at hv
  cases a with
  |one t f=>
   simp only[argsT] at h
   obtain ⟨c,vs1,l1,h,g1,k1⟩:=lendT_ref (N:=N) x h R hv.1
   obtain ⟨cs,mv,vs2,l2,h,g2,k2,k3⟩:=argsT_ref h (g1.rel R) hv.2
   refine ⟨c :: cs,none :: mv,vs2,l1++l2,h,g1.trans g2,by simp [k2],fun mv0 lent hl hf st' hfit=>?_⟩
   obtain ⟨q1,q2⟩:=(fits_reads g1.rd).1 hfit
   simp only[freeA,Bool.and_eq_true] at hf
   simp only[encs,List.map_cons,argsL,AP.len,List.take_succ_cons,List.take_zero,List.drop_succ_cons,List.drop_zero,argsOK,AP.arg,List.headD_cons,argOK]
   exact ⟨⟨trivial,k1 mv0 lent (fun hh=>hl (by simp [lendsA?,hh])) hf.1 st' q1⟩,k3 mv0 lent (fun hh=>hl (by simp [lendsA?,hh])) hf.2 st' q2⟩
  |agg r=>
   cases x with
   |agg us=>
    simp only[argsT] at h
    simp only[RelV] at hv
    obtain ⟨⟨lus,rfl,hu⟩,hv2⟩:=hv
    obtain ⟨c,vs1,l1,h,g1,k1,k4⟩:=lendTs_ref (N:=N) us h R hu
    obtain ⟨cs,mv,vs2,l2,h,g2,k2,k3⟩:=argsT_ref h (g1.rel R) hv2
    refine ⟨c++cs,none :: mv,vs2,l1++l2,h,g1.trans g2,by simp [k2],fun mv0 lent hl hf st' hfit=>?_⟩
    obtain ⟨q1,q2⟩:=(fits_reads g1.rd).1 hfit
    simp only[freeA,Bool.and_eq_true,freeT] at hf
    have e1:(encs (c++cs)).take r.length=encs c:=by simp [encs,← k4]
    have e2:(encs (c++cs)).drop r.length=encs cs:=by simp [encs,← k4]
    simp only[argsL,AP.len,e1,e2,argsOK,AP.arg,argOK]
    exact ⟨⟨trivial,k1 mv0 lent (fun hh=>hl (by simp [lendsA?,lends?,hh])) hf.1 st' q1⟩,k3 mv0 lent (fun hh=>hl (by simp [lendsA?,hh])) hf.2 st' q2⟩
   |_=>cases h
  |ptr r=>
   cases x with
   |addr n p=>
    obtain ⟨c0,pr⟩:=p
    cases c0 with
    |succ _=>cases pr<;>cases h
    |zero=>
     cases pr with
     |cons _ _=>cases h
     |nil=>
      simp only[argsT,rdB] at h
      cases hb:lookB vs.b n with
      |none=>rw[hb] at h;cases h
      |some bx=>
       rw[hb] at h
       simp only at h
       cases hc:(bx.real&&Nat.beq bx.cells.length r.length) with
       |false=>rw[hc] at h;cases h
       |true=>
        rw[hc] at h
        simp only[Bool.and_eq_true] at hc
        have hlen:=Nat.eq_of_beq_eq_true hc.2
        obtain ⟨b1,b2⟩:=R.b n bx hb
        obtain ⟨cs,mv,vs2,l2,h,g2,k2,k3⟩:=argsT_ref h (R.lg _) hv.2
        refine ⟨bx.cells++cs,some n :: mv,vs2,[.rB n (st.b n)]++l2,h,Rd.trans (show Rd N st vs ⟨vs.s,vs.b,.rB n :: vs.lg⟩ [.rB n (st.b n)] from ⟨⟨rfl,rfl⟩,⟨rfl,trivial⟩,by simp [isRead],.one (f:=.rB n) rfl⟩) g2,by simp [k2],fun mv0 lent hl hf st' hfit=>?_⟩
        obtain ⟨q1,q2⟩:=hfit
        have e1:(encs (bx.cells++cs)).take r.length=encs bx.cells:=by simp [encs,← hlen]
        have e2:(encs (bx.cells++cs)).drop r.length=encs cs:=by simp [encs,← hlen]
        have hst:st'.b n=st.b n:=q1
        rw[addrV hv.1]
        simp only[argsL,AP.len,e1,e2,argsOK,AP.arg,argOK]
        exact ⟨⟨trivial,rfl,by rw[hst,b1];exact hc.1,by rw[hst,b2]⟩,k3 mv0 lent (fun hh=>hl (by simpa [lendsA?] using hh)) (by simpa [freeA] using hf) st' q2⟩
   |_=>cases h
  |own t f=>cases x<;>cases h
  |owns r=>cases x<;>cases h
theorem gone_eq {d:Nat} {m:Nm}:goneN d m=gone d m:=by
 unfold goneN gone
 rw[Bool.eq_iff_iff]
 simp
theorem inM_idx {n:Nm}:∀ {mv:List (Option Nm)} {i:Nat},inM n mv=(mvIdx n i mv).isSome
 |[],i=>rfl
 |none :: mv,i=>by simp only[inM,mvIdx];exact inM_idx
 |some m :: mv,i=>by
  simp only[inM,mvIdx]
  by_cases h:m=n
  ·subst h
   rw[nm_eq.2 rfl]
   simp
  ·have:nmEq n m=false:=by
    cases hh:nmEq n m with
    |false=>rfl
    |true=>exact absurd (nm_eq.1 hh).symm h
   rw[this,if_neg h]
   simpa using inM_idx
mutual
theorem RelV.callK {b b':Nm→Box} {d:Nat} {mv:List (Option Nm)} {args:List Arg} {outs:List (List T)} (hb:∀ n,goneN d n=false→inM n mv=false→(b' n).cells=(b n).cells):∀ (v:TV) (lv:LV),RelV (Qs b) v lv→RelV (Qs b') (callK d mv v) (callV d mv args outs lv)
 |.c x,lv,h=>by simp only[RelV] at h;subst h;simp only[TM.callK,callV,RelV]
 |.ref m q none,lv,h=>by
  simp only[RelV] at h
  obtain ⟨hi,rfl,h⟩:=h
  rw[TM.callK,callV]
  split
  ·simp only[RelV]
  ·rename_i hc
   simp only[Bool.or_eq_false_iff] at hc
   rw[← gone_eq,hc.1]
   have:mvIdx m 0 mv=none:=free_idx hc.2
   simp only[Bool.false_eq_true,if_false,this,RelV]
   refine ⟨hi,rfl,?_⟩
   unfold Qs
   rw[hb m hc.1 hc.2]
   exact h
 |.ref m q (some (lo,hi)),lv,h=>by
  simp only[RelV] at h
  obtain ⟨rfl,h2,L,h3,h⟩:=h
  rw[TM.callK,callV]
  split
  ·simp only[RelV]
  ·rename_i hc
   simp only[Bool.or_eq_false_iff] at hc
   rw[← gone_eq,hc.1]
   have:mvIdx m 0 mv=none:=free_idx hc.2
   simp only[Bool.false_eq_true,if_false,this,RelV]
   refine ⟨trivial,h2,L,h3,?_⟩
   unfold Qs
   rw[hb m hc.1 hc.2]
   exact h
 |.addr m q,lv,h=>by
  simp only[RelV] at h
  subst h
  rw[TM.callK,callV]
  split
  ·simp only[RelV]
  ·rename_i hc
   simp only[Bool.or_eq_false_iff] at hc
   rw[← gone_eq,hc.1]
   simp only[Bool.false_eq_true,if_false]
   cases hm:mvIdx m 0 mv with
   |none=>simp only[RelV]
   |some i=>
    have hin:inM m mv=true:=by rw[inM_idx (i:=0),hm];rfl
    rw[hin] at hc
    have:q.r=[]:=by simpa using hc.2
    have hl:(pthL q).length=1:=by rw[pthL_len,this];rfl
    simp only[hl,if_true,RelV]
 |.raddr cs,lv,h=>by
  simp only[RelV] at h
  subst h
  simp only[TM.callK,callV,RelV]
 |.agg xs,lv,h=>by
  simp only[RelV] at h
  obtain ⟨vs,rfl,h⟩:=h
  simp only[TM.callK,callV,RelV]
  exact ⟨_,rfl,RelVs.callK hb xs vs h⟩
 |.tup xs,lv,h=>by
  simp only[RelV] at h
  obtain ⟨vs,rfl,h⟩:=h
  simp only[TM.callK,callV,RelV]
  exact ⟨_,rfl,RelVs.callK hb xs vs h⟩
 |.fn g xs,lv,h=>by
  simp only[RelV] at h
  obtain ⟨vs,rfl,h⟩:=h
  simp only[TM.callK,callV,RelV]
  exact ⟨_,rfl,RelVs.callK hb xs vs h⟩
 |.va xs,lv,h=>by
  simp only[RelV] at h
  obtain ⟨vs,rfl,h⟩:=h
  simp only[TM.callK,callV,RelV]
  exact ⟨_,rfl,RelVs.callK hb xs vs h⟩
 |.dead,lv,h=>by simp only[TM.callK,RelV]
theorem RelVs.callK {b b':Nm→Box} {d:Nat} {mv:List (Option Nm)} {args:List Arg} {outs:List (List T)} (hb:∀ n,goneN d n=false→inM n mv=false→(b' n).cells=(b n).cells):∀ (xs:List TV) (vs:List LV),RelVs (Qs b) xs vs→RelVs (Qs b') (callKs d mv xs) (callVs d mv args outs vs)
 |[],vs,h=>by simp only[RelVs] at h;subst h;simp only[callKs,callVs,RelVs]
 |x :: xs,[],h=>by simp only[RelVs] at h
 |x :: xs,v :: vs,h=>by
  simp only[RelVs] at h
  simp only[callKs,callVs,RelVs]
  exact ⟨RelV.callK hb x v h.1,RelVs.callK hb xs vs h.2⟩
end
theorem resTVs_rel {b:Nm→Box} {d:Nat}:∀ (as:List AP) (cs:List Cl) (j:Nat),(as.flatMap AP.cts).length=cs.length→(∀ a∈as,a.isRes=true) →
  (∀ i,(b (d,j+i))=resBox (argsL as (encs cs)) i)→RelVs (Qs b) (resTVs d j as cs) (resLVs d j (argsL as (encs cs)))
 |[],cs,j,_,_,_=>by simp [resTVs,argsL,resLVs,RelVs]
 |a :: as,cs,j,hl,ha,hb=>by
  simp only[resTVs,argsL,resLVs,RelVs]
  have hb0:=hb 0
  have hcts:a.cts.length=a.len:=by cases a<;>rfl
  have hle:a.len≤cs.length:=by
   rw[List.flatMap_cons,List.length_append,hcts] at hl
   omega
  refine ⟨?_,?_⟩
  ·have hbox:(b (d,j)).cells=encs (cs.take a.len):=by
    rw[show j=j+0 from rfl,hb0]
    cases a with
    |one t f=>
     cases cs with
     |nil=>simp [AP.len] at hle
     |cons c cs=>simp [argsL,resBox,AP.arg,Arg.given,AP.len,encs]
    |agg r=>simp [argsL,resBox,AP.arg,Arg.given,AP.len,encs]
    |ptr r=>simp [argsL,resBox,AP.arg,AP.len,encs]
    |own t f=>have:=ha _ (by simp:AP.own t f∈AP.own t f :: as);cases this
    |owns r=>have:=ha _ (by simp:AP.owns r∈AP.owns r :: as);cases this
   cases a with
   |one t f=>
    cases cs with
    |nil=>simp [AP.len] at hle
    |cons c cs=>
     simp only[AP.len,List.take_succ_cons,List.take_zero,encs,List.map_cons,List.map_nil,AP.arg,List.headD_cons,resTV,resOne] at hbox ⊢
     exact seenT_rel (p:=⟨0,[]⟩) (row:=[]) (by rw[hbox];rfl)
   |agg r=>
    simp only[AP.len,AP.arg,resTV,resOne,RelV] at hbox ⊢
    rw[encs_take]
    exact ⟨_,rfl,seensT_rel (p:=⟨0,[]⟩) _ 0 (row:=[]) (by rw[hbox,List.append_nil];rfl)⟩
   |ptr r=>
    simp only[AP.arg,resTV,resOne,RelV]
    rfl
   |own t f=>have:=ha _ (by simp:AP.own t f∈AP.own t f :: as);cases this
   |owns r=>have:=ha _ (by simp:AP.owns r∈AP.owns r :: as);cases this
  ·have:=resTVs_rel (b:=b) (d:=d) as (cs.drop a.len) (j+1) (by
    rw[List.flatMap_cons,List.length_append,hcts] at hl
    rw[List.length_drop]
    omega) (fun x hx=>ha x (by simp [hx])) (fun i=>by
    have:=hb (i+1)
    rw[show j+1+i=j+(i+1) by omega,this]
    simp only[argsL]
    rw[← encs_drop]
    cases a<;>rfl)
   rw[← encs_drop] at this
   exact this
end
end TM
namespace TM
open Go
theorem noFzL_set {c:Nat}:∀ {es:List T},noFzL es→noFzL (es.set c .hole)
 |[],h=>by simpa using h
 |t :: ts,h=>by
  rw[noFzL] at h
  cases c with
  |zero=>rw[List.set_cons_zero,noFzL];exact ⟨by simp only[noFz],h.2⟩
  |succ c=>rw[List.set_cons_succ,noFzL];exact ⟨h.1,noFzL_set h.2⟩
theorem noFzLL_set {i:Nat} {e:List T} (he:noFzL e):∀ {es:List (List T)},noFzLL es→noFzLL (es.set i e)
 |[],h=>by simpa using h
 |t :: ts,h=>by
  rw[noFzLL] at h
  cases i with
  |zero=>rw[List.set_cons_zero,noFzLL];exact ⟨he,h.2⟩
  |succ i=>rw[List.set_cons_succ,noFzLL];exact ⟨h.1,noFzLL_set he h.2⟩
theorem noFzLL_get {i:Nat} {e:List T}:∀ {es:List (List T)},noFzLL es→es[i]?=some e→noFzL e
 |[],_,h=>by simp at h
 |t :: ts,h,hi=>by
  rw[noFzLL] at h
  cases i with
  |zero=>simp at hi;exact hi ▸ h.1
  |succ i=>exact noFzLL_get h.2 (by simpa using hi)
theorem noFzLL_hole {c i:Nat} {es:List (List T)} (h:noFzLL es):noFzLL (holeL c i es):=by
 unfold holeL
 split
 ·rename_i e he
  exact noFzLL_set (noFzL_set (noFzLL_get h he)) h
 ·exact h
mutual
theorem noFz_enc:∀ (t:ST) (f:Fg) (x:V t),f.noFz=true→noFz (encT t f x)
 |.int k,f,x,h=>by simp only[encT,noFz]
 |.bool,f,x,h=>by simp only[encT,noFz]
 |.str,f,x,h=>by simp only[encT,noFz]
 |.hole,f,x,h=>by simp only[encT,noFz]
 |.hs c r,f,x,h=>by
  cases f with
  |sl g fs=>
   simp only[Fg.noFz,Bool.and_eq_true,decide_eq_true_eq] at h
   cases g with
   |own=>
    simp only[encT,noFz]
    refine ⟨by simp,noFzLL_hole ?_⟩
    have:∀ l:List (R r),noFzLL (l.map fun e=>encR r fs e):=by
     intro l
     induction l with
     |nil=>simp only[List.map_nil,noFzLL]
     |cons e l ih=>
      simp only[List.map_cons,noFzLL]
      exact ⟨noFzs_enc r fs e h.2,ih⟩
    exact this _
   |_=>simp only[encT,noFz]
  |_=>simp only[encT,noFz]
 |.sl r,f,x,h=>by
  cases f with
  |sl g fs=>
   simp only[Fg.noFz,Bool.and_eq_true,decide_eq_true_eq] at h
   simp only[encT,noFz]
   refine ⟨h.1,?_⟩
   have:∀ l:List (R r),noFzLL (l.map fun e=>encR r fs e):=by
    intro l
    induction l with
    |nil=>simp only[List.map_nil,noFzLL]
    |cons e l ih=>
     simp only[List.map_cons,noFzLL]
     exact ⟨noFzs_enc r fs e h.2,ih⟩
   exact this _
  |_=>simp [encT,noFz,noFzLL]
 |.pt r,f,x,h=>by
  cases f with
  |pt g fs=>
   simp only[Fg.noFz,Bool.and_eq_true,decide_eq_true_eq] at h
   simp only[encT,noFz]
   exact ⟨h.1,noFzs_enc r fs x h.2⟩
  |_=>simp only[encT,noFz]
 |.fn g r,f,x,h=>by
  cases f with
  |fn fs=>
   simp only[Fg.noFz] at h
   simp only[encT,noFz]
   exact noFzs_enc r fs x h
  |_=>simp only[encT,noFz]
theorem noFzs_enc:∀ (r:List ST) (fs:List Fg) (x:R r),Fg.noFzs fs=true→noFzL (encR r fs x)
 |[],fs,x,h=>by simp only[encR,noFzL]
 |t :: r,[],x,h=>by simp only[encR,noFzL]
 |t :: r,f :: fs,x,h=>by
  simp only[Fg.noFzs,Bool.and_eq_true] at h
  simp only[encR,noFzL]
  exact ⟨noFz_enc t f _ h.1,noFzs_enc r fs _ h.2⟩
end
theorem noFz_cells:∀ (cs:List Cl),Fg.noFzs (cs.map (·.f))=true→noFzL (encs cs)
 |[],_=>by simp [encs,noFzL]
 |c :: cs,h=>by
  simp only[List.map_cons,Fg.noFzs,Bool.and_eq_true] at h
  have:=noFz_cells cs h.2
  simp only[encs,List.map_cons,noFzL] at this ⊢
  exact ⟨noFz_enc c.t c.f c.x h.1,this⟩
theorem noFzL_iff:∀ {ts:List T},noFzL ts↔∀ t∈ts,noFz t
 |[]=>by simp [noFzL]
 |t :: ts=>by simp [noFzL,noFzL_iff (ts:=ts)]
section
variable {ρ:Type} {N:Nat} {vs vs':VS} {st:St} {y:ρ}
theorem lookB_append:∀ (a b:List (Nm×VB)) (n:Nm),lookB (a++b) n=match lookB a n with | some x=>some x | none=>lookB b n
 |[],b,n=>rfl
 |(m,v) :: a,b,n=>by
  simp only[List.cons_append,lookB]
  cases nmEq m n with
  |true=>rfl
  |false=>exact lookB_append a b n
theorem lookB_drop {d:Nat}:∀ (l:List (Nm×VB)) (n:Nm) (x:VB),lookB (dropB d l) n=some x→goneN d n=false∧lookB l n=some x
 |[],n,x,h=>by cases h
 |(m,v) :: l,n,x,h=>by
  simp only[dropB] at h
  cases hg:goneN d m with
  |true=>
   rw[hg] at h
   obtain ⟨h1,h2⟩:=lookB_drop l n x h
   refine ⟨h1,?_⟩
   simp only[lookB]
   have:nmEq m n=false:=by
    cases hh:nmEq m n with
    |false=>rfl
    |true=>rw[nm_eq.1 hh,h1] at hg;cases hg
   rw[this]
   exact h2
  |false=>
   rw[hg] at h
   simp only[lookB] at h ⊢
   cases hh:nmEq m n with
   |true=>rw[hh] at h;rw[nm_eq.1 hh] at hg;exact ⟨hg,h⟩
   |false=>rw[hh] at h;exact lookB_drop l n x h
theorem lookB_res {d:Nat}:∀ (as:List AP) (cs:List Cl) (j:Nat) (n:Nm) (x:VB),(as.flatMap AP.cts).length=cs.length→(∀ a∈as,a.isRes=true)→lookB (resBs d j as cs) n=some x →
  ∃ i,n=(d,j+i)∧(resBox (argsL as (encs cs)) i).real=x.real∧(resBox (argsL as (encs cs)) i).cells=encs x.cells
 |[],cs,j,n,x,_,_,h=>by cases h
 |a :: as,cs,j,n,x,hl,ha,h=>by
  simp only[resBs,lookB] at h
  have hcts:a.cts.length=a.len:=by cases a<;>rfl
  have hle:a.len≤cs.length:=by
   rw[List.flatMap_cons,List.length_append,hcts] at hl
   omega
  cases hn:nmEq (d,j) n with
  |true=>
   rw[hn] at h
   cases h
   refine ⟨0,(nm_eq.1 hn).symm,?_⟩
   cases a with
   |one t f=>
    cases cs with
    |nil=>simp [AP.len] at hle
    |cons c cs=>simp [argsL,resBox,AP.arg,Arg.given,AP.len,encs,AP.isPtr]
   |agg r=>simp [argsL,resBox,AP.arg,Arg.given,AP.len,encs,AP.isPtr]
   |ptr r=>simp [argsL,resBox,AP.arg,AP.len,encs,AP.isPtr]
   |own t f=>have:=ha _ (by simp:AP.own t f∈AP.own t f :: as);cases this
   |owns r=>have:=ha _ (by simp:AP.owns r∈AP.owns r :: as);cases this
  |false=>
   rw[hn] at h
   obtain ⟨i,h1,h2,h3⟩:=lookB_res as (cs.drop a.len) (j+1) n x (by
    rw[List.flatMap_cons,List.length_append,hcts] at hl
    rw[List.length_drop]
    omega) (fun x hx=>ha x (by simp [hx])) h
   refine ⟨i+1,by rw[h1,show j+(i+1)=j+1+i by omega],?_⟩
   have e:resBox (argsL (a :: as) (encs cs)) (i+1)=resBox (argsL as (encs (cs.drop a.len))) i:=by
    simp only[argsL]
    rw[← encs_drop]
    cases a<;>rfl
   rw[e]
   exact ⟨h2,h3⟩
theorem mvIdx_shift {n:Nm}:∀ (mv:List (Option Nm)) (i:Nat),mvIdx n (i+1) mv=(mvIdx n i mv).map (·+1)
 |[],i=>rfl
 |none :: mv,i=>by simp only[mvIdx];exact mvIdx_shift mv (i+1)
 |some m :: mv,i=>by
  simp only[mvIdx]
  split
  ·rfl
  ·exact mvIdx_shift mv (i+1)
theorem nodup_ok:∀ {mv:List (Option Nm)},nodupM mv=true→mvOK mv
 |[],_=>trivial
 |none :: mv,h=>by simp only[nodupM] at h;simp only[mvOK];exact nodup_ok h
 |some n :: mv,h=>by
  simp only[nodupM,Bool.and_eq_true] at h
  simp only[mvOK]
  refine ⟨free_idx ?_,nodup_ok h.2⟩
  have key:∀ l:List (Option Nm),nodupM.go n l=true→inM n l=false:=by
   intro l
   induction l with
   |nil=>intro _;rfl
   |cons o l ih=>
    intro h
    cases o with
    |none=>exact ih h
    |some m=>
     simp only[nodupM.go,Bool.and_eq_true,Bool.not_eq_true'] at h
     simp only[inM,Bool.or_eq_false_iff]
     exact ⟨h.1,ih h.2⟩
  exact key mv h.1
theorem backB_spec:∀ (mv:List (Option Nm)) (os:List (List (ST×Fg))) (cs:List Cl) (l:List (Nm×VB)) (n:Nm) (x:VB),mvOK mv→mv.length=os.length→lookB (backB mv os cs l) n=some x →
  (mvIdx n 0 mv=none∧lookB l n=some x)∨(∃ i z,mvIdx n 0 mv=some i∧lookB l n=some z∧x.real=z.real∧encs x.cells=(outsL os (encs cs)).getD i [])
 |[],os,cs,l,n,x,_,hl,h=>by
  cases os with
  |nil=>exact .inl ⟨rfl,h⟩
  |cons _ _=>simp at hl
 |o :: mv,[],cs,l,n,x,_,hl,h=>by simp at hl
 |none :: mv,o :: os,cs,l,n,x,hm,hl,h=>by
  simp only[backB] at h
  simp only[mvOK] at hm
  rcases backB_spec mv os _ l n x hm (by simpa using hl) h with ⟨h1,h2⟩ | ⟨i,z,h1,h2,h3,h4⟩
  ·left
   exact ⟨by simp only[mvIdx];rw[show (0+1)=0+1 from rfl,mvIdx_shift,h1];rfl,h2⟩
  ·right
   refine ⟨i+1,z,by simp only[mvIdx];rw[mvIdx_shift,h1];rfl,h2,h3,?_⟩
   rw[h4]
   simp only[outsL,encs_drop,List.getD_cons_succ]
 |some m :: mv,o :: os,cs,l,n,x,hm,hl,h=>by
  simp only[backB] at h
  simp only[mvOK] at hm
  have hl':mv.length=os.length:=by simpa using hl
  by_cases hmn:m=n
  ·subst hmn
   rcases backB_spec mv os _ _ m x hm.2 hl' h with ⟨h1,h2⟩ | ⟨i,z,h1,h2,h3,h4⟩
   ·cases hlk:lookB l m with
    |none=>rw[hlk] at h2;simp only at h2;rw[hlk] at h2;cases h2
    |some z=>
     rw[hlk] at h2
     simp only[lookB,nm_eq.2 rfl] at h2
     cases h2
     right
     refine ⟨0,z,by simp [mvIdx],rfl,rfl,?_⟩
     simp only[outsL,List.getD_cons_zero,encs_take]
   ·rw[hm.1] at h1
    cases h1
  ·have hne:nmEq m n=false:=by
    cases hh:nmEq m n with
    |false=>rfl
    |true=>exact absurd (nm_eq.1 hh) hmn
   have hlk:lookB (match lookB l m with
    |some x=>(m,⟨x.real,cs.take o.length⟩) :: l
    |none=>l) n=lookB l n:=by
    cases lookB l m with
    |none=>rfl
    |some z=>simp only[lookB,hne]
   rcases backB_spec mv os _ _ n x hm.2 hl' h with ⟨h1,h2⟩ | ⟨i,z,h1,h2,h3,h4⟩
   ·left
    exact ⟨by simp only[mvIdx];rw[if_neg hmn,mvIdx_shift,h1];rfl,hlk.symm.trans h2⟩
   ·right
    refine ⟨i+1,z,by simp only[mvIdx];rw[if_neg hmn,mvIdx_shift,h1];rfl,hlk.symm.trans h2,h3,?_⟩
    rw[h4]
    simp only[outsL,encs_drop,List.getD_cons_succ]
theorem allRes_mem:∀ {as:List AP},allRes as=true→∀ a∈as,a.isRes=true
 |[],_,a,h=>by simp at h
 |x :: as,h,a,ha=>by
  simp only[allRes,Bool.and_eq_true] at h
  rcases List.mem_cons.1 ha with rfl | ha
  ·exact h.1
  ·exact allRes_mem h.2 a ha
theorem tup_rel {Q:Nm→Pth→Nat→Prop} {xs:List TV} {us:List LV} (h:RelVs Q xs us):RelV Q (tupT xs) (tupLV us):=by
 cases xs with
 |nil=>simp only[RelVs] at h;subst h;simp only[tupT,tupLV,RelV];exact ⟨[],rfl,by simp only[RelVs]⟩
 |cons x xs=>
  cases us with
  |nil=>simp only[RelVs] at h
  |cons u us=>
   have h':=h
   simp only[RelVs] at h
   cases xs with
   |nil=>
    have:us=[]:=by have:=h.2;simp only[RelVs] at this;exact this
    subst this
    exact h.1
   |cons x2 xs=>
    cases us with
    |nil=>have:=h.2;simp only[RelVs] at this
    |cons u2 us=>simp only[tupT,tupLV,RelV];exact ⟨_,rfl,h'⟩
def Lb.outsT (l:Lb) (cs:List Cl):List (List T):=outsL l.outs (encs (cs.take (outLen l)))
def Lb.resT (l:Lb) (cs:List Cl):List Arg:=argsL l.res (encs (cs.drop (outLen l)))
theorem afterT_rel {l:Lb} {d:Nat} {mv:List (Option Nm)} {cs:List Cl} {args:List Arg} (R:Rel vs st) (hcs:cs.length=l.outT.length) (hm:mvOK mv) (hl:l.outs.length=mv.length) (hr:allRes l.res=true) :
  Rel (afterT l d mv cs vs) (afterCall st d mv args (l.outsT cs) (l.resT cs)):=by
 have hlen:(l.res.flatMap AP.cts).length=(cs.drop (outLen l)).length:=by
  rw[List.length_drop,hcs]
  unfold Lb.outT outLen
  rw[List.length_append]
  omega
 refine ⟨fun t=>?_,fun n x hx=>?_⟩
 ·by_cases ht:t=d
  ·subst ht
   have e:lookS (afterT l t mv cs vs).s t=tupT (resTVs t 2 l.res (cs.drop (outLen l))):=by
    simp only[afterT,lookS]
    rw[show Nat.beq t t=true from Nat.beq_refl t]
   rw[e]
   simp only[afterCall,if_true,resLV]
   refine tup_rel (resTVs_rel _ _ _ hlen (allRes_mem hr) fun i=>?_)
   have hg:gone t (t,2+i)=true:=by simp [gone]
   rw[if_pos hg]
   simp only[Lb.resT]
   rw[show 2+i-2=i by omega]
  ·have hbt:Nat.beq d t=false:=by
    cases hb:Nat.beq d t with
    |false=>rfl
    |true=>exact absurd (Nat.eq_of_beq_eq_true hb).symm ht
   have e:lookS (afterT l d mv cs vs).s t=callK d mv (lookS vs.s t):=by
    simp only[afterT,lookS,hbt]
    exact look_killS _ (by simp [callK]) _ _
   rw[e]
   simp only[afterCall,if_neg ht]
   refine RelV.callK (fun n hg hn=>?_) _ _ (R.s t)
   rw[gone_eq] at hg
   rw[if_neg (by rw[hg];simp),free_idx hn]
 ·simp only[afterT] at hx
  rw[lookB_append] at hx
  simp only[afterCall]
  cases h1:lookB (resBs d 2 l.res (cs.drop (outLen l))) n with
  |some z=>
   rw[h1] at hx
   cases hx
   obtain ⟨i,rfl,h2,h3⟩:=lookB_res _ _ _ _ _ hlen (allRes_mem hr) h1
   have hg:gone d (d,2+i)=true:=by simp [gone]
   rw[if_pos hg,show 2+i-2=i by omega]
   exact ⟨h2,h3⟩
  |none=>
   rw[h1] at hx
   obtain ⟨h2,h3⟩:=lookB_drop _ _ _ hx
   rw[gone_eq] at h2
   rw[if_neg (by rw[h2];simp)]
   rcases backB_spec _ _ _ _ _ _ hm hl.symm h3 with ⟨h4,h5⟩ | ⟨i,z,h4,h5,h6,h7⟩
   ·rw[h4]
    exact R.b n x h5
   ·rw[h4]
    refine ⟨by rw[h6];exact (R.b n z h5).1,?_⟩
    exact h7.symm
end
end TM
namespace TM
open Go
def stk (body:Code):List Nat→List It
 |[]=>[]
 |i :: q=>match codeAt body q.reverse with
  |some (.seq _ z)=>if i=0 then .c z :: stk body q else stk body q
  |some (.block id _)=>.blk id :: stk body q
  |some (.loop x)=>.lp x :: stk body q
  |_=>stk body q
def Lb.cells (l:Lb) (z:R l.outS):List Cl:=ofRow l.outT z
def J (P:Program) (l:Lb) (x:R l.inS) (z:R l.outS):Prop:=match l.q with
 |none=>Fun P l.f (argsL l.args (encs (ofRow l.inT x))) (l.outsT (l.cells z)) (l.resT (l.cells z))
 |some q=>∀ (C:Ctx) (fn:Func) (c node:Code) (st:St),P.funcs[l.f]?=some fn→fn.body=some c→codeAt c q.reverse=some node→C.P=P→C.N=fn.ntmps →
   Rel (l.start x) st→Good C l.f (Post C (l.outsT (l.cells z)) (l.resT (l.cells z))) (.c node :: stk c q) st
def Right (P:Program) (rec:Rec):Prop:=∀ l x z,rec l x=some z→J P l x z
section
variable {ρ:Type} {N:Nat} {vs vs':VS} {st:St} {y:ρ}
theorem evT_rd {x:Operand} {k:TV→Co ρ} (h:evT x k vs=some y) (R:Rel vs st) :
  ∃ v lv vs' l,k v vs'=some y∧RelV (Qs st.b) v lv∧Rd N st vs vs' l∧∀ st',fitsT N l st'→st'.ev x=some lv:=by
 cases x with
 |tmp t=>exact ⟨_,st.s t,_,[.rS t (st.s t)],h,R.s t,⟨⟨rfl,rfl⟩,⟨rfl,trivial⟩,by simp [isRead],.one (f:=.rS t (lookS vs.s t)) ⟨rfl,(R.s t).t⟩⟩,fun st' hf=>by have:st'.s t=st.s t:=hf.1;simp only[St.ev,this]⟩
 |const v=>exact ⟨_,_,_,[],h,rel_const v,.nil,fun _ _=>rfl⟩
 |func f=>exact ⟨.fn f [],.fn (.func f) [],vs,[],h,(show RelV (Qs st.b) (.fn f []) (.fn (.func f) []) from by simp [RelV,RelVs]),.nil,fun _ _=>rfl⟩
 |global g=>cases h
theorem evTs_rd:∀ {xs:List Operand} {vs:VS} {k:List TV→Co ρ},evTs xs k vs=some y→Rel vs st →
  ∃ v lv vs' l,k v vs'=some y∧RelVs (Qs st.b) v lv∧Rd N st vs vs' l∧∀ st',fitsT N l st'→st'.evL xs=some lv
 |[],vs,k,h,R=>⟨[],[],vs,[],h,by simp [RelVs],.nil,fun _ _=>rfl⟩
 |x :: xs,vs,k,h,R=>by
  obtain ⟨v,lv,vs1,l1,h,hv,g1,k1⟩:=evT_rd (N:=N) h R
  obtain ⟨us,lus,vs2,l2,h,hu,g2,k2⟩:=evTs_rd h (g1.rel R)
  refine ⟨_,lv :: lus,_,_,h,by simp only[RelVs];exact ⟨hv,hu⟩,g1.trans g2,fun st' hf=>?_⟩
  obtain ⟨q1,q2⟩:=(fits_reads g1.rd).1 hf
  simp only[St.evL,k1 st' q1,k2 st' q2]
theorem pickA_some {g:Nat} {bs:List (Nm×VB)} {us:List TV}:∀ {ls:List Lb} {l:Lb},pickA g bs us ls=some l→l.q=none∧l.f=g
 |[],_,h=>by cases h
 |l0 :: ls,l,h=>by
  simp only[pickA] at h
  split at h
  ·rename_i hc
   cases h
   simp only[Bool.and_eq_true] at hc
   refine ⟨?_,Nat.eq_of_beq_eq_true hc.2.1⟩
   have:=hc.1
   unfold isEntry at this
   cases hq:l0.q with
   |none=>rfl
   |some q=>rw[hq] at this;cases this
  ·exact pickA_some h
theorem resT_noFz {l:Lb} {cs:List Cl} (h:noFzR l=true) (hcs:cs.map (fun c=>(c.t,c.f))=l.outT):backOK true (l.outsT cs) (l.resT cs):=by
 intro _
 have hall:Fg.noFzs (cs.map (·.f))=true:=by
  have:cs.map (·.f)=l.outT.map (·.2):=by rw[← hcs];simp
  rw[this]
  exact h
 have hc:=noFzL_iff.1 (noFz_cells cs hall)
 have sub:∀ ts:List T,(∀ t∈ts,t∈encs cs)→noFzL ts:=fun ts ht=>noFzL_iff.2 fun t h=>hc t (ht t h)
 constructor
 ·-- the results
  have key:∀ (as:List AP) (ts:List T),(∀ t∈ts,t∈encs cs)→∀ r∈argsL as ts,noFzL r.given:=by
   intro as
   induction as with
   |nil=>intro ts _ r hr;simp [argsL] at hr
   |cons a as ih=>
    intro ts hts r hr
    simp only[argsL,List.mem_cons] at hr
    rcases hr with rfl | hr
    ·have htk:∀ t∈ts.take a.len,t∈encs cs:=fun t ht=>hts t (List.mem_of_mem_take ht)
     cases a with
     |one t f=>
      simp only[AP.arg,Arg.given,noFzL,and_true]
      cases ts with
      |nil=>simp [noFz]
      |cons t0 ts=>exact hc t0 (hts t0 (by simp))
     |agg r=>exact sub _ htk
     |ptr r=>simp only[AP.arg,Arg.given,noFzL,noFz,and_true];exact ⟨by simp,sub _ htk⟩
     |own t f=>simp [AP.arg,Arg.given,noFzL]
     |owns r=>simp [AP.arg,Arg.given,noFzL]
    ·exact ih _ (fun t ht=>hts t (List.mem_of_mem_drop ht)) r hr
  exact key l.res _ fun t ht=>by
   rw[← encs_drop] at ht
   exact List.mem_of_mem_drop ht
 ·have key:∀ (os:List (List (ST×Fg))) (ts:List T),(∀ t∈ts,t∈encs cs)→∀ o∈outsL os ts,noFzL o:=by
   intro os
   induction os with
   |nil=>intro ts _ o ho;simp [outsL] at ho
   |cons x os ih=>
    intro ts hts o ho
    simp only[outsL,List.mem_cons] at ho
    rcases ho with rfl | ho
    ·exact sub _ fun t ht=>hts t (List.mem_of_mem_take ht)
    ·exact ih _ (fun t ht=>hts t (List.mem_of_mem_drop ht)) o ho
  exact key l.outs _ fun t ht=>by
   rw[← encs_take] at ht
   exact List.mem_of_mem_take ht
structure CallOK (P:Program) (N:Nat) (vs:VS) (st:St) (dr:Bool) (o:Oper) (vs':VS) (f:FuncId) (lvs:List LV) (d:Nat) (args res:List Arg) (outs:List (List T)) (mv:List (Option Nm)) (lent:Bool) (reads:List Ac):Prop where
 hd:d<N
 hfn:Fun P f args outs res
 hmv:mvOK mv
 len:outs.length=mv.length
 back:backOK lent outs res
 rel:Rel vs' (afterCall st d mv args outs res)
 fits:fitsT N reads st
 rd:∀ x∈reads,isRead x
 ok:∀ st',fitsT N reads st'→callOf st' o=some (f,lvs,d)∧argsOK st' mv lent mv lvs args
 free:dr=true→∀ (i:Nat) (n:Nm),mv[i]?=some (some n)→gone d n=false
 cov:dr=true→Covers (callT reads d mv outs res) vs.lg vs'.lg
theorem outsL_len:∀ (os:List (List (ST×Fg))) (ts:List T),(outsL os ts).length=os.length
 |[],_=>rfl
 |o :: os,ts=>by simp [outsL,outsL_len os]
theorem notG_spec {d:Nat}:∀ {mv:List (Option Nm)},notG d mv=true→∀ (i:Nat) (n:Nm),mv[i]?=some (some n)→gone d n=false
 |[],_,i,n,h=>by simp at h
 |none :: mv,hm,i,n,h=>by
  cases i with
  |zero=>simp at h
  |succ i=>exact notG_spec (mv:=mv) hm i n (by simpa using h)
 |some m :: mv,hm,i,n,h=>by
  simp only[notG,Bool.and_eq_true,Bool.not_eq_true'] at hm
  cases i with
  |zero=>simp at h;subst h;rw[← gone_eq];exact hm.1
  |succ i=>exact notG_spec hm.2 i n (by simpa using h)
theorem mvTs_cov {outs:List (List T)}:∀ (mv:List (Option Nm)) (i:Nat),∀ a∈mvTs outs i mv,∃ f∈mvF mv,Cov f a
 |[],i,a,h=>by simp [mvTs] at h
 |none :: mv,i,a,h=>mvTs_cov mv (i+1) a h
 |some n :: mv,i,a,h=>by
  simp only[mvTs,List.mem_cons] at h
  rcases h with rfl | rfl | h
  ·exact ⟨.km n,by simp [mvF],rfl⟩
  ·exact ⟨.wB n,by simp [mvF],rfl⟩
  ·obtain ⟨f,h1,h2⟩:=mvTs_cov mv (i+1) a h
   exact ⟨f,by simp [mvF,h1],h2⟩
theorem wBs_cov {d:Nat}:∀ (as:List AP) (ts:List T) (j:Nat),∀ a∈wBs d j (argsL as ts),∃ f∈wBs? d j as,Cov f a
 |[],ts,j,a,h=>by simp [argsL,wBs] at h
 |x :: as,ts,j,a,h=>by
  simp only[argsL,wBs,List.mem_cons] at h
  rcases h with rfl | h
  ·exact ⟨.wB (d,j),by simp [wBs?],rfl⟩
  ·obtain ⟨f,h1,h2⟩:=wBs_cov as _ (j+1) a h
   exact ⟨f,by simp [wBs?,h1],h2⟩
theorem callC_ref {E:En} {rec:Rec} {dr:Bool} {o:Oper} {k:Co ρ} (hJ:Right E.P rec) (h:callC E rec dr o k vs=some y) (R:Rel vs st) :
  ∃ vs' f lvs d args res outs mv lent reads,k vs'=some y∧CallOK E.P E.N vs st dr o vs' f lvs d args res outs mv lent reads:=by
 unfold callC at h
 cases hop:o.op with
 |call c=>
  cases hd:o.dst with
  |none=>rw[hop,hd] at h;cases h
  |some d=>
   rw[hop,hd] at h
   simp only at h
   cases hcal:c.callee with
   |value fo=>
    rw[hcal] at h
    simp only at h
    obtain ⟨fv,lf,vs1,l1,h,hfv,g1,k1⟩:=evT_rd (N:=E.N) h R
    obtain ⟨us,lus,vs2,l2,h,hus,g2,k2⟩:=evTs_rd (N:=E.N) h (g1.rel R)
    cases fv with
    |fn g caps=>
     simp only[RelV] at hfv
     obtain ⟨lcaps,rfl,hcaps⟩:=hfv
     simp only at h
     cases hp:pickA g vs2.b (us++caps) (E.tb g) with
     |none=>rw[hp] at h;cases h
     |some l=>
      rw[hp] at h
      simp only at h
      obtain ⟨hq,hlf⟩:=pickA_some hp
      obtain ⟨cs,mv,vs3,l3,h,g3,k3,k4⟩:=argsT_ref (N:=E.N) h (g2.rel (g1.rel R)) (hus.append hcaps)
      cases hc:(Nat.blt d E.N&&(nodupM mv&&(freeA mv (us++caps) l.args&&(Nat.beq l.outs.length mv.length&&allRes l.res&&(!dr || notG d mv)&&(noFzR l || !lendsA? (us++caps) l.args))))) with
      |false=>rw[hc] at h;cases h
      |true=>
       rw[hc] at h
       simp only[Bool.and_eq_true] at hc
       obtain ⟨c1,c2,c3,⟨⟨c4,c5⟩,c6⟩,c7⟩:=hc
       simp only at h
       obtain ⟨x,h,hx⟩:=toRow_some h
       unfold call_ at h
       cases hz:rec l x with
       |none=>rw[hz] at h;cases h
       |some z=>
        rw[hz] at h
        simp only[Option.bind_some] at h
        have hj:=hJ l x z hz
        unfold J at hj
        rw[hq] at hj
        simp only at hj
        rw[hx,hlf] at hj
        have hmv:=nodup_ok c2
        have hlen:=Nat.eq_of_beq_eq_true c4
        have hall:=g1.trans (g2.trans g3)
        have hlent:∃ lent:Bool,(lendsA? (us++caps) l.args=true→lent=true)∧backOK lent (l.outsT (ofRow l.outT z)) (l.resT (ofRow l.outT z)):=by
         cases hn:noFzR l with
         |true=>exact ⟨true,fun _=>rfl,resT_noFz hn (ofRow_cts _ _)⟩
         |false=>
          rw[hn] at c7
          refine ⟨false,fun hh=>?_,fun hh=>by cases hh⟩
          rw[hh] at c7
          cases c7
        obtain ⟨lent,hl1,hl2⟩:=hlent
        have hrel:Rel (afterT l d mv (ofRow l.outT z) vs3) (afterCall st d mv (argsL l.args (encs cs)) (l.outsT (ofRow l.outT z)) (l.resT (ofRow l.outT z))):=by
         refine afterT_rel (hall.rel R) ?_ hmv hlen c5
         have:=congrArg List.length (ofRow_cts l.outT z)
         simpa using this
        refine ⟨_,g,lus++lcaps,d,argsL l.args (encs cs),l.resT (ofRow l.outT z),l.outsT (ofRow l.outT z),mv,lent,l1++(l2++l3),h,?_⟩
        refine ⟨by simpa using c1,hj,hmv,?_,hl2,hrel,hall.fits,hall.rd,fun st' hf=>?_,fun hdr=>?_,fun hdr=>?_⟩
        ·rw[← hlen]
         exact outsL_len _ _
        ·obtain ⟨q1,q2⟩:=(fits_reads g1.rd).1 hf
         obtain ⟨q2,q3⟩:=(fits_reads g2.rd).1 q2
         refine ⟨?_,k4 mv lent hl1 c3 st' q3⟩
         unfold callOf
         rw[hop,hd]
         simp only[hcal,k1 st' q1,k2 st' q2]
        ·rw[hdr] at c6
         exact notG_spec (by simpa using c6)
        ·have hcov:=hall.cov
         unfold callT
         refine hcov.trans ?_
         refine ⟨.wS d (tupT (resTVs d 2 l.res ((ofRow l.outT z).drop (outLen l)))) :: (wBs? d 2 l.res++(mvF mv++[.gn d])),by simp [afterT],fun a ha=>?_⟩
         simp only[List.mem_cons,List.mem_append,List.not_mem_nil,or_false] at ha
         rcases ha with rfl | ha | ha | rfl
         ·exact ⟨.gn d,by simp,rfl⟩
         ·obtain ⟨f,h1,h2⟩:=mvTs_cov _ _ a ha
          exact ⟨f,by simp [h1],h2⟩
         ·obtain ⟨f,h1,h2⟩:=wBs_cov _ _ _ a ha
          exact ⟨f,by simp [h1],h2⟩
         ·refine ⟨_,List.mem_cons_self,rfl,?_⟩
          have:=(hrel.s d).t
          simp only[afterT,lookS,Nat.beq_refl,afterCall,if_true] at this
          exact this
    |_=>cases h
   |_=>rw[hcal] at h;cases h
 |_=>rw[hop] at h;cases h
end
end TM
namespace TM
open Go
section
variable {C:Ctx} {f:FuncId} {Q:Value→World→Prop} {K:List It} {st:St}
theorem good_skip (h:Good C f Q K st):Good C f Q (.c .skip :: K) st:=fun G a w s=>(h G a w s).step fun _ _ _=>step_skip
theorem good_seq {x z:Code} (h:Good C f Q (.c x :: .c z :: K) st):Good C f Q (.c (.seq x z) :: K) st:=fun G a w s=>(h G a w s).step fun _ _ _=>step_seq
theorem good_block {id:Nat} {x:Code} (h:Good C f Q (.c x :: .blk id :: K) st):Good C f Q (.c (.block id x) :: K) st:=fun G a w s=>(h G a w s).step fun _ _ _=>step_block
theorem good_blk {id:Nat} (h:Good C f Q K st):Good C f Q (.blk id :: K) st:=fun G a w s=>(h G a w s).step fun _ _ _=>step_inBlock
theorem good_exit {id:Nat} {K':List It} (he:exits id K=some K') (h:Good C f Q K' st):Good C f Q (.c (.exit id) :: K) st:=fun G a w s=>(h G a w s).step fun _ _ _=>step_exit (exits_item he).1
theorem good_cond {t:Nat} {b:Bool} {x z:Code} (hb:st.s t=.t (.v (.bool b))) (h:Good C f Q (.c (if b=true then x else z) :: K) st):Good C f Q (.c (.cond (.tmp t) x z) :: K) st:=by
 intro G a w s
 have hev:a.eval (.tmp t)=.bool b:=by
  have:=s.slot t
  rw[hb] at this
  exact RepV_v this
 cases b with
 |true=>exact (h G a w s).step fun _ _ _=>step_cond hev
 |false=>exact (h G a w s).step fun _ _ _=>step_cond hev
theorem good_condc {b:Bool} {x z:Code} (h:Good C f Q (.c (if b=true then x else z) :: K) st):Good C f Q (.c (.cond (.const (.bool b)) x z) :: K) st:=by
 intro G a w s
 have hev:a.eval (.const (.bool b))=.bool b:=rfl
 cases b with
 |true=>exact (h G a w s).step fun _ _ _=>step_cond hev
 |false=>exact (h G a w s).step fun _ _ _=>step_cond hev
theorem good_region {i:Nat} {ops:Array Oper} (h:Good C f Q (.ops ops ops.toList :: K) st):Good C f Q (.c (.region i ops false) :: K) st:=by
 refine fun G a w s=>(h G a w s).step fun b cs _=>?_
 rw[List.map_cons,List.map_cons]
 have e:(It.ops ops ops.toList).item=.inRegion ops (List.range ops.size):=by simp [It.item]
 rw[e]
 exact step_region
theorem good_ops_nil {all:Array Oper} (h:Good C f Q K st):Good C f Q (.ops all [] :: K) st:=by
 refine fun G a w s=>(h G a w s).step fun b cs _=>?_
 have e:(It.ops all []).item=.inRegion all []:=by simp [It.item]
 rw[List.map_cons,e]
 exact step_region_end
theorem wanted_of {all:Array Oper} {o:Oper} {G:Gh} {a:Act} {w:World} (hg:guardOK st all o) (s:Sim C G st [] a w):Region.wanted o (yielded all a.tmps)=true:=by
 unfold Region.wanted
 unfold guardOK guardOf at hg
 cases hgd:o.guard with
 |none=>rfl
 |some jw=>
  obtain ⟨j,want⟩:=jw
  rw[hgd] at hg
  simp only at hg ⊢
  cases hj:(all[j]?).bind (·.dst) with
  |none=>rw[hj] at hg;exact hg.elim
  |some d'=>
   rw[hj] at hg
   rw[s.yields hj hg]
   simp
theorem good_op {all:Array Oper} {o:Oper} {rest:List Oper} {st':St} (hw:WF (.ops all (o :: rest))) (hg:guardOK st all o) (hop:(opM C.P o).run C.N st=some ((),st')) (h:Good C f Q (.ops all rest :: K) st') :
  Good C f Q (.ops all (o :: rest) :: K) st:=by
 obtain ⟨pre,hpre⟩:=hw
 obtain ⟨hidx,ho⟩:=idx_cons hpre
 have hitem:(It.ops all (o :: rest)).item=.inRegion all (pre.length :: (List.range all.size).drop (all.size-rest.length)):=by rw[It.item,hidx]
 intro G a w s
 obtain ⟨G',w',v,hx,s'⟩:=op_all s hop
 refine (h G' _ w' s').step fun b cs _=>?_
 rw[List.map_cons,List.map_cons,hitem]
 exact step_op ho (wanted_of hg s) hx
theorem good_op_skip {all:Array Oper} {o:Oper} {rest:List Oper} {st':St} {d:Nat} {w0:Bool} (hw:WF (.ops all (o :: rest))) (hg:guardOf all o=some (some d,w0)) (hb:st.s d=.t (.v (.bool (!w0)))∨st.s d=.tup []) (hop:(out o.dst (.tup [])).run C.N st=some ((),st'))
  (h:Good C f Q (.ops all rest :: K) st'):Good C f Q (.ops all (o :: rest) :: K) st:=by
 obtain ⟨pre,hpre⟩:=hw
 obtain ⟨hidx,ho⟩:=idx_cons hpre
 have hitem:(It.ops all (o :: rest)).item=.inRegion all (pre.length :: (List.range all.size).drop (all.size-rest.length)):=by rw[It.item,hidx]
 intro G a w s
 refine (h G _ w (s.undef2 hop)).step fun b cs _=>?_
 rw[List.map_cons,List.map_cons,hitem]
 have hgd:∃ j,o.guard=some (j,w0)∧(all[j]?).bind (·.dst)=some d:=by
  unfold guardOf at hg
  cases hh:o.guard with
  |none=>rw[hh] at hg;cases hg
  |some jw=>obtain ⟨j,w1⟩:=jw;rw[hh] at hg;simp only[Option.some.injEq,Prod.mk.injEq] at hg;exact ⟨j,by rw[hg.2],hg.1⟩
 obtain ⟨j,hgj,hdj⟩:=hgd
 have:=step_op_skip (P:=C.P) (b:=b) (a:=a) (k:=K.map It.item) (cs:=cs) (w:=w) (ops:=all) (i:=pre.length) (rest:=(List.range all.size).drop (all.size-rest.length)) (by
  rw[ho]
  simp only[Option.map_some,Option.getD_some]
  unfold Region.wanted
  rw[hgj]
  simp only
  rcases hb with hb | hb
  ·rw[s.yields hdj hb]
   cases w0<;>rfl
  ·rw[s.unyields hdj hb]
   rfl)
 rw[ho] at this
 exact this
end
end TM
namespace TM
open Go
section
variable {C:Ctx} {f:FuncId} {Q:Value→World→Prop} {K:List It} {st:St}
theorem good_op_bool {all:Array Oper} {o:Oper} {rest:List Oper} {d:Nat} {B:Bool→Prop} (hw:WF (.ops all (o :: rest))) (hg:guardOK st all o) (hd:o.dst=some d) (hdN:d<C.N)
  (hrun:∀ G a w,Sim C G st [] a w→∃ b,B b∧(execOp a.eval o).run C.P w=.ok (.value (.bool b)) w)
  (h:∀ b,B b→Good C f Q (.ops all rest :: K) ⟨fun u=>if u=d then .t (.v (.bool b)) else st.s u,st.b⟩):Good C f Q (.ops all (o :: rest) :: K) st:=by
 obtain ⟨pre,hpre⟩:=hw
 obtain ⟨hidx,ho⟩:=idx_cons hpre
 have hitem:(It.ops all (o :: rest)).item=.inRegion all (pre.length :: (List.range all.size).drop (all.size-rest.length)):=by rw[It.item,hidx]
 intro G a w s
 obtain ⟨b,hb,hx⟩:=hrun G a w s
 have s':Sim C G ⟨fun u=>if u=d then .t (.v (.bool b)) else st.s u,st.b⟩ [] (a.put (some d) (.bool b)) w:=s.put hdN (RepV_mk _ rfl)
 rw[← hd] at s'
 refine (h b hb G _ w s').step fun b cs _=>?_
 rw[List.map_cons,List.map_cons,hitem]
 exact step_op ho (wanted_of hg s) (.inl hx)
end
end TM
namespace TM
open Go
section
variable {C:Ctx} {f:FuncId} {Q:Value→World→Prop} {K:List It} {st:St} {G:Gh} {a:Act} {w:World}
theorem slice_of {v:LV} {u:Value} (h:RepV C G w st.b v u) (hv:(∃ fl es,v=.t (.sl fl es))∨∃ n p lo hi,v=.ref n p lo hi) :
  ∃ ad n cap,u=.slice ad n cap∧((∃ fl e es,v=.t (.sl fl (e :: es)))∨(∃ n p lo hi,v=.ref n p lo hi∧lo<hi)→ad≠none):=by
 rcases hv with ⟨fl,es,rfl⟩ | ⟨n,p,lo,hi,rfl⟩
 ·rw[RepV,RepC] at h
  obtain ⟨ad,cap,rfl,_,_,h⟩:=h
  refine ⟨ad,_,cap,rfl,fun hh=>?_⟩
  rcases h with ⟨rfl,_⟩ | ⟨b,off,cs,ty,fr,wd,rfl,_⟩
  ·rcases hh with ⟨fl',e,es,h⟩ | ⟨_,_,_,_,h,_⟩
   ·simp at h
   ·cases h
  ·simp
 ·rw[RepV] at h
  obtain ⟨es,r,ad,cap,_,hlo,hhi,hh,ad',rfl,h2⟩:=h
  refine ⟨ad',_,_,rfl,fun hx=>?_⟩
  rcases hx with ⟨_,_,_,h⟩ | ⟨n',p',lo',hi',h,hlt⟩
  ·cases h
  ·cases h
   rw[h2 (.inl hlt)]
   rcases hh with ⟨_,_,⟨rfl,_⟩ | ⟨b,cs,ty,wd,rfl,_,_⟩⟩
   ·simp at hhi;omega
   ·cases es<;>simp [shift]
theorem nil_equal {P:Program} {t e:TypeId} {ad:Option Addr} {n cap:Nat} (ht:P.underlying t=some (.slice e)):(Op.equal t (.slice ad n cap) (.slice none 0 0)).run P w=.ok ad.isNone w:=by
 unfold Op.equal
 obtain ⟨d,hd⟩:∃ d,Op.maxDepth=d+1:=⟨9999,rfl⟩
 rw[hd]
 unfold Op.equalIn
 simp only[Sem.run_bind,r_und ht]
 cases ad<;>rfl
theorem nil_run {o:Oper} {op:BinOp} {t t2 e:TypeId} {x:Operand} {v:LV} (ho:o.op=.binOp op t x (.const (.slice none 0 0)) t2) (hop:op=.eql∨op=.neq) (ht:C.P.underlying t=some (.slice e))
  (hx:st.ev x=some v) (hv:(∃ fl es,v=.t (.sl fl es))∨∃ n p lo hi,v=.ref n p lo hi) (s:Sim C G st [] a w) :
  ∃ b,((∃ fl e es,v=.t (.sl fl (e :: es)))∨(∃ n p lo hi,v=.ref n p lo hi∧lo<hi)→b=decide (op=.neq))∧(execOp a.eval o).run C.P w=.ok (.value (.bool b)) w:=by
 obtain ⟨ad,n,cap,hu,hn⟩:=slice_of (s.ev hx) hv
 rcases hop with rfl | rfl
 ·refine ⟨ad.isNone,fun h=>?_,?_⟩
  ·have:=hn h
   cases ad with
   |none=>exact absurd rfl this
   |some _=>rfl
  ·unfold execOp;rw[ho]
   refine exec_v ?_
   rw[hu]
   simp [go_sem,Act.eval,eqGuard,binOp,nil_equal ht]
 ·refine ⟨!ad.isNone,fun h=>?_,?_⟩
  ·have:=hn h
   cases ad with
   |none=>exact absurd rfl this
   |some _=>rfl
  ·unfold execOp;rw[ho]
   refine exec_v ?_
   rw[hu]
   simp [go_sem,Act.eval,eqGuard,binOp,nil_equal ht]
end
end TM
namespace TM
open Go
section
variable {C:Ctx} {G:Gh} {st st1 st':St} {a:Act} {w:World}
theorem Sim.slotAs (s:Sim C G st [] a w) {t:Nat} {v:LV} (hv:RepV C G w st.b v (a.tmps.getD t Go.undef)):Sim C G ⟨fun u=>if u=t then v else st.s u,st.b⟩ [] a w where
 inj:=s.inj
 lab:=s.lab
 zone:=s.zone
 fresh:=s.fresh
 zin:=s.zin
 old:=s.old
 size:=s.size
 rest:=s.rest
 box:=s.box
 held:=s.held
 slot:=fun u=>by
  by_cases hu:u=t
  ·subst hu;simpa using hv
  ·simpa [hu] using s.slot u
 ino:=s.ino
 len:=s.len
 dfr:=s.dfr
theorem good_ghost {f:FuncId} {Q:Value→World→Prop} {K:List It} (hg:∀ G a w,Sim C G st [] a w→∃ G',Sim C G' st' [] a w) (h:Good C f Q K st'):Good C f Q K st:=by
 intro G a w s
 obtain ⟨G',s'⟩:=hg G a w s
 exact h G' a w s'
end
theorem closes_run {ρ:Type} {N:Nat} {vs:VS} {st:St} {y:ρ} {xs:List TV} {lvs:List LV} {k:List Cl→Co ρ} (h:closesT xs k vs=some y) (R:Rel vs st) (hv:RelVs (Qw st.b) xs lvs) :
  ∃ cs vs' st',k cs vs'=some y∧Rel vs' st'∧st.closesS lvs=some (encs cs,st'):=by
 obtain ⟨cs,vs',st',h1,g,_⟩:=closesT_ref (N:=N) (m:=M.ok) h R hv
 obtain ⟨R',l,e,_⟩:=g
 refine ⟨cs,vs',st',h1,R',?_⟩
 have hr:(closes lvs M.ok).runT N st=some (encs cs,st',l):=by rw[e];simp [M.runT]
 obtain ⟨e1,e2⟩:=runT_fits _ hr
 have hrun:=run_fits _ hr e2
 rw[← e1,run_closes] at hrun
 cases hc:st.closesS lvs with
 |none=>rw[hc] at hrun;cases hrun
 |some p=>
  obtain ⟨xs',st1⟩:=p
  rw[hc] at hrun
  simp only[M.run,Option.some.injEq,Prod.mk.injEq] at hrun
  rw[hrun.1,hrun.2]
theorem encR_lws {z:Bool}:∀ (r:List ST) (fs:List Fg) (x y:R r),(encR r (Fg.lws z fs) x).length=(encR r fs y).length
 |[],fs,x,y=>by simp [encR]
 |t :: r,[],x,y=>by simp [encR,Fg.lws]
 |t :: r,f :: fs,x,y=>by simp [encR,Fg.lws,encR_lws r fs (tailR t r x) (tailR t r y)]
theorem Fl.lw_own (z:Bool) (f:Fl):f.lw z≠.own:=by cases z<;>cases f<;>simp [Fl.lw]
theorem low_LL {Z Z':Fl→Nat→Prop} {w:World} {L:Labs} {α:Type} {f g:α→List T} (hl:∀ m,(f m).length=(g m).length):∀ (ms:List α) {l l':Lab} {i i':Nat} {us:List Value},
  (∀ m∈ms,∀ j us l',RepL Z w L (l.add j) 0 (f m) us→RepL Z' w noLab l' 0 (g m) us)→RepLL Z w L l i (ms.map f) us→RepLL Z' w noLab l' i' (ms.map g) us
 |[],_,_,_,_,_,_,_=>by rw[List.map_nil,RepLL];trivial
 |m :: ms,l,l',i,i',us,hm,h=>by
  rw[List.map_cons,RepLL] at h ⊢
  refine ⟨hm m (by simp) _ _ _ h.1,?_⟩
  rw[← hl m]
  exact low_LL hl ms (fun m hm'=>hm m (by simp [hm'])) h.2
mutual
theorem low_rep {C:Ctx} {G G':Gh} {w:World} {z:Bool} (hz:∀ b,G.Zn b→G'.Zn b):∀ (t:ST) (f:Fg) (x:V t) {L:Labs} {l l':Lab} {u:Value},(∀ b r,L b=some (l.1,l.2++r)→G'.Zn b) →
  RepC (C.Z G) w L l (encT t f x) u→RepC (C.Z G') w noLab l' (encT t (f.lw z) x) u
 |.int k,f,x,_,_,_,_,_,h=>by simp only[encT,RepC] at *;exact h
 |.bool,f,x,_,_,_,_,_,h=>by simp only[encT,RepC] at *;exact h
 |.str,f,x,_,_,_,_,_,h=>by simp only[encT,RepC] at *;exact h
 |.hole,f,x,_,_,_,_,_,h=>by simp only[encT,RepC] at *;exact h
 |.hs c r,f,x,L,l,l',u,hL,h=>by
  have one:u.oneCell'=true:=h.one
  cases f with
  |sl g fs=>
   cases g<;>cases z<;>simp only[Fg.lw,Fl.lw,encT,RepC]<;>exact one
  |_=>simp only[Fg.lw,encT,RepC];exact one
 |.sl r,f,x,L,l,l',u,hL,h=>by
  cases f with
  |sl g fs=>
   simp only[Fg.lw,encT] at h ⊢
   rw[RepC] at h ⊢
   obtain ⟨a,cap,hu,h1,h2,h3⟩:=h
   refine ⟨a,cap,by simpa using hu,by simpa using h1,h2,?_⟩
   rcases h3 with ⟨h3,_⟩ | ⟨b,off,cs,ty,fr,wd,ha,hwd,hh,hsz,hes,ho,hzz,hr⟩
   ·exact .inl ⟨by simpa using h3,fun e=>absurd e (Fl.lw_own z g)⟩
   ·refine .inr ⟨b,off,cs,ty,fr,wd,ha,⟨hwd.1,fun e=>absurd e (Fl.lw_own z g)⟩,hh,by simpa using hsz,?_,fun e=>absurd e (Fl.lw_own z g),fun _=>?_,?_⟩
    ·intro e he
     obtain ⟨e0,h0,rfl⟩:=List.mem_map.1 he
     rw[encR_lws r fs e0 e0]
     exact hes _ (List.mem_map_of_mem h0)
    ·have hb:g=.own→G'.Zn b:=fun e=>hL b [] (by simpa using (ho e).1)
     have hn:g≠.own→C.Z G g b:=hzz
     cases z<;>cases g<;>first | exact hb rfl | exact hz b (hn (by simp)) | exact .inr (hb rfl) | exact .inr (hz b (hn (by simp))) | exact (hn (by simp)).imp id (hz b)
    ·rw[show (g.lw z).labs noLab=noLab by cases z<;>cases g<;>rfl]
     refine low_LL (fun m=>(encR_lws r fs m m).symm) _ (fun m _ j us l2 hm=>?_) hr
     refine low_reps hz r fs m (fun b q hb=>?_) hm
     cases g with
     |own=>exact hL b (j :: q) (by simpa [Fl.labs,Lab.add] using hb)
     |nw=>simp [Fl.labs,noLab] at hb
     |fz=>simp [Fl.labs,noLab] at hb
  |_=>
   simp only[Fg.lw,encT,RepC] at h ⊢
   obtain ⟨a,cap,hu,h1,h2,h3⟩:=h
   refine ⟨a,cap,hu,h1,h2,.inl ?_⟩
   rcases h3 with h3 | ⟨b,off,cs,ty,fr,wd,ha,hwd,_⟩
   ·exact h3
   ·exact absurd hwd.2 (by simp)
 |.pt r,f,x,L,l,l',u,hL,h=>by
  cases f with
  |pt g fs=>
   simp only[Fg.lw,encT] at h ⊢
   rw[RepC] at h ⊢
   obtain ⟨b,off,vs,ty,fr,hu,hh,ho,hzz,hr⟩:=h
   refine ⟨b,off,vs,ty,fr,hu,hh,fun e=>absurd e (Fl.lw_own z g),fun _=>?_,?_⟩
   ·have hb:g=.own→G'.Zn b:=fun e=>hL b [] (by simpa using (ho e).1)
    have hn:g≠.own→C.Z G g b:=hzz
    cases z<;>cases g<;>first | exact hb rfl | exact hz b (hn (by simp)) | exact .inr (hb rfl) | exact .inr (hz b (hn (by simp))) | exact (hn (by simp)).imp id (hz b)
   ·rw[show (g.lw z).labs noLab=noLab by cases z<;>cases g<;>rfl]
    refine low_reps hz r fs x (fun b q hb=>?_) hr
    cases g with
    |own=>exact hL b q (by simpa [Fl.labs] using hb)
    |nw=>simp [Fl.labs,noLab] at hb
    |fz=>simp [Fl.labs,noLab] at hb
  |_=>simp only[Fg.lw,encT,RepC] at *;exact h
 |.fn g r,f,x,L,l,l',u,hL,h=>by
  cases f with
  |fn fs=>
   simp only[Fg.lw,encT] at h ⊢
   rw[RepC] at h ⊢
   obtain ⟨vs,hu,hs,hr⟩:=h
   exact ⟨vs,hu,by rw[hs,encR_lws r fs x x],low_reps hz r fs x hL hr⟩
  |_=>simp only[Fg.lw,encT,RepC] at *;exact h
theorem low_reps {C:Ctx} {G G':Gh} {w:World} {z:Bool} (hz:∀ b,G.Zn b→G'.Zn b):∀ (r:List ST) (fs:List Fg) (x:R r) {L:Labs} {l l':Lab} {c c':Nat} {us:List Value},(∀ b q,L b=some (l.1,l.2++q)→G'.Zn b) →
  RepL (C.Z G) w L l c (encR r fs x) us→RepL (C.Z G') w noLab l' c' (encR r (Fg.lws z fs) x) us
 |[],fs,x,_,_,_,_,_,us,_,h=>by simp only[encR,RepL]
 |t :: r,[],x,_,_,_,_,_,us,_,h=>by simp only[Fg.lws,encR,RepL]
 |t :: r,f :: fs,x,L,l,l',c,c',us,hL,h=>by
  simp only[Fg.lws,encR] at h ⊢
  cases us with
  |nil=>rw[RepL] at h;exact h.elim
  |cons u us=>
   rw[RepL] at h ⊢
   exact ⟨low_rep hz t f (headR t r x) (fun b q hb=>hL b (c :: q) (by simpa [Lab.add] using hb)) h.1,low_reps hz r fs (tailR t r x) hL h.2⟩
end
section
variable {C:Ctx} {G:Gh} {st st1 st':St} {a:Act} {w:World}
theorem Sim.giveUp {hs:List (T×Value)} (s1:Sim C G st hs a w) :
  ∃ G',Sim C G' st [] a w∧(∀ b,G.Zn b→G'.Zn b)∧∀ b j q,G.L b=some (.held j,q)→G'.Zn b:=by
 let G':Gh:=⟨fun b=>match G.L b with
  |some (.held _,_)=>none
  |o=>o,fun b=>G.Zn b∨∃ j q,G.L b=some (.held j,q),G.blk,G.vals⟩
 have hL:∀ b l,G'.L b=some l→G.L b=some l∧∀ j q,l≠(.held j,q):=by
  intro b l h
  show _∧_
  simp only[G'] at h
  split at h
  ·cases h
  ·rename_i hne
   exact ⟨h,fun j q e=>hne j q (by rw[h,e])⟩
 have hL':∀ b n q,G.L b=some (.box n,q)→G'.L b=some (.box n,q):=by
  intro b n q h
  simp only[G',h]
 have hmove:∀ f b,C.Z G f b→C.Z G' f b∧w.heap[b]?=w.heap[b]?:=by
  intro f b h
  refine ⟨?_,rfl⟩
  cases f
  ·exact h.elim
  ·exact .inl h
  ·exact h.imp id .inl
 have k:Keeps C G G' w w:=⟨fun b h=>.inl h,fun _ _=>rfl⟩
 have hhdr:∀ (n:Nm) (p:List Nat) (es:List (List T)) (ad:Option Addr) (cap:Nat),Hdr G.L w (.box n,p) es ad cap→Hdr G'.L w (.box n,p) es ad cap:=by
  intro n p es ad cap h
  refine ⟨h.1,h.2.1,h.2.2.imp id ?_⟩
  rintro ⟨b,cs,ty,wd,h1,h2,h3,h4⟩
  exact ⟨b,cs,ty,wd,h1,h2,hL' _ _ _ h3,h4⟩
 refine ⟨G',⟨?_,?_,?_,?_,?_,s1.old,s1.size,s1.rest,?_,?_,?_,s1.ino,s1.len,s1.dfr⟩,fun b h=>.inl h,fun b j q h=>.inr ⟨j,q,h⟩⟩
 ·intro b b' l h h'
  exact s1.inj b b' l (hL b l h).1 (hL b' l h').1
 ·intro b l h
  exact s1.lab b l (hL b l h).1
 ·intro b h
  rcases h with h | h | ⟨j,q,h⟩
  ·have:=s1.zone b (.inl h)
   refine ⟨?_,this.2⟩
   simp only[G',this.1]
  ·have:=s1.zone b (.inr h)
   refine ⟨?_,this.2⟩
   simp only[G',this.1]
  ·refine ⟨?_,(s1.lab b _ h).1⟩
   simp only[G',h]
 ·intro b h
  rcases h with h | ⟨j,q,h⟩
  ·exact s1.fresh b h
  ·exact .inr (s1.lab b _ h).2
 ·intro b h
  exact .inl (s1.zin b h)
 ·intro n
  obtain ⟨b1,b2,b3⟩:=s1.box n
  refine ⟨RepL.move hmove _ (fun b r hb=>⟨hL' _ _ _ hb,rfl⟩) b1,b2,fun hr=>?_⟩
  obtain ⟨c1,c2⟩:=b3 hr
  exact ⟨hL' _ _ _ c1,c2⟩
 ·intro j x u h
  simp at h
 ·intro t
  refine RepV.keeps k _ (fun n p lo hi v h=>?_) (fun n p v h=>?_) (s1.slot t)
  ·rw[RepV] at h ⊢
   obtain ⟨es,r,ad,cap,h1,h2,h3,h4,h5⟩:=h
   exact ⟨es,r,ad,cap,h1,h2,h3,hhdr _ _ _ _ _ h4,h5⟩
  ·rw[RepV] at h ⊢
   obtain ⟨b,row,h1,h2,h3,h4⟩:=h
   exact ⟨b,row,h1,h2,hL' _ _ _ h3,h4⟩
theorem Sim.frzs (s:Sim C G st [] a w) {vs:List LV} {us:List Value} {cs:List Cl} (hv:RepVs C G w st.b vs us) (hc:st.closesS vs=some (encs cs,st1)) (z:Bool) :
  ∃ G',Sim C G' st1 [] a w∧∀ (i:Nat) (c:Cl) (u:Value),cs[i]?=some c→us[i]?=some u→RepC (C.Z G') w noLab noWhere (encT c.t (c.f.lw z) c.x) u:=by
 obtain ⟨G1,s1,z1,k1⟩:=closes_step _ s hv hc
 obtain ⟨G',s',h1,h2⟩:=s1.giveUp
 refine ⟨G',s',fun i c u hi hu=>?_⟩
 have hx:(([]:List (T×Value))++(encs cs).zip us)[i]?=some (c.enc,u):=by
  rw[List.nil_append,List.getElem?_zip_eq_some]
  exact ⟨by rw[encs,List.getElem?_map,hi];rfl,hu⟩
 refine low_rep (G:=G1) (G':=G') h1 c.t c.f c.x (l:=(.held i,[])) (fun b q hb=>h2 b i q ?_) (s1.held i c.enc u hx)
 simpa using hb
theorem Sim.putLow (s:Sim C G st [] a w) {n:Nm} {p:List Nat} {x:T} {hv:Value} {r cs':List T} (hrow:rowAt (st.b n).cells p=some (.v hv :: r))
  (hset:setAt (st.b n).cells p x=some cs') (hx:∀ L l,RepC (C.Z G) w L l x hv):Sim C G (st.anew n p cs') [] a w:=by
 have hp:p≠[]:=rowAt_ne hrow
 obtain ⟨urow,blk,off,k1,k2,_,k4⟩:=s.place hrow
 cases hur:urow with
 |nil=>rw[hur,RepL] at k2;exact k2.elim
 |cons hv1 us1=>
 have e0:=pathLab_last p (l:=(.box n,[])) hrow
 rw[hur] at k1 k4
 rw[hur,RepL,e0,RepC] at k2
 obtain ⟨⟨rfl,hone⟩,_⟩:=k2
 refine ⟨s.inj,s.lab,s.zone,s.fresh,s.zin,s.old,s.size,s.rest,fun m=>?_,fun i y v h=>by simp at h,fun t=>?_,fun i=>?_,s.len,s.dfr⟩
 ·obtain ⟨h1,h2,h3⟩:=s.box m
  by_cases hm:m=n
  ·subst hm
   simp only[St.anew,if_true]
   exact ⟨RepL.hole (_row:=r) (x:=x) h1 hset k1 (s.atBlk m) k4 (fun b q hb hnp=>hb) (hx _ _),by rw[h2,setAt_length p hset],h3⟩
  ·simp only[St.anew,hm,if_false]
   exact ⟨h1,h2,h3⟩
 ·exact slot_set s hset (fun b q m hb hn=>⟨hb,fun cs ty hh=>⟨cs,hh,rfl⟩⟩) (fun _ _=>rfl) _ (s.slot t)
 ·obtain ⟨z1,z2,z3⟩:=s.ino i
  refine ⟨z1,?_,z3⟩
  by_cases h:((i,1):Nm)=n
  ·simp only[St.anew,h,if_true];rw[← h];exact z2
  ·simp only[St.anew,h,if_false];exact z2
end
mutual
theorem killV_twice (n:Nm) (p:List Nat):∀ v:LV,killV n p (killV n p v)=killV n p v
 |.t x=>by simp only[killV]
 |.ref m q lo hi=>by
  rw[killV]
  split
  ·rw[killV]
  ·rename_i h;rw[killV,if_neg h]
 |.addr m q=>by
  rw[killV]
  split
  ·rw[killV]
  ·rename_i h;rw[killV,if_neg h]
 |.raddr cs=>by simp only[killV]
 |.agg xs=>by simp only[killV,killVs_twice n p xs]
 |.tup xs=>by simp only[killV,killVs_twice n p xs]
 |.fn g xs=>by simp only[killV,killVs_twice n p xs]
 |.va xs=>by simp only[killV,killVs_twice n p xs]
 |.dead=>by simp only[killV]
theorem killVs_twice (n:Nm) (p:List Nat):∀ xs:List LV,killVs n p (killVs n p xs)=killVs n p xs
 |[]=>by simp only[killVs]
 |x :: xs=>by simp only[killVs,killV_twice n p x,killVs_twice n p xs]
end
section
variable {C:Ctx} {G:Gh} {st st1 st':St} {a:Act} {w:World}
theorem Sim.frzAt (s:Sim C G st [] a w) {n:Nm} {p:List Nat} {r:List ST} {fs:List Fg} {l:V (.sl r)} {row cs':List T} (z:Bool) (hrow:rowAt (st.b n).cells p=some (encT (.sl r) (.sl .own fs) l :: row))
  (hset:setAt (st.b n).cells p (encT (.sl r) ((Fg.sl .own fs).lw z) l)=some cs'):∃ G',Sim C G' (st.anew n p cs') [] a w:=by
 have hrow0:=hrow
 rw[show encT (.sl r) (.sl .own fs) l=.sl .own ((lis r l).map fun e=>encR r fs e) by simp only[encT]] at hrow0
 generalize hes:(lis r l).map (fun e=>encR r fs e)=es at hrow0
 obtain ⟨urow,blk,off,k1,k2,_,_⟩:=s.place hrow0
 cases hur:urow with
 |nil=>rw[hur,RepL] at k2;exact k2.elim
 |cons hv1 us1=>
 have e0:=pathLab_last p (l:=(.box n,[])) hrow0
 rw[hur,RepL,e0] at k2
 have hseen:RepV C G w st.b (seen n p (.sl .own es)) hv1:=RepV_seen hrow0 (by simpa using k2.1)
 obtain ⟨hv,cs1,hsame,hset1,s1⟩:=s.takePin hrow0 (fun y=>setAt_ex p y hrow0) (u:=hv1) hseen
 obtain ⟨G',s',h1,h2⟩:=s1.giveUp
 have hheld:=s1.held 0 (.sl .own es) hv1 (by simp)
 have hlow:RepC (C.Z G') w noLab noWhere (encT (.sl r) ((Fg.sl .own fs).lw z) l) hv1:=by
  refine low_rep (G':=G') h1 (.sl r) (.sl .own fs) l (l:=(.held 0,[])) (fun b q hb=>h2 b 0 q (by simpa using hb)) (L:=_) ?_
  rw[show encT (.sl r) (.sl .own fs) l=.sl .own es by rw[← hes];simp only[encT]]
  exact hheld
 have hx:∀ L l',RepC (C.Z G') w L l' (encT (.sl r) ((Fg.sl .own fs).lw z) l) hv:=by
  intro L l'
  have h3:RepC (C.Z G') w L l' (encT (.sl r) ((Fg.sl .own fs).lw z) l) hv1:=RepC.move (fun f b hb=>⟨hb,rfl⟩) _ noLab_under hlow
  rcases hsame with rfl | ⟨b,b',rfl,rfl⟩
  ·exact h3
  ·simp only[Fg.lw,encT] at h3 ⊢
   rw[RepC] at h3 ⊢
   obtain ⟨ad,cap,e,g1,g2,g3⟩:=h3
   simp only[Value.slice.injEq] at e
   obtain ⟨_,e1,rfl⟩:=e
   exact ⟨b,0,by rw[← e1],by rw[← e1];exact Nat.le_refl _,g2,.inl ⟨List.length_eq_zero_iff.1 e1.symm,fun _=>rfl⟩⟩
 obtain ⟨r2,hrow2⟩:=rowAt_setAt_self hset1 hrow0
 have hset2:setAt ((st.anew n p cs1).b n).cells p (encT (.sl r) ((Fg.sl .own fs).lw z) l)=some cs':=by
  simp only[St.anew,if_true]
  exact setAt_again p hset1 hset
 have s2:=s'.putLow (n:=n) (p:=p) (x:=encT (.sl r) ((Fg.sl .own fs).lw z) l) (hv:=hv) (r:=r2) (by simp only[St.anew,if_true];exact hrow2) hset2 hx
 refine ⟨G',?_⟩
 have e:(st.anew n p cs1).anew n p cs'=st.anew n p cs':=by
  simp only[St.anew]
  congr 1
  ·funext t
   exact killV_twice n p (st.s t)
  ·funext m
   by_cases hm:m=n<;>simp [hm]
 rw[e] at s2
 exact s2
end
theorem lowCs_rel {Q:Nm→Pth→Nat→Prop} {z:Bool}:∀ cs:List Cl,RelVs Q (lowCs z cs) (cs.map fun c=>.t (encT c.t (c.f.lw z) c.x))
 |[]=>by simp [lowCs,RelVs]
 |c :: cs=>by
  simp only[lowCs,List.map_cons,RelVs]
  exact ⟨by simp only[lowC,RelV];rfl,lowCs_rel cs⟩
section
variable {C:Ctx} {f:FuncId} {Q:Value→World→Prop} {K:List It} {ρ:Type} {y:ρ} {st:St} {vs:VS}
theorem frzCells_good {n:Nm} {z:Bool} {k:Co ρ} (hk:∀ vs st,k vs=some y→Rel vs st→Good C f Q K st):∀ (m c:Nat) {vs:VS} {st:St},frzCells n z k m c vs=some y→Rel vs st→Good C f Q K st
 |0,_,vs,st,h,R=>hk vs st h R
 |m+1,c,vs,st,h,R=>by
  simp only[frzCells,rdB] at h
  cases hb:lookB vs.b n with
  |none=>rw[hb] at h;cases h
  |some bx=>
   rw[hb] at h
   simp only at h
   obtain ⟨b1,b2⟩:=R.b n bx hb
   have skip:frzCells n z k m (c+1) ⟨vs.s,vs.b,.rB n :: vs.lg⟩=some y→Good C f Q K st:=fun h=>frzCells_good hk m (c+1) h (R.lg _)
   cases hdr:bx.cells.drop c with
   |nil=>rw[hdr] at h;exact skip h
   |cons c1 rest=>
    obtain ⟨t1,f1,l⟩:=c1
    rw[hdr] at h
    cases t1<;>first | exact skip h | skip
    rename_i r
    have cell:∀ (fs:List Fg) (l':V (.sl r)) (f1:Fg) (l:V (.sl r)),bx.cells.drop c=⟨.sl r,f1,l⟩ :: rest→encT (.sl r) f1 l=encT (.sl r) (.sl .own fs) l' →
      kill n ⟨c,[]⟩ (wrB n ⟨bx.real,bx.cells.set c ⟨.sl r,(Fg.sl .own fs).lw z,l'⟩⟩ (frzCells n z k m (c+1))) ⟨vs.s,vs.b,.rB n :: vs.lg⟩=some y→Good C f Q K st:=by
     intro fs l' f1 l hdr hl h
     simp only[kill,wrB] at h
     have hrow:rowAt (st.b n).cells [c]=some (encT (.sl r) (.sl .own fs) l' :: encs rest):=by
      rw[b2]
      simp only[rowAt]
      rw[encs_drop,hdr,← hl]
      rfl
     have hc:c<bx.cells.length:=by
      rcases Nat.lt_or_ge c bx.cells.length with h | h
      ·exact h
      ·rw[List.drop_eq_nil_of_le h] at hdr;cases hdr
     have hset:setAt (st.b n).cells [c] (encT (.sl r) ((Fg.sl .own fs).lw z) l')=some (encs (bx.cells.set c ⟨.sl r,(Fg.sl .own fs).lw z,l'⟩)):=by
      rw[b2]
      rw[setAt,if_pos (by simpa [encs] using hc),← encs_set]
      rfl
     have R2:=rel_kb (p:=⟨c,[]⟩) (x:=⟨bx.real,bx.cells.set c ⟨.sl r,(Fg.sl .own fs).lw z,l'⟩⟩) (lg:=vs.lg) R (n:=n) (fun q es' r' hp hr=>rowAt_setAt _ _ hset hp hr)
     have e:st.kb n (pthL ⟨c,[]⟩) ⟨bx.real,encs (bx.cells.set c ⟨.sl r,(Fg.sl .own fs).lw z,l'⟩)⟩=st.anew n [c] (encs (bx.cells.set c ⟨.sl r,(Fg.sl .own fs).lw z,l'⟩)):=by
      simp only[St.kb,St.anew,b1]
      rfl
     simp only[e] at R2
     exact good_ghost (fun G a w s=>s.frzAt z hrow hset) (frzCells_good hk m (c+1) h ⟨R2.s,R2.b⟩)
    cases f1 with
    |nil=>exact cell _ _ .nil l hdr (by simp only[encT];rfl) h
    |sl fl fs=>
     cases fl with
     |own=>exact cell fs l (.sl .own fs) l hdr rfl h
     |nw=>exact skip h
     |fz=>exact skip h
    |z=>exact skip h
    |pt _ _=>exact skip h
    |fn _=>exact skip h
theorem frzOne_good {N t:Nat} {z:Bool} {k:Co ρ} (hk:∀ vs st,k vs=some y→Rel vs st→Good C f Q K st) (h:frzOne N t z k vs=some y) (R:Rel vs st):Good C f Q K st:=by
 unfold frzOne at h
 simp only[rdS] at h
 have hR:=R.s t
 generalize hl:lookS vs.s t=v at h hR
 split at h
 ·rename_i n
  simp only[rdB] at h
  cases hb:lookB vs.b n with
  |none=>rw[hb] at h;cases h
  |some bx=>rw[hb] at h;exact frzCells_good hk _ _ h ((R.lg _).lg _)
 obtain ⟨lvs,hlv,hparts⟩:∃ lvs:List LV,RelVs (Qs st.b) (cellsTV v) lvs∧((isAggT v=true∧st.s t=.agg lvs)∨(isAggT v=false∧lvs=[st.s t])):=by
  cases v with
  |agg xs=>
   simp only[RelV] at hR
   obtain ⟨lvs,e,hr⟩:=hR
   exact ⟨lvs,hr,.inl ⟨rfl,e⟩⟩
  |_=>exact ⟨[st.s t],by simp only[cellsTV,RelVs];exact ⟨hR,trivial⟩,.inr ⟨rfl,rfl⟩⟩
 obtain ⟨cs,vs2,st2,h,R2,hcl⟩:=closes_run (N:=0) h (R.lg _) hlv.w
 cases hf:flatCs cs with
 |false=>rw[hf] at h;cases h
 |true=>
  rw[hf] at h
  simp only[wrS] at h
  cases ht:Nat.blt t N with
  |false=>rw[ht] at h;cases h
  |true=>
   rw[ht] at h
   simp only at h
   have hlen:lvs.length=cs.length:=by
    have:=closesS_length _ hcl
    simp only[encs,List.length_map] at this
    exact this.symm
   obtain ⟨lv',hlv',hsim⟩:∃ lv',RelV (Qs st2.b) (aggIf (isAggT v) (lowCs z cs)) lv' ∧
     ∀ G a w,Sim C G st [] a w→∃ G',Sim C G' ⟨fun u=>if u=t then lv' else st2.s u,st2.b⟩ [] a w:=by
    have rep:∀ G a w (us:List Value),Sim C G st [] a w→RepVs C G w st.b lvs us→∃ G',Sim C G' st2 [] a w∧RepVs C G' w st2.b (cs.map fun c=>.t (encT c.t (c.f.lw z) c.x)) us:=by
     intro G a w us s hus
     obtain ⟨G',s',hb⟩:=s.frzs hus hcl z
     refine ⟨G',s',RepVs.of_get (by rw[hus.length,List.length_map,hlen]) fun i v u hi hu=>?_⟩
     rw[List.getElem?_map] at hi
     cases hci:cs[i]? with
     |none=>rw[hci] at hi;cases hi
     |some c=>
      rw[hci] at hi
      cases hi
      rw[RepV]
      exact hb i c u hci hu
    rcases hparts with ⟨ha,hs⟩ | ⟨ha,hs⟩
    ·refine ⟨.agg (cs.map fun c=>.t (encT c.t (c.f.lw z) c.x)),?_,fun G a w s=>?_⟩
     ·rw[ha]
      simp only[aggIf,RelV]
      exact ⟨_,rfl,lowCs_rel cs⟩
     ·have hst:=s.slot t
      rw[hs,RepV] at hst
      obtain ⟨us,hu,hus⟩:=hst
      obtain ⟨G',s',hr⟩:=rep G a w us.toList s hus
      refine ⟨G',s'.slotAs ?_⟩
      rw[hu,RepV]
      exact ⟨us,rfl,hr⟩
    ·have hone:∃ c,cs=[c]:=by
      rw[hs] at hlen
      exact List.length_eq_one_iff.1 hlen.symm
     obtain ⟨c,rfl⟩:=hone
     refine ⟨.t (encT c.t (c.f.lw z) c.x),?_,fun G a w s=>?_⟩
     ·rw[ha]
      simp only[aggIf,lowCs,lowC,RelV]
      rfl
     ·obtain ⟨G',s',hr⟩:=rep G a w [a.tmps.getD t Go.undef] s (by rw[hs,RepVs,RepVs];exact ⟨s.slot t,rfl⟩)
      rw[List.map_cons,RepVs] at hr
      exact ⟨G',s'.slotAs hr.1⟩
   refine good_ghost hsim (hk _ _ h ⟨fun u=>?_,R2.b⟩)
   simp only[lookS]
   cases hb:Nat.beq t u with
   |true=>
    have:=Nat.eq_of_beq_eq_true hb
    subst this
    simp only[if_true]
    exact hlv'
   |false=>
    have hne:u≠t:=by
     rintro rfl
     rw[Nat.beq_refl] at hb
     cases hb
    simp only[if_neg hne]
    exact R2.s u
theorem fixL_good {N:Nat} {k:Co ρ} (hk:∀ vs st,k vs=some y→Rel vs st→Good C f Q K st):∀ (l:List (Nat×Bool)) {vs:VS} {st:St},fixL N l k vs=some y→Rel vs st→Good C f Q K st
 |[],vs,st,h,R=>hk vs st h R
 |(_t,_z) :: l,_vs,_st,h,R=>frzOne_good (fun _vs _st h R=>fixL_good hk l h R) h R
end
end TM
namespace TM
open Go
section
variable {C:Ctx} {G:Gh} {st:St} {a:Act} {w:World}
theorem Sim.lowBlock (s:Sim C G st [] a w) (o:Obj):∃ G',Sim C G' st [] a (w.alloc o)∧Keeps C G G' w (w.alloc o)∧G'.L=G.L∧C.Z G' .nw w.heap.size∧(∀ (v:LV) (u:Value),RepV C G w st.b v u→RepV C G' (w.alloc o) st.b v u):=by
 let G':Gh:=⟨G.L,fun b=>G.Zn b∨b=w.heap.size,G.blk,G.vals⟩
 have hsz:(w.alloc o).heap.size=w.heap.size+1:=by simp only[World.alloc,Array.size_push]
 have hzl:∀ b,C.Zf b∨G.Zn b→b<w.heap.size:=fun b h=>(s.zone b h).2
 have k:Keeps C G G' w (w.alloc o):=⟨fun b h=>.inl h,fun b h=>heap_alloc_lt (hzl b h)⟩
 have hmove:∀ f b,C.Z G f b→C.Z G' f b∧(w.alloc o).heap[b]?=w.heap[b]?:=k.Z
 have hlab:∀ b l,G.L b=some l→(w.alloc o).heap[b]?=w.heap[b]?:=fun b l h=>heap_alloc_lt (s.lab b l h).1
 have hhdr:∀ (n:Nm) (p:List Nat) (es:List (List T)) (ad:Option Addr) (cap:Nat),Hdr G.L w (.box n,p) es ad cap→Hdr G'.L (w.alloc o) (.box n,p) es ad cap:=by
  intro n p es ad cap h
  refine ⟨h.1,h.2.1,h.2.2.imp id ?_⟩
  rintro ⟨b,cs,ty,wd,h1,h2,h3,h4,h5⟩
  exact ⟨b,cs,ty,wd,h1,h2,h3,by rw[hlab b _ h3];exact h4,h5⟩
 have hslot:∀ (v:LV) (u:Value),RepV C G w st.b v u→RepV C G' (w.alloc o) st.b v u:=fun v u h=>
  RepV.keeps k v (fun n p lo hi v h=>by
   rw[RepV] at h ⊢
   obtain ⟨es,r,ad,cap,h1,h2,h3,h4,h5⟩:=h
   exact ⟨es,r,ad,cap,h1,h2,h3,hhdr _ _ _ _ _ h4,h5⟩) (fun n p v h=>by
   rw[RepV] at h ⊢
   exact h) h
 refine ⟨G',⟨s.inj,fun b l h=>?_,fun b h=>?_,fun b h=>?_,fun b h=>.inl (s.zin b h),fun b h1 h2=>?_,?_,s.rest,fun n=>?_,fun j x u h=>by simp at h,fun t=>hslot _ _ (s.slot t),s.ino,s.len,s.dfr⟩,k,rfl,.inr rfl,hslot⟩
 ·have:=s.lab b l h
  exact ⟨by omega,this.2⟩
 ·rcases h with h | h | h
  ·exact ⟨(s.zone b (.inl h)).1,by have:=(s.zone b (.inl h)).2;omega⟩
  ·exact ⟨(s.zone b (.inr h)).1,by have:=(s.zone b (.inr h)).2;omega⟩
  ·subst h
   refine ⟨?_,by omega⟩
   cases hL:G.L w.heap.size with
   |none=>rfl
   |some l=>have:=(s.lab _ _ hL).1;omega
 ·rcases h with h | h
  ·exact s.fresh b h
  ·subst h;exact .inr (.inl s.size)
 ·rw[heap_alloc_lt (Nat.lt_of_lt_of_le h1 s.size)]
  exact s.old b h1 h2
 ·have:=s.size;omega
 ·obtain ⟨b1,b2,b3⟩:=s.box n
  refine ⟨RepL.move hmove _ (fun b r hb=>⟨hb,hlab b _ hb⟩) b1,b2,fun hr=>?_⟩
  obtain ⟨c1,ty,c2⟩:=b3 hr
  exact ⟨c1,ty,by rw[hlab _ _ c1];exact c2⟩
theorem op_vbox (s:Sim C G st [] a w) {o:Oper} {t:TypeId} {x:Operand} {d:Nat} {xs:List LV} (ho:o.op=.box t x) (hd:o.dst=some d) (hdN:d<C.N) (hx:st.ev x=some (.agg xs)) :
  OpOK C o ⟨fun u=>if u=d then .va xs else st.s u,st.b⟩ a w:=by
 have he:=s.ev hx
 rw[RepV] at he
 obtain ⟨us,hu,hr⟩:=he
 obtain ⟨G',s',k,_,hz,hslot⟩:=s.lowBlock (.cells us t)
 have hr':RepVs C G' (w.alloc (.cells us t)) st.b xs us.toList:=by
  have:=hslot (.agg xs) (.agg us) (by rw[RepV];exact ⟨us,rfl,hr⟩)
  rw[RepV] at this
  obtain ⟨us',e,h⟩:=this
  cases e
  exact h
 refine OpOK.mk' (v:=.pointer (some ⟨w.heap.size,0,none⟩)) hd ?_ (s'.put hdN ?_)
 ·unfold execOp;rw[ho]
  refine exec_v ?_
  rw[hu]
  simp [Instr.box,newVar,newRow,go_sem]
 ·rw[RepV]
  exact ⟨w.heap.size,0,us,t,(0,0),rfl,heap_alloc_at,hz,by simpa using hr'⟩
end
def flatLV:LV→Bool
 |.t (.hole)=>false
 |.t _=>true
 |.ref _ _ _ _=>true
 |_=>false
section
variable {C:Ctx} {G:Gh} {st:St} {a:Act} {w:World}
theorem flatLV_one {v:LV} {u:Value} (h:flatLV v=true) (hr:RepV C G w st.b v u):u.oneCell'=true:=by
 cases v with
 |t x=>rw[RepV] at hr;exact hr.one
 |ref n p lo hi=>
  rw[RepV] at hr
  obtain ⟨_,_,_,_,_,_,_,_,_,rfl,_⟩:=hr
  rfl
 |_=>cases h
theorem flatLVs_one:∀ {vs:List LV} {us:List Value},vs.all flatLV=true→RepVs C G w st.b vs us→∀ u∈us,u.oneCell'=true
 |[],us,_,hr,u,hu=>by rw[RepVs] at hr;subst hr;simp at hu
 |v :: vs,[],_,hr,_,_=>by rw[RepVs] at hr;exact hr.elim
 |v :: vs,u0 :: us,h,hr,u,hu=>by
  rw[RepVs] at hr
  simp only[List.all_cons,Bool.and_eq_true] at h
  rcases List.mem_cons.1 hu with rfl | hu
  ·exact flatLV_one h.1 hr.1
  ·exact flatLVs_one h.2 hr.2 u hu
theorem Sim.addZn {hs:List (T×Value)} (s:Sim C G st hs a w) {b:Nat} (hL:G.L b=none) (hb:b<w.heap.size) (hf:C.w0.heap.size≤b∨C.F0 b) :
  Sim C ⟨G.L,fun c=>G.Zn c∨c=b,G.blk,G.vals⟩ st hs a w∧∀ (v:LV) (u:Value),RepV C G w st.b v u→RepV C ⟨G.L,fun c=>G.Zn c∨c=b,G.blk,G.vals⟩ w st.b v u:=by
 have k:Keeps C G ⟨G.L,fun c=>G.Zn c∨c=b,G.blk,G.vals⟩ w w:=⟨fun b h=>.inl h,fun _ _=>rfl⟩
 have hslot:∀ (v:LV) (u:Value),RepV C G w st.b v u→RepV C ⟨G.L,fun c=>G.Zn c∨c=b,G.blk,G.vals⟩ w st.b v u:=fun v u h=>
  RepV.keeps k v (fun n p lo hi v h=>by rw[RepV] at h ⊢;exact h) (fun n p v h=>by rw[RepV] at h ⊢;exact h) h
 refine ⟨⟨s.inj,s.lab,fun c h=>?_,fun c h=>?_,fun c h=>.inl (s.zin c h),s.old,s.size,s.rest,fun n=>?_,fun j x u h=>?_,fun t=>hslot _ _ (s.slot t),s.ino,s.len,s.dfr⟩,hslot⟩
 ·rcases h with h | h | h
  ·exact s.zone c (.inl h)
  ·exact s.zone c (.inr h)
  ·subst h;exact ⟨hL,hb⟩
 ·rcases h with h | h
  ·exact s.fresh c h
  ·subst h;exact .inr hf
 ·obtain ⟨b1,b2,b3⟩:=s.box n
  exact ⟨RepL.move k.Z _ (fun b r hb=>⟨hb,rfl⟩) b1,b2,b3⟩
 ·exact RepC.move k.Z _ (fun b r hb=>⟨hb,rfl⟩) (s.held j x u h)
theorem op_vstore (s:Sim C G st [] a w) {o:Oper} {t:TypeId} {a0 y0:Nat} {n:Nm} {xs:List LV} (ho:o.op=.store t (.tmp a0) (.tmp y0)) (hd:o.dst=none) (_hne:a0≠y0) (hax:st.s a0=.addr n [0]) (hn:n.2≠1) (hre:(st.b n).real=true)
  (hy:st.s y0=.agg xs) (hflat:xs.all flatLV=true) (hlen:C.P.cellsOf t=xs.length) (hpos:0<xs.length) (hcl:(st.b n).cells.length=xs.length) :
  OpOK C o ⟨fun u=>if u=a0 then .va (killVs n [] xs) else killV n [] (st.s u),fun m=>if m=n then ⟨false,[]⟩ else st.b m⟩ a w:=by
 have hA:=s.slot a0
 rw[hax,RepV] at hA
 obtain ⟨b0,row,hptr,_,hL0,_⟩:=hA
 obtain ⟨c1,c2,c3⟩:=s.box n
 obtain ⟨hLb,ty,hheap⟩:=c3 hre
 have e0:b0=G.blk n:=s.inj _ _ _ (by simpa [hdOf] using hL0) hLb
 subst e0
 have hptr:a.tmps.getD a0 Go.undef=.pointer (some ⟨G.blk n,0,none⟩):=by simpa [offOf] using hptr
 have hY:=s.slot y0
 rw[hy,RepV] at hY
 obtain ⟨us,hyv,hr⟩:=hY
 have hul:us.toList.length=xs.length:=hr.length
 have hone:=flatLVs_one hflat hr
 let w':World:=w.setRow (G.blk n) us
 have hst:(storeCells ⟨G.blk n,0,none⟩ us.toList 0).run C.P w=.ok () w':=by
  have:=run_storeCells_from (P:=C.P) (G.blk n) ty us.toList 0 (G.vals n).toArray w hheap (by simp only[Nat.zero_add,List.size_toArray];omega) hone
  simpa using this
 have hw1:w'.heap[G.blk n]?=some (.cells us ty (0,0)):=setRow_heap w _ _ _ ty _ hheap
 have hw2:∀ c,c≠G.blk n→w'.heap[c]?=w.heap[c]?:=fun c h=>setRow_other w _ c _ h
 let L':Labs:=fun c=>match G.L c with
  |some (.box m,r)=>if m=n then none else some (.box m,r)
  |o=>o
 have hL':∀ c l,L' c=some l→G.L c=some l∧∀ r,l≠(.box n,r):=by
  intro c l h
  simp only[L'] at h
  split at h
  ·rename_i m r hg
   split at h
   ·cases h
   ·rename_i hm
    cases h
    exact ⟨hg,fun r' e=>hm (by cases e;rfl)⟩
  ·rename_i hg
   exact ⟨h,fun r e=>hg n r (by rw[h,e])⟩
 have hsz:w'.heap.size=w.heap.size:=setRow_size w _ _
 have s1:=s.newBox (w':=w') n hn ⟨false,[]⟩ [] 0 L'
  (fun c c' l h h'=>s.inj c c' l (hL' c l h).1 (hL' c' l h').1)
  (fun c l h=>by have:=s.lab c l (hL' c l h).1;exact ⟨by omega,this.2⟩)
  (fun m hm c r h=>⟨by simp only[L',h,if_neg hm],hw2 c (fun e=>by subst e;rw[hLb] at h;cases h;exact hm rfl)⟩)
  (fun c h=>⟨by simp only[L',(s.zone c h).1],hw2 c (fun e=>by have:=(s.zone c h).1;subst e;rw[hLb] at this;cases this)⟩)
  (fun c h1 h2=>hw2 c (fun e=>by
   subst e
   rcases (s.lab _ _ hLb).2 with h | h
   ·omega
   ·exact h2 h))
  (by omega) ⟨rfl,rfl,rfl⟩ (by rw[RepL];trivial) rfl (fun h=>by cases h)
 have hLn:L' (G.blk n)=none:=by simp only[L',hLb,if_true]
 have hlab:=s.lab _ _ hLb
 obtain ⟨s2,hslot⟩:=s1.addZn (b:=G.blk n) hLn (by omega) hlab.2
 have hy2:RepV C _ w' _ (killV n [] (st.s y0)) (a.tmps.getD y0 Go.undef):=s2.slot y0
 rw[show killV n [] (st.s y0)=.agg (killVs n [] xs) by rw[hy,killV],RepV] at hy2
 obtain ⟨us',e,hr2⟩:=hy2
 rw[hyv] at e
 cases e
 have s3:=s2.slotAs (t:=a0) (v:=.va (killVs n [] xs)) (by
  rw[hptr,RepV]
  exact ⟨G.blk n,0,us,ty,(0,0),rfl,hw1,.inr rfl,by simpa using hr2⟩)
 obtain ⟨i,hi,hsi⟩:=info_of_cells (P:=C.P) (t:=t) (by omega)
 obtain ⟨G3,s3⟩:=(⟨_,s3⟩:∃ G3,Sim C G3 _ [] a w')
 refine ⟨G3,w',undef,.inr ⟨?_,rfl⟩,?_⟩
 ·unfold execOp;rw[ho]
  have hs2:us.size=i.size:=by
   rw[← hsi,hlen,← hul]
   simp
  have e1:a.eval (.tmp a0)=.pointer (some ⟨G.blk n,0,none⟩):=hptr
  have e2:a.eval (.tmp y0)=.agg us:=hyv
  simp only[Instr.storeAt,Instr.sureAddr,e1,e2,storeVar,Sem.run_bind,Sem.run_pure,Result.andThen_ok,r_size hi]
  have e3:(Value.agg us).cells=us:=rfl
  rw[e3]
  have hst2:Sem.run C.P (storeCells { block:=G.blk n,off:=0 } us.toList) w=.ok () w':=hst
  simp [hs2,hst2]
 ·rw[hd]
  exact s3
end
section
variable {C:Ctx} {f:FuncId} {Q:Value→World→Prop} {K:List It} {st:St}
theorem good_opOK {all:Array Oper} {o:Oper} {rest:List Oper} {st':St} (hw:WF (.ops all (o :: rest))) (hg:guardOK st all o) (hop:∀ G a w,Sim C G st [] a w→OpOK C o st' a w) (h:Good C f Q (.ops all rest :: K) st') :
  Good C f Q (.ops all (o :: rest) :: K) st:=by
 obtain ⟨pre,hpre⟩:=hw
 obtain ⟨hidx,ho⟩:=idx_cons hpre
 have hitem:(It.ops all (o :: rest)).item=.inRegion all (pre.length :: (List.range all.size).drop (all.size-rest.length)):=by rw[It.item,hidx]
 intro G a w s
 obtain ⟨G',w',v,hx,s'⟩:=hop G a w s
 refine (h G' _ w' s').step fun b cs _=>?_
 rw[List.map_cons,List.map_cons,hitem]
 exact step_op ho (wanted_of hg s) hx
end
end TM
namespace TM
open Go
theorem forgets_killPs:∀ ks:List (Option Spot),Forgets (killPs ks)
 |[]=>forgets_id
 |none :: ks=>forgets_killPs ks
 |some (n,p) :: ks=>(forgets_killPs ks).comp (forgets_kill n p)
theorem Forgets.keep_ref {k j:LV→LV} (h:Forgets k) (_g:Forgets j) {m:Nm} {q:List Nat} {lo hi:Nat} (e:k (j (.ref m q lo hi))=.ref m q lo hi):k (.ref m q lo hi)=.ref m q lo hi∧j (.ref m q lo hi)=.ref m q lo hi:=by
 rcases _g.ref m q lo hi with h1 | h1
 ·rw[h1] at e;exact ⟨e,h1⟩
 ·rw[h1,h.dead] at e;cases e
theorem Forgets.keep_addr {k j:LV→LV} (h:Forgets k) (_g:Forgets j) {m:Nm} {q:List Nat} (e:k (j (.addr m q))=.addr m q):k (.addr m q)=.addr m q∧j (.addr m q)=.addr m q:=by
 rcases _g.addr m q with h1 | h1
 ·rw[h1] at e;exact ⟨e,h1⟩
 ·rw[h1,h.dead] at e;cases e
theorem forget_again {g f f':LV→LV} (hg:Forgets g) (hf:Forgets f) (hf':Forgets f') (hr:∀ m q lo hi,g (.ref m q lo hi)=.ref m q lo hi→f (.ref m q lo hi)=f' (.ref m q lo hi)) (ha:∀ m q,g (.addr m q)=.addr m q→f (.addr m q)=f' (.addr m q)) (k:LV→LV) (hk:Forgets k)
  (kr:∀ m q lo hi,g (.ref m q lo hi)=.ref m q lo hi→k (.ref m q lo hi)=.ref m q lo hi) (ka:∀ m q,g (.addr m q)=.addr m q→k (.addr m q)=.addr m q) (v:LV):k (f (g v))=f' (g v):=by
 refine Forgets.ext (hk.comp (hf.comp hg)) (hf'.comp hg) (fun m q lo hi=>?_) (fun m q=>?_) v
 ·rcases hg.ref m q lo hi with h | h
  ·rw[h,hr _ _ _ _ h]
   rcases hf'.ref m q lo hi with h2 | h2
   ·rw[h2];exact kr _ _ _ _ h
   ·rw[h2];exact hk.dead
  ·rw[h,hf.dead,hf'.dead];exact hk.dead
 ·rcases hg.addr m q with h | h
  ·rw[h,ha _ _ h]
   rcases hf'.addr m q with h2 | h2
   ·rw[h2];exact ka _ _ h
   ·rw[h2];exact hk.dead
  ·rw[h,hf.dead,hf'.dead];exact hk.dead
theorem seen_keep {k:LV→LV} (hk:Forgets k) {n:Nm} (kr:∀ q lo hi,k (.ref n q lo hi)=.ref n q lo hi) {p:List Nat} {x:T}:k (seen n p x)=seen n p x:=by
 unfold seen
 split
 all_goals first
  |exact hk.t _
  |exact kr _ _ _
  |exact hk.raddr _
  |exact hk.dead
theorem seens_keep {k:LV→LV} (hk:Forgets k) {n:Nm} (kr:∀ q lo hi,k (.ref n q lo hi)=.ref n q lo hi) {p:List Nat}:∀ {xs:List T} {j:Nat},(seens n p j xs).map k=seens n p j xs
 |[],_=>rfl
 |x :: xs,j=>by simp only[seens,List.map_cons,seen_keep hk kr,seens_keep hk kr]
theorem resLV_keep {k:LV→LV} (hk:Forgets k) {d:Nat} (kr:∀ m q lo hi,gone d m=true→k (.ref m q lo hi)=.ref m q lo hi) (ka:∀ m q,gone d m=true→k (.addr m q)=.addr m q) (res:List Arg):k (resLV d res)=resLV d res:=by
 have key:∀ (res:List Arg) (j:Nat),2≤j→(resLVs d j res).map k=resLVs d j res:=by
  intro res
  induction res with
  |nil=>intro j _;rfl
  |cons r rs ih=>
   intro j hj
   have hg:gone d (d,j)=true:=by simp [gone,hj]
   have h1:k (resOne d j r)=resOne d j r:=by
    cases r with
    |one x=>exact seen_keep hk fun q lo hi=>kr _ _ _ _ hg
    |agg cs=>simp only[resOne];rw[hk.agg,seens_keep hk fun q lo hi=>kr _ _ _ _ hg]
    |ptr cs=>exact ka _ _ hg
    |own x=>exact hk.dead
    |owns cs=>exact hk.dead
   simp only[resLVs,List.map_cons,h1,ih (j+1) (by omega)]
 have h2:=key res 2 (Nat.le_refl _)
 unfold resLV
 generalize resLVs d 2 res=vs at h2
 match vs,h2 with
 |[],_=>simp only[tupLV];rw[hk.tup];rfl
 |[v],h2=>simpa [tupLV] using h2
 |v :: u :: vs,h2=>simp only[tupLV];rw[hk.tup,h2]
def PartsOK (b:Nm→Box):List LV→List T→Prop
 |[],ys=>ys=[]
 |.t x :: vs,y :: ys=>y=x∧x≠.hole∧PartsOK b vs ys
 |.ref n p 0 hi :: vs,y :: ys=>(∃ es r,y=.sl .own es∧rowAt (b n).cells p=some (.sl .own es :: r)∧hi=es.length)∧PartsOK b vs ys
 |_,_=>False
theorem Indep.symm {n n':Nm} {p p':List Nat} (h:Indep n p n' p'):Indep n' p' n p:=by
 rcases h with h | ⟨c,c',h1,h2,h3⟩
 ·exact .inl (Ne.symm h)
 ·exact .inr ⟨c',c,h2,h1,Ne.symm h3⟩
theorem parts_pin {b b1:Nm→Box} {n:Nm} {p:List Nat} {y:T} (h:setB b n p y=some b1):∀ {vs:List LV} {ys:List T},PartsOK b vs ys→(∀ n' p',some (n',p')∈spotsOf vs→Indep n p n' p')→PartsOK b1 vs ys
 |[],ys,hp,_=>hp
 |.t x :: vs,y :: ys,hp,hi=>by simp only[PartsOK] at *;exact ⟨hp.1,hp.2.1,parts_pin h hp.2.2 fun n' p' hm=>hi n' p' (by simp [spotsOf,hm])⟩
 |.ref n' p' 0 hi' :: vs,y :: ys,hp,hi=>by
  simp only[PartsOK] at *
  obtain ⟨⟨es,r,h1,h2,h3⟩,h4⟩:=hp
  obtain ⟨r',h5⟩:=setB_row (hi n' p' (by simp [spotsOf])).symm h h2
  exact ⟨⟨es,r',h1,h5,h3⟩,parts_pin h h4 fun n'' p'' hm=>hi n'' p'' (by simp [spotsOf,hm])⟩
 |.ref _ _ (_+1) _ :: _,_ :: _,hp,_=>by simp only[PartsOK] at hp
 |.t _ :: _,[],hp,_=>by simp only[PartsOK] at hp
 |.ref _ _ _ _ :: _,[],hp,_=>by simp only[PartsOK] at hp
 |.addr _ _ :: _,ys,hp,_=>by cases ys<;>simp only[PartsOK] at hp
 |.raddr _ :: _,ys,hp,_=>by cases ys<;>simp only[PartsOK] at hp
 |.agg _ :: _,ys,hp,_=>by cases ys<;>simp only[PartsOK] at hp
 |.tup _ :: _,ys,hp,_=>by cases ys<;>simp only[PartsOK] at hp
 |.fn _ _ :: _,ys,hp,_=>by cases ys<;>simp only[PartsOK] at hp
 |.dead :: _,ys,hp,_=>by cases ys<;>simp only[PartsOK] at hp
theorem setB_anew {st:St} {n:Nm} {p:List Nat} {y:T} {cs:List T} (h:setAt (st.b n).cells p y=some cs):setB st.b n p y=some (st.anew n p cs).b:=setB_mk h
theorem parts_alive {st:St}:∀ {vs:List LV} {ys:List T},PartsOK st.b vs ys→AliveR st vs
 |[],ys,_=>fun m q lo hi h=>by simp at h
 |.t x :: vs,y :: ys,hp=>by
  simp only[PartsOK] at hp
  intro m q lo hi h
  exact parts_alive hp.2.2 m q lo hi (by simpa using h)
 |.ref n p 0 hi' :: vs,y :: ys,hp=>by
  simp only[PartsOK] at hp
  obtain ⟨⟨es,r,h1,h2,h3⟩,h4⟩:=hp
  intro m q lo hi h
  rcases List.mem_cons.1 h with h | h
  ·cases h;exact ⟨es,r,h2⟩
  ·exact parts_alive h4 m q lo hi h
 |.ref _ _ (_+1) _ :: _,_ :: _,hp=>by simp only[PartsOK] at hp
 |.t _ :: _,[],hp=>by simp only[PartsOK] at hp
 |.ref _ _ _ _ :: _,[],hp=>by simp only[PartsOK] at hp
 |.addr _ _ :: _,ys,hp=>by cases ys<;>simp only[PartsOK] at hp
 |.raddr _ :: _,ys,hp=>by cases ys<;>simp only[PartsOK] at hp
 |.agg _ :: _,ys,hp=>by cases ys<;>simp only[PartsOK] at hp
 |.tup _ :: _,ys,hp=>by cases ys<;>simp only[PartsOK] at hp
 |.fn _ _ :: _,ys,hp=>by cases ys<;>simp only[PartsOK] at hp
 |.dead :: _,ys,hp=>by cases ys<;>simp only[PartsOK] at hp
theorem parts_lift:∀ {vs:List LV} {ys:List T} {st:St},PartsOK st.b vs ys→PairsE (spotsOf vs)→CanLift st vs
 |[],ys,st,_,_=>trivial
 |.t x :: vs,y :: ys,st,hp,hi=>by
  simp only[PartsOK] at hp
  exact ⟨hp.2.1,parts_lift hp.2.2 hi⟩
 |.ref n p 0 hi' :: vs,y :: ys,st,hp,hi=>by
  simp only[PartsOK] at hp
  obtain ⟨⟨es,r,h1,h2,h3⟩,h4⟩:=hp
  refine ⟨es,r,h2,h3,fun y=>setAt_ex p y h2,fun hv cs hc=>?_⟩
  have h5:=parts_pin (setB_anew hc) h4 hi.1
  exact ⟨parts_alive h5,parts_lift h5 hi.2⟩
 |.ref _ _ (_+1) _ :: _,_ :: _,_,hp,_=>by simp only[PartsOK] at hp
 |.t _ :: _,[],_,hp,_=>by simp only[PartsOK] at hp
 |.ref _ _ _ _ :: _,[],_,hp,_=>by simp only[PartsOK] at hp
 |.addr _ _ :: _,ys,_,hp,_=>by cases ys<;>simp only[PartsOK] at hp
 |.raddr _ :: _,ys,_,hp,_=>by cases ys<;>simp only[PartsOK] at hp
 |.agg _ :: _,ys,_,hp,_=>by cases ys<;>simp only[PartsOK] at hp
 |.tup _ :: _,ys,_,hp,_=>by cases ys<;>simp only[PartsOK] at hp
 |.fn _ _ :: _,ys,_,hp,_=>by cases ys<;>simp only[PartsOK] at hp
 |.dead :: _,ys,_,hp,_=>by cases ys<;>simp only[PartsOK] at hp
theorem parts_det {vs:List LV} {xs:List T} {sp:List (Option (Nm×List Nat×Value))} {st st1:St} (h:Lift st vs xs sp st1):∀ {ys:List T},PartsOK st.b vs ys→PairsE (spotsOf vs)→xs=ys:=by
 induction h with
 |nil st=>intro ys hp _;simp only[PartsOK] at hp;exact hp.symm
 |plain h ih=>
  intro ys hp hi
  cases ys with
  |nil=>simp only[PartsOK] at hp
  |cons y ys=>
   simp only[PartsOK] at hp
   rw[hp.1,ih hp.2.2 hi]
 |@own st st1 n p es r cs hv vs xs sp hr hs h ih=>
  intro ys hp hi
  cases ys with
  |nil=>simp only[PartsOK] at hp
  |cons y ys=>
   simp only[PartsOK] at hp
   obtain ⟨⟨es',r',h1,h2,h3⟩,h4⟩:=hp
   rw[hr] at h2
   cases h2
   rw[h1,ih (parts_pin (setB_anew hs) h4 hi.1) hi.2]
section
variable {ρ:Type} {N:Nat} {vs:VS} {st:St} {y:ρ}
theorem rowC_lk {n:Nm} {p:Pth} {k:List Cl→Co ρ} (h:rowC n p k vs=some y) (R:Rel vs st):∃ row vs',k row vs'=some y∧rowAt (st.b n).cells (pthL p)=some (encs row)∧Same vs vs':=by
 obtain ⟨row,vs',h1,h2,_,h3⟩:=rowC_ref (N:=0) (m:=fun _=>M.ok ()) h R
 exact ⟨row,vs',h1,h2,h3⟩
theorem Same.rel {a b:VS} (h:Same a b) (R:Rel a st):Rel b st:=by
 have:=R.lg b.lg
 rw[← h.1,← h.2] at this
 exact this
theorem partO_some {v:TV} {lv:LV} {t:ST} {f:Fg} {k:Cl→Co ρ} (h:partO v t f k vs=some y) (R:Rel vs st) (hv:RelV (Qs st.b) v lv) :
  ∃ a vs',k ⟨t,f,a⟩ vs'=some y∧Same vs vs'∧PartsOK st.b [lv] [encT t f a]:=by
 cases v with
 |c x=>
  simp only[partO] at h
  simp only[RelV] at hv
  subst hv
  cases hs:solid x.t x.f with
  |false=>rw[hs] at h;cases h
  |true=>
   rw[hs] at h
   simp only at h
   obtain ⟨a,h,h1⟩:=conv_some h
   exact ⟨a,_,h,.rfl,by simp only[PartsOK];exact ⟨h1,solid_enc hs,trivial⟩⟩
 |ref n p sub=>
  cases sub with
  |some _=>cases h
  |none=>
   simp only[RelV] at hv
   obtain ⟨hi,rfl,hq⟩:=hv
   simp only[partO] at h
   obtain ⟨row,vs1,h,hrow,s1⟩:=rowC_lk h R
   cases row with
   |nil=>cases h
   |cons c rest=>
    obtain ⟨tc,g,l⟩:=c
    cases tc with
    |sl r=>
     simp only at h
     cases ho:ownF g with
     |false=>rw[ho] at h;cases h
     |true=>
      rw[ho] at h
      simp only at h
      obtain ⟨a,h,h1⟩:=conv_some h
      obtain ⟨es,hes⟩:=ownF_enc (l:=l) ho
      refine ⟨a,_,h,s1,?_⟩
      simp only[PartsOK]
      refine ⟨⟨es,encs rest,by rw[h1];exact hes,?_,?_⟩,trivial⟩
      ·rw[hrow,← hes];rfl
      ·obtain ⟨es',r',k1,k2⟩:=hq
       rw[hrow] at k1
       have k3:(Cl.mk (.sl r) g l).enc :: encs rest=T.sl .own es' :: r':=Option.some.inj k1
       rw[hes] at k3
       cases k3
       exact k2
    |_=>cases h
 |_=>cases h
theorem PartsOK.cons {b:Nm→Box} {v:LV} {x:T} {vs:List LV} {xs:List T} (h:PartsOK b [v] [x]) (h':PartsOK b vs xs):PartsOK b (v :: vs) (x :: xs):=by
 cases v with
 |t z=>simp only[PartsOK] at *;exact ⟨h.1,h.2.1,h'⟩
 |ref n p lo hi=>
  cases lo with
  |zero=>simp only[PartsOK] at *;exact ⟨h.1,h'⟩
  |succ lo=>simp only[PartsOK] at h
 |_=>simp only[PartsOK] at h
theorem partsO_some:∀ {us:List TV} {lvs:List LV} {r:List (ST×Fg)} {k:List Cl→Co ρ} {vs:VS},partsO us r k vs=some y→Rel vs st→RelVs (Qs st.b) us lvs →
  ∃ cs vs',k cs vs'=some y∧Same vs vs'∧PartsOK st.b lvs (encs cs)∧cs.length=r.length
 |[],lvs,[],k,vs,h,R,hv=>by
  simp only[RelVs] at hv
  subst hv
  exact ⟨[],vs,h,.rfl,by simp [PartsOK,encs],rfl⟩
 |u :: us,[],_,k,vs,h,R,hv=>by simp only[RelVs] at hv
 |u :: us,lv :: lvs,(t,f) :: r,k,vs,h,R,hv=>by
  simp only[RelVs] at hv
  simp only[partsO] at h
  obtain ⟨a,vs1,h,s1,h1⟩:=partO_some h R hv.1
  obtain ⟨cs,vs2,h,s2,h2,h3⟩:=partsO_some h (s1.rel R) hv.2
  exact ⟨_,vs2,h,s1.trans s2,by rw[encs,List.map_cons];exact h1.cons h2,by simp [h3]⟩
 |[],_,_ :: _,k,vs,h,_,_=>by cases h
 |_ :: _,_,[],k,vs,h,_,_=>by cases h
def ArgsO (b:Nm→Box) (i0:Nat) (v0:TV) (lv0:LV):Nat→List LV→List Arg→Prop
 |_,[],[]=>True
 |i,lv :: lvs,a :: as=>(if i=i0 then lv=lv0∧∃ ys,PartsOK b lv0.cells ys∧a=ownArg lv0 ys else ∃ x y,lv=.t x∧a=.one y∧(y=x∨y=frz x))∧ArgsO b i0 v0 lv0 (i+1) lvs as
 |_,_,_=>False
theorem cells_parts {v:TV} {lv:LV} (hv:RelV (Qs st.b) v lv) {t:ST} {f:Fg} {k:Cl→Co ρ} (h:partO v t f k vs=some y):lv.cells=[lv]∧isAggT v=false:=by
 cases v with
 |c x=>simp only[RelV] at hv;subst hv;exact ⟨rfl,rfl⟩
 |ref n p sub=>
  cases sub with
  |some _=>cases h
  |none=>simp only[RelV] at hv;obtain ⟨_,rfl,_⟩:=hv;exact ⟨rfl,rfl⟩
 |_=>cases h
theorem ownArg_one {lv:LV} {x:T} (h:lv.cells=[lv]) (hn:∀ xs,lv≠.agg xs):ownArg lv [x]=.own x:=by
 cases lv<;>first | rfl | exact absurd rfl (hn _)
theorem ownAt_step {i:Nat} {v:TV} {us:List TV} {a:AP} {as:List AP}:ownAt i (v :: us) (a :: as)=match a with
  |.own _ _=>some (i,v)
  |.owns _=>some (i,v)
  |_=>ownAt (i+1) us as:=by cases a<;>rfl
theorem ownAt_ge:∀ {us:List TV} {as:List AP} {i i0:Nat} {v0:TV},ownAt i us as=some (i0,v0)→i≤i0
 |[],_,_,_,_,h=>by simp [ownAt] at h
 |_ :: _,[],_,_,_,h=>by simp [ownAt] at h
 |v :: us,a :: as,i,i0,v0,h=>by
  rw[ownAt_step] at h
  cases a with
  |own t f=>simp only[Option.some.injEq,Prod.mk.injEq] at h;omega
  |owns r=>simp only[Option.some.injEq,Prod.mk.injEq] at h;omega
  |_=>have:=ownAt_ge h;omega
theorem argsO_none:∀ {us:List TV} {lvs:List LV} {as:List AP} {k:List Cl→Co ρ} {vs:VS} {i i0:Nat} {v0:TV} {lv0:LV},argsO us as k vs=some y→Rel vs st→RelVs (Qs st.b) us lvs→ownN? as=0→i0<i →
  ∃ cs vs',k cs vs'=some y∧Same vs vs'∧ArgsO st.b i0 v0 lv0 i lvs (argsL as (encs cs))
 |[],lvs,[],k,vs,i,i0,v0,lv0,h,R,hv,_,_=>by
  simp only[RelVs] at hv
  subst hv
  exact ⟨[],vs,h,.rfl,by simp [ArgsO,argsL]⟩
 |u :: us,[],_,k,vs,i,i0,v0,lv0,h,R,hv,_,_=>by simp only[RelVs] at hv
 |u :: us,lv :: lvs,a :: as,k,vs,i,i0,v0,lv0,h,R,hv,hn,hi=>by
  simp only[RelVs] at hv
  cases a with
  |own t f=>simp [ownN?] at hn
  |owns r=>simp [ownN?] at hn
  |one t f=>
   cases u with
   |c x=>
    simp only[argsO] at h
    obtain ⟨z,h,hz⟩:=lendC_some h
    obtain ⟨cs,vs',h,s,h2⟩:=argsO_none (i:=i+1) (i0:=i0) (v0:=v0) (lv0:=lv0) h R hv.2 hn (by omega)
    refine ⟨_,vs',h,s,?_⟩
    have h1:=hv.1
    simp only[RelV] at h1
    subst h1
    simp only[encs,List.map_cons,argsL,AP.arg,AP.len,List.take_succ_cons,List.take_zero,List.drop_succ_cons,List.drop_zero,List.headD_cons,ArgsO]
    exact ⟨by rw[if_neg (by omega)];exact ⟨_,_,rfl,rfl,hz⟩,h2⟩
   |_=>cases h
  |agg r=>cases u<;>cases h
  |ptr r=>cases u<;>cases h
 |[],_,_ :: _,k,vs,_,_,_,_,h,_,_,_,_=>by cases h
 |u :: us,_,[],k,vs,_,_,_,_,h,_,_,_,_=>by cases u<;>cases h
theorem argsO_some:∀ {us:List TV} {lvs:List LV} {as:List AP} {k:List Cl→Co ρ} {vs:VS} {i i0:Nat} {v0:TV},argsO us as k vs=some y→Rel vs st→RelVs (Qs st.b) us lvs→ownN? as=1→ownAt i us as=some (i0,v0) →
  ∃ cs vs' lv0,k cs vs'=some y∧Same vs vs'∧RelV (Qs st.b) v0 lv0∧lvs[i0-i]?=some lv0∧ArgsO st.b i0 v0 lv0 i lvs (argsL as (encs cs))∧i0-i<as.length
 |[],lvs,[],k,vs,i,i0,v0,h,R,hv,hn,_=>by simp [ownN?] at hn
 |u :: us,[],_,k,vs,i,i0,v0,h,R,hv,_,_=>by simp only[RelVs] at hv
 |u :: us,lv :: lvs,a :: as,k,vs,i,i0,v0,h,R,hv,hn,ho=>by
  simp only[RelVs] at hv
  rw[ownAt_step] at ho
  cases a with
  |own t f=>
   simp only[Option.some.injEq,Prod.mk.injEq] at ho
   obtain ⟨rfl,rfl⟩:=ho
   have hn':ownN? as=0:=by simp only[ownN?] at hn;omega
   have h:partO u t f (fun c=>argsO us as fun cs=>k (c :: cs)) vs=some y:=by
    cases u<;>first | exact h | cases h
   obtain ⟨e1,e2⟩:=cells_parts hv.1 h
   have hna:∀ xs,lv≠.agg xs:=by
    intro xs e
    have h1:=hv.1
    rw[e] at h1
    cases u with
    |c x=>simp only[RelV] at h1;cases h1
    |ref n p sub=>cases sub with
     |some _=>cases h
     |none=>simp only[RelV] at h1;obtain ⟨_,h1,_⟩:=h1;cases h1
    |agg _=>cases e2
    |_=>cases h
   obtain ⟨a,vs1,h,s1,h1⟩:=partO_some h R hv.1
   obtain ⟨cs,vs2,h,s2,h2⟩:=argsO_none (i:=i+1) (i0:=i) (v0:=u) (lv0:=lv) h (s1.rel R) hv.2 hn' (by omega)
   refine ⟨_,vs2,lv,h,s1.trans s2,hv.1,by simp,?_,by simp⟩
   simp only[encs,List.map_cons,argsL,AP.arg,AP.len,List.take_succ_cons,List.take_zero,List.drop_succ_cons,List.drop_zero,List.headD_cons,ArgsO]
   refine ⟨?_,h2⟩
   simp only[if_true]
   exact ⟨trivial,[encT t f a],by rw[e1];exact h1,(ownArg_one e1 hna).symm⟩
  |owns r=>
   simp only[Option.some.injEq,Prod.mk.injEq] at ho
   obtain ⟨rfl,rfl⟩:=ho
   have hn':ownN? as=0:=by simp only[ownN?] at hn;omega
   cases u with
   |agg xs=>
    simp only[argsO] at h
    have hv1:=hv.1
    simp only[RelV] at hv1
    obtain ⟨ls,rfl,hls⟩:=hv1
    obtain ⟨cs1,vs1,h,s1,h1,hl1⟩:=partsO_some h R hls
    obtain ⟨cs,vs2,h,s2,h2⟩:=argsO_none (i:=i+1) (i0:=i) (v0:=.agg xs) (lv0:=.agg ls) h (s1.rel R) hv.2 hn' (by omega)
    refine ⟨_,vs2,.agg ls,h,s1.trans s2,hv.1,by simp,?_,by simp⟩
    have e1:(encs (cs1++cs)).take r.length=encs cs1:=by simp [encs,← hl1]
    have e2:(encs (cs1++cs)).drop r.length=encs cs:=by simp [encs,← hl1]
    simp only[argsL,AP.arg,AP.len,e1,e2,ArgsO]
    refine ⟨?_,h2⟩
    simp only[if_true]
    exact ⟨trivial,encs cs1,h1,rfl⟩
   |_=>cases h
  |one t f=>
   have hge:=ownAt_ge ho
   cases u with
   |c x=>
    simp only[argsO] at h
    obtain ⟨z,h,hz⟩:=lendC_some h
    obtain ⟨cs,vs',lv0,h,s,q1,q2,h2,h3⟩:=argsO_some (i:=i+1) h R hv.2 hn ho
    refine ⟨_,vs',lv0,h,s,q1,?_,?_,by simp only[List.length_cons];omega⟩
    ·rw[show i0-i=(i0-(i+1))+1 by omega]
     simpa using q2
    ·have h1:=hv.1
     simp only[RelV] at h1
     subst h1
     simp only[encs,List.map_cons,argsL,AP.arg,AP.len,List.take_succ_cons,List.take_zero,List.drop_succ_cons,List.drop_zero,List.headD_cons,ArgsO]
     exact ⟨by rw[if_neg (by omega)];exact ⟨_,_,rfl,rfl,hz⟩,h2⟩
   |_=>cases h
  |agg r=>cases u<;>cases h
  |ptr r=>cases u<;>cases h
 |[],_,_ :: _,k,vs,_,_,_,h,_,_,_,_=>by cases h
 |u :: us,_,[],k,vs,_,_,_,h,_,_,_,_=>by cases u<;>cases h
theorem argsO_get {b:Nm→Box} {i0:Nat} {v0:TV} {lv0:LV}:∀ {lvs:List LV} {as:List Arg} {i:Nat},ArgsO b i0 v0 lv0 i lvs as→lvs.length=as.length∧∀ (j:Nat) c,as[j]?=some c→∃ lv,lvs[j]?=some lv∧(if i+j=i0 then lv=lv0∧∃ ys,PartsOK b lv0.cells ys∧c=ownArg lv0 ys else ∃ x y,lv=.t x∧c=.one y∧(y=x∨y=frz x))
 |[],[],i,_=>⟨rfl,fun j c h=>by simp at h⟩
 |[],_ :: _,i,h=>by simp only[ArgsO] at h
 |_ :: _,[],i,h=>by simp only[ArgsO] at h
 |lv :: lvs,a :: as,i,h=>by
  simp only[ArgsO] at h
  obtain ⟨h1,h2⟩:=argsO_get h.2
  refine ⟨by simp [h1],fun j c hc=>?_⟩
  cases j with
  |zero=>simp only[List.getElem?_cons_zero,Option.some.injEq] at hc;subst hc;exact ⟨lv,by simp,h.1⟩
  |succ j=>
   obtain ⟨lv',k1,k2⟩:=h2 j c (by simpa using hc)
   exact ⟨lv',by simpa using k1,by rw[show i+(j+1)=i+1+j by omega];exact k2⟩
theorem apart1_ok {n:Nm} {p:Pth}:∀ {us:List TV} {lvs:List LV},apart1 n p us=true→RelVs (Qs st.b) us lvs→∀ n' p',some (n',p')∈spotsOf lvs→Indep n (pthL p) n' p'
 |[],lvs,_,hv,n',p',hm=>by simp only[RelVs] at hv;subst hv;simp [spotsOf] at hm
 |u :: us,[],_,hv,_,_,_=>by simp only[RelVs] at hv
 |u :: us,lv :: lvs,h,hv,n',p',hm=>by
  simp only[RelVs] at hv
  cases u with
  |ref m q sub=>
   cases sub with
   |some s=>cases h
   |none=>
    have h1:=hv.1
    simp only[RelV] at h1
    obtain ⟨hi,rfl,_⟩:=h1
    simp only[apart1,Bool.and_eq_true] at h
    simp only[spotsOf,List.mem_cons,Option.some.injEq,Prod.mk.injEq] at hm
    rcases hm with ⟨rfl,rfl⟩ | hm
    ·have h2:=h.1
     simp only[Bool.or_eq_true,Bool.and_eq_true,Bool.not_eq_true'] at h2
     rcases h2 with h2 | ⟨h2,h3,h4⟩
     ·refine .inl fun e=>?_
      subst e
      rw[nm_eq.2 rfl] at h2
      cases h2
     ·refine .inr ⟨p.c0,q.c0,?_,?_,fun e=>?_⟩
      ·obtain ⟨c,r⟩:=p
       simp only[List.isEmpty_iff] at h2
       subst h2
       rfl
      ·obtain ⟨c,r⟩:=q
       simp only[List.isEmpty_iff] at h3
       subst h3
       rfl
      ·rw[e,Nat.beq_refl] at h4
       cases h4
    ·exact apart1_ok h.2 hv.2 n' p' hm
  |c x=>
   have h1:=hv.1
   simp only[RelV] at h1
   subst h1
   simp only[apart1] at h
   exact apart1_ok h hv.2 n' p' (by simpa [spotsOf] using hm)
  |_=>cases h
theorem apartT_ok {d:Nat} {nb:Nm}:∀ {us:List TV} {lvs:List LV},apartT d nb us=true→RelVs (Qs st.b) us lvs→PairsE (spotsOf lvs)∧∀ n p,some (n,p)∈spotsOf lvs→n≠nb∧gone d n=false
 |[],lvs,_,hv=>by simp only[RelVs] at hv;subst hv;exact ⟨trivial,fun n p h=>by simp [spotsOf] at h⟩
 |u :: us,[],_,hv=>by simp only[RelVs] at hv
 |u :: us,lv :: lvs,h,hv=>by
  simp only[RelVs] at hv
  cases u with
  |ref m q sub=>
   cases sub with
   |some s=>cases h
   |none=>
    have h1:=hv.1
    simp only[RelV] at h1
    obtain ⟨hi,rfl,_⟩:=h1
    simp only[apartT,Bool.and_eq_true,Bool.not_eq_true'] at h
    obtain ⟨⟨g1,g2⟩,g3,g4⟩:=h
    obtain ⟨k1,k2⟩:=apartT_ok g4 hv.2
    refine ⟨⟨fun n' p' hm=>apart1_ok g3 hv.2 n' p' hm,k1⟩,fun n p hm=>?_⟩
    simp only[spotsOf,List.mem_cons,Option.some.injEq,Prod.mk.injEq] at hm
    rcases hm with ⟨rfl,rfl⟩ | hm
    ·refine ⟨fun e=>?_,by rw[← gone_eq];exact g2⟩
     rw[e,nm_eq.2 rfl] at g1
     cases g1
    ·exact k2 n p hm
  |c x=>
   have h1:=hv.1
   simp only[RelV] at h1
   subst h1
   simp only[apartT] at h
   obtain ⟨k1,k2⟩:=apartT_ok h hv.2
   exact ⟨k1,fun n p hm=>k2 n p (by simpa [spotsOf] using hm)⟩
  |_=>cases h
theorem putsT_ref {d:Nat} {nb:Nm}:∀ {us:List TV} {cs:List Cl} {lvs:List LV} {Q:Nm→Pth→Nat→Prop} {vs:VS} {st:St} {k:Co ρ},putsT us cs k vs=some y→backH us cs=true→apartT d nb us=true→RelVs Q us lvs→Rel vs st →
  ∃ vs' bF,k vs'=some y∧putsE st.b (encs cs) (spotsOf lvs)=some bF∧Rel vs' ⟨fun t=>killPs (spotsOf lvs) (st.s t),bF⟩
 |[],[],lvs,Q,vs,st,k,h,_,_,hv,R=>by
  simp only[RelVs] at hv
  subst hv
  exact ⟨vs,st.b,h,rfl,R⟩
 |[],_ :: _,_,_,_,_,_,_,hb,_,_,_=>by cases hb
 |u :: _,[],_,_,_,_,_,_,hb,_,_,_=>by cases u<;>cases hb
 |u :: us,c :: cs,[],_,_,_,_,_,_,_,hv,_=>by simp only[RelVs] at hv
 |u :: us,c :: cs,lv :: lvs,Q,vs,st,k,h,hb,ha,hv,R=>by
  simp only[RelVs] at hv
  cases u with
  |c x=>
   have h1:=hv.1
   simp only[RelV] at h1
   subst h1
   simp only[backH] at hb
   simp only[apartT] at ha
   simp only[putsT] at h
   obtain ⟨vs',bF,g1,g2,g3⟩:=putsT_ref h hb ha hv.2 R
   exact ⟨vs',bF,g1,by simpa [spotsOf,putsE,encs] using g2,by simpa [spotsOf,killPs] using g3⟩
  |ref n p sub=>
   cases sub with
   |some s=>cases ha
   |none=>
    have h1:=hv.1
    simp only[RelV] at h1
    obtain ⟨hi,rfl,_⟩:=h1
    simp only[backH,Bool.and_eq_true] at hb
    simp only[apartT,Bool.and_eq_true] at ha
    simp only[putsT,rdB] at h
    cases hl:lookB vs.b n with
    |none=>rw[hl] at h;cases h
    |some bx=>
     rw[hl] at h
     simp only at h
     obtain ⟨b1,b2⟩:=R.b n bx hl
     obtain ⟨cs',h,hset⟩:=putAt_some _ h
     simp only[kill,wrB] at h
     have hset':setAt (st.b n).cells (pthL p) c.enc=some (encs cs'):=by rw[b2];exact hset
     have R2:=rel_kb (p:=p) (x:=⟨bx.real,cs'⟩) (lg:=.wB n :: .kp n p :: .rB n :: vs.lg) R (n:=n) (fun q es' r' hp hr=>rowAt_setAt _ _ hset' hp hr)
     have e:st.kb n (pthL p) ⟨bx.real,encs cs'⟩=st.anew n (pthL p) (encs cs'):=by
      simp only[St.kb,St.anew,b1]
     simp only[e] at R2
     obtain ⟨vs',bF,g1,g2,g3⟩:=putsT_ref h hb.2 ha.2.2 hv.2 R2
     refine ⟨vs',bF,g1,?_,?_⟩
     ·simp only[spotsOf,encs,List.map_cons,putsE]
      rw[setB_anew hset']
      exact g2
     ·simpa [spotsOf,killPs,St.anew] using g3
  |_=>cases ha
theorem backH_len {d:Nat} {nb:Nm}:∀ {us:List TV} {cs:List Cl},backH us cs=true→apartT d nb us=true→us.length=cs.length
 |[],[],_,_=>rfl
 |[],_ :: _,h,_=>by cases h
 |u :: _,[],h,_=>by cases u<;>cases h
 |u :: us,c :: cs,h,ha=>by
  cases u with
  |c x=>simp only[backH] at h;simp only[apartT] at ha;simp [backH_len h ha]
  |ref n p sub=>
   cases sub with
   |some s=>cases ha
   |none=>
    simp only[backH,Bool.and_eq_true] at h
    simp only[apartT,Bool.and_eq_true] at ha
    simp [backH_len h.2 ha.2.2]
  |_=>cases ha
theorem backO_own {d:Nat} {nb:Nm} {Q:Nm→Pth→Nat→Prop}:∀ {us:List TV} {cs:List Cl} {lvs:List LV},backO us cs=true→apartT d nb us=true→RelVs Q us lvs→∀ (j:Nat) n p,(spotsOf lvs)[j]?=some (some (n,p))→∃ es,(encs cs)[j]?=some (.sl .own es)
 |[],_,lvs,_,_,hv,j,n,p,hj=>by simp only[RelVs] at hv;subst hv;simp [spotsOf] at hj
 |u :: _,[],_,h,_,_,_,_,_,_=>by cases u<;>cases h
 |u :: us,c :: cs,[],_,_,hv,_,_,_,_=>by simp only[RelVs] at hv
 |u :: us,c :: cs,lv :: lvs,h,ha,hv,j,n,p,hj=>by
  simp only[RelVs] at hv
  cases u with
  |c x=>
   have h1:=hv.1
   simp only[RelV] at h1
   subst h1
   simp only[backO] at h
   simp only[apartT] at ha
   simp only[spotsOf] at hj
   cases j with
   |zero=>simp at hj
   |succ j=>simpa [encs] using backO_own h ha hv.2 j n p (by simpa using hj)
  |ref m q sub=>
   cases sub with
   |some s=>cases ha
   |none=>
    have h1:=hv.1
    simp only[RelV] at h1
    obtain ⟨hi,rfl,_⟩:=h1
    simp only[backO,Bool.and_eq_true] at h
    simp only[apartT,Bool.and_eq_true] at ha
    simp only[spotsOf] at hj
    cases j with
    |zero=>
     obtain ⟨es,hes⟩:=own_enc h.1
     exact ⟨es,by simp [encs,hes]⟩
    |succ j=>simpa [encs] using backO_own h.2 ha.2.2 hv.2 j n p (by simpa using hj)
  |_=>cases ha
theorem isHole_enc {c:Cl} (h:c.isHole=true):c.enc=.hole:=by
 obtain ⟨t,f,x⟩:=c
 cases t<;>simp [Cl.isHole] at h
 simp [Cl.enc,encT]
theorem backH_get {d:Nat} {nb:Nm} {Q:Nm→Pth→Nat→Prop}:∀ {us:List TV} {cs:List Cl} {lvs:List LV},backH us cs=true→apartT d nb us=true→RelVs Q us lvs→∀ (j:Nat) n p,(spotsOf lvs)[j]?=some (some (n,p))→∃ x,(encs cs)[j]?=some x∧((∃ es,x=.sl .own es)∨x=.hole)
 |[],_,lvs,_,_,hv,j,n,p,hj=>by simp only[RelVs] at hv;subst hv;simp [spotsOf] at hj
 |u :: _,[],_,h,_,_,_,_,_,_=>by cases u<;>cases h
 |u :: us,c :: cs,[],_,_,hv,_,_,_,_=>by simp only[RelVs] at hv
 |u :: us,c :: cs,lv :: lvs,h,ha,hv,j,n,p,hj=>by
  simp only[RelVs] at hv
  cases u with
  |c x=>
   have h1:=hv.1
   simp only[RelV] at h1
   subst h1
   simp only[backH] at h
   simp only[apartT] at ha
   simp only[spotsOf] at hj
   cases j with
   |zero=>simp at hj
   |succ j=>simpa [encs] using backH_get h ha hv.2 j n p (by simpa using hj)
  |ref m q sub=>
   cases sub with
   |some s=>cases ha
   |none=>
    have h1:=hv.1
    simp only[RelV] at h1
    obtain ⟨hi,rfl,_⟩:=h1
    simp only[backH,Bool.and_eq_true,Bool.or_eq_true] at h
    simp only[apartT,Bool.and_eq_true] at ha
    simp only[spotsOf] at hj
    cases j with
    |zero=>
     rcases h.1 with h1 | h1
     ·obtain ⟨es,hes⟩:=own_enc h1
      exact ⟨c.enc,by simp [encs],.inl ⟨es,hes⟩⟩
     ·exact ⟨c.enc,by simp [encs],.inr (isHole_enc h1)⟩
    |succ j=>simpa [encs] using backH_get h.2 ha.2.2 hv.2 j n p (by simpa using hj)
  |_=>cases ha
theorem outsO_lt {i0:Nat}:∀ {os:List (List (ST×Fg))} {i:Nat},outsO i0 i os=true→i0<i→(os.flatMap id)=[]
 |[],_,_,_=>rfl
 |o :: os,i,h,hi=>by
  simp only[outsO,Bool.and_eq_true,Bool.or_eq_true,List.isEmpty_iff] at h
  have h1:o=[]:=by
   rcases h.1 with h1 | h1
   ·have:=Nat.eq_of_beq_eq_true h1;omega
   ·exact h1
  rw[List.flatMap_cons,h1,outsO_lt (i:=i+1) h.2 (by omega)]
  rfl
theorem outsO_get {i0:Nat}:∀ {os:List (List (ST×Fg))} {i:Nat} {ts:List T},outsO i0 i os=true→i≤i0→i0<i+os.length→ts.length=(os.flatMap id).length→(outsL os ts).getD (i0-i) []=ts
 |[],i,ts,_,h1,h2,_=>by simp at h2;omega
 |o :: os,i,ts,h,h1,h2,hl=>by
  simp only[outsO,Bool.and_eq_true,Bool.or_eq_true,List.isEmpty_iff] at h
  rcases Nat.eq_or_lt_of_le h1 with e | e
  ·subst e
   have h3:=outsO_lt (i:=i+1) h.2 (by omega)
   rw[List.flatMap_cons,h3,List.append_nil] at hl
   simp only[id] at hl
   simp only[Nat.sub_self,outsL,List.getD_cons_zero]
   rw[← hl,List.take_length]
  ·have h3:o=[]:=by
    rcases h.1 with h3 | h3
    ·have:=Nat.eq_of_beq_eq_true h3;omega
    ·exact h3
   subst h3
   rw[show i0-i=(i0-(i+1))+1 by omega]
   simp only[outsL,List.length_nil,List.drop_zero,List.getD_cons_succ]
   exact outsO_get h.2 (by omega) (by simp only[List.length_cons] at h2;omega) (by simpa using hl)
theorem mvO_len {nb:Nm} {i0:Nat}:∀ (os:List (List (ST×Fg))) (i:Nat),os.length=(mvO nb i0 i os).length
 |[],_=>rfl
 |_ :: os,i=>by simp [mvO,← mvO_len os]
theorem mvO_eq {nb:Nm} {i0:Nat}:∀ (os:List (List (ST×Fg))) (i:Nat),mvO nb i0 i os=(List.range' i os.length).map fun j=>if j=i0 then some nb else none
 |[],_=>rfl
 |_ :: os,i=>by
  rw[mvO,List.length_cons,List.range'_succ,List.map_cons,mvO_eq os (i+1)]
  congr 1
  by_cases h:i=i0
  ·subst h;rw[Nat.beq_refl,if_pos rfl]
  ·have:Nat.beq i i0=false:=by
    cases hb:Nat.beq i i0 with
    |false=>rfl
    |true=>exact absurd (Nat.eq_of_beq_eq_true hb) h
   rw[this,if_neg h]
theorem argsL_len:∀ (as:List AP) (ts:List T),(argsL as ts).length=as.length
 |[],_=>rfl
 |a :: as,ts=>by simp [argsL,argsL_len as]
end
theorem rel_newbox {vs:VS} {st:St} (R:Rel vs st) (n:Nm) (x:VB) (lg:List Ft) :
  Rel ⟨killS (killA n) vs.s,(n,x) :: vs.b,lg⟩ ⟨fun u=>killV n [] (st.s u),fun k=>if k=n then ⟨x.real,encs x.cells⟩ else st.b k⟩:=by
 refine ⟨fun t=>?_,fun k z hz=>?_⟩
 ·simp only
  rw[look_killS _ (by simp [killA])]
  refine RelV.mono (fun k q hi h=>?_) _ _ (RelV.killA n _ _ (R.s t))
  obtain ⟨⟨es,r,h1,h2⟩,h3⟩:=h
  exact ⟨es,r,by simpa [h3] using h1,h2⟩
 ·simp only[lookB] at hz
  by_cases hk:k=n
  ·subst hk
   rw[nm_eq.2 rfl] at hz
   cases hz
   simp
  ·have:nmEq n k=false:=by
    cases h:nmEq n k with
    |false=>rfl
    |true=>exact absurd (nm_eq.1 h).symm hk
   rw[this] at hz
   simpa [hk] using R.b k z hz
theorem ownAfter_eq {st:St} {d:Nat} {nb:Nm} {mv:List (Option Nm)} {args:List Arg} {outs:List (List T)} {res:List Arg} {ks:List (Option Spot)} {bF:Nm→Box} {c:Box} (hks:∀ n p,some (n,p)∈ks→gone d n=false) (hmv:∀ m,m≠nb→mvIdx m 0 mv=none) :
  ownAfter st d nb mv args outs res ks bF=⟨fun t=>killV nb [] ((afterCall ⟨fun t=>killV nb [] (killPs ks (st.s t)),fun m=>if m=nb then c else bF m⟩ d mv args outs res).s t),fun m=>if m=nb then ⟨false,[]⟩ else (afterCall ⟨fun t=>killV nb [] (killPs ks (st.s t)),fun m=>if m=nb then c else bF m⟩ d mv args outs res).b m⟩:=by
 have fk:=forgets_killPs ks
 have fn:=forgets_kill nb []
 have keepK:∀ ks:List (Option Spot),(∀ n p,some (n,p)∈ks→gone d n=false)→∀ m,gone d m=true→(∀ q lo hi,killPs ks (.ref m q lo hi)=.ref m q lo hi)∧∀ q,killPs ks (.addr m q)=.addr m q:=by
  intro ks
  induction ks with
  |nil=>intro _ m _;exact ⟨fun _ _ _=>rfl,fun _=>rfl⟩
  |cons o ks ih=>
   intro hks m hm
   have ih:=ih (fun n p h=>hks n p (by simp [h])) m hm
   cases o with
   |none=>exact ih
   |some x=>
    obtain ⟨n,p⟩:=x
    have hne:m≠n:=by
     rintro rfl
     rw[hks m p (by simp)] at hm
     cases hm
    refine ⟨fun q lo hi=>?_,fun q=>?_⟩
    ·simp only[killPs];rw[killV,if_neg (fun h=>hne h.1)];exact ih.1 q lo hi
    ·simp only[killPs];rw[killV,if_neg (fun h=>hne h.1)];exact ih.2 q
 refine St.ext' (fun t=>?_) fun m=>?_
 ·simp only[ownAfter,afterCall]
  by_cases ht:t=d
  ·simp only[if_pos ht]
   rw[fk.comm fn]
   congr 1
   exact resLV_keep fk (fun m q lo hi hg=>(keepK ks hks m hg).1 q lo hi) (fun m q hg=>(keepK ks hks m hg).2 q) res
  ·simp only[if_neg ht]
   exact forget_again (g:=fun v=>killV nb [] (killPs ks v)) (f:=fun v=>killV nb [] (callV d mv args outs v)) (f':=fun v=>killV nb [] (callV d mv args outs v)) (fn.comp fk) (fn.comp (forgets_call d _ args outs)) (fn.comp (forgets_call d _ args outs)) (fun _ _ _ _ _=>rfl) (fun _ _ _=>rfl) (killPs ks) fk (fun m q lo hi h=>(fn.keep_ref fk h).2) (fun m q h=>(fn.keep_addr fk h).2) (st.s t)
 ·simp only[ownAfter,afterCall]
  by_cases h1:m=nb
  ·simp only[if_pos h1]
  ·simp only[if_neg h1,hmv m h1]
theorem mvIdx_one {nb m:Nm} {i0:Nat} (h:m≠nb):∀ (l:List Nat) (i:Nat),mvIdx m i (l.map fun j=>if j=i0 then some nb else none)=none
 |[],_=>rfl
 |j :: l,i=>by
  simp only[List.map_cons]
  split
  ·simp only[mvIdx,if_neg (Ne.symm h)];exact mvIdx_one h l (i+1)
  ·simp only[mvIdx];exact mvIdx_one h l (i+1)
mutual
def keepV (nl:Nm→List Nat→Nat→Option Nat):LV→LV→LV
 |.ref n p lo hi,v1=>match lo,nl n p hi with
  |0,some h=>.ref n p 0 h
  |_,_=>v1
 |.agg xs,v1=>match v1 with
  |.agg ys=>.agg (keepVs nl xs ys)
  |v1=>v1
 |.va xs,v1=>match v1 with
  |.va ys=>.va (keepVs nl xs ys)
  |v1=>v1
 |.t _,v1=>v1
 |.addr _ _,v1=>v1
 |.raddr _,v1=>v1
 |.tup _,v1=>v1
 |.fn _ _,v1=>v1
 |.dead,v1=>v1
def keepVs (nl:Nm→List Nat→Nat→Option Nat):List LV→List LV→List LV
 |[],ys=>ys
 |x :: xs,ys=>match ys with
  |y :: ys=>keepV nl x y :: keepVs nl xs ys
  |[]=>[]
end
section
variable {C:Ctx} {G G':Gh} {w w':World} {b b':Nm→Box} {nl:Nm→List Nat→Nat→Option Nat}
mutual
theorem keepV_rep (hz:∀ b,G.Zn b→w'.heap[b]?=w.heap[b]?) (h:∀ n p hi l u,nl n p hi=some l→RepV C G w b (.ref n p 0 hi) u→RepV C G' w' b' (.ref n p 0 l) u):∀ (lv lv1:LV) (u:Value),RepV C G w b lv u→RepV C G' w' b' lv1 u→RepV C G' w' b' (keepV nl lv lv1) u
 |.ref n p lo hi,lv1,u,h0,h1=>by
  cases lo with
  |succ lo=>simp only[keepV];exact h1
  |zero=>
   cases hl:nl n p hi with
   |none=>simp only[keepV,hl];exact h1
   |some l=>simp only[keepV,hl];exact h n p hi l u hl h0
 |.agg xs,lv1,u,h0,h1=>by
  cases lv1 with
  |agg ys=>
   simp only[keepV]
   rw[RepV] at h0 h1
   obtain ⟨us,rfl,h0⟩:=h0
   obtain ⟨us',e,h1⟩:=h1
   cases e
   rw[RepV]
   exact ⟨us,rfl,keepVs_rep hz h xs ys _ h0 h1⟩
  |_=>simp only[keepV];exact h1
 |.va xs,lv1,u,h0,h1=>by
  cases lv1 with
  |va ys=>
   simp only[keepV]
   rw[RepV] at h0 h1
   obtain ⟨b0,off0,vs0,ty0,fr0,rfl,q2,q3,h0⟩:=h0
   obtain ⟨b1,off1,vs1,ty1,fr1,e,p2,p3,h1⟩:=h1
   simp only[Value.pointer.injEq,Option.some.injEq,Addr.mk.injEq,and_true] at e
   obtain ⟨rfl,rfl⟩:=e
   have hsame:=hz b0 q3
   rw[p2,q2] at hsame
   simp only[Option.some.injEq,Obj.cells.injEq] at hsame
   obtain ⟨rfl,rfl,rfl⟩:=hsame
   rw[RepV]
   exact ⟨b0,off0,vs1,ty1,fr1,rfl,p2,p3,keepVs_rep hz h xs ys _ h0 h1⟩
  |_=>simp only[keepV];exact h1
 |.t _,lv1,u,_,h1=>by simp only[keepV];exact h1
 |.addr _ _,lv1,u,_,h1=>by simp only[keepV];exact h1
 |.raddr _,lv1,u,_,h1=>by simp only[keepV];exact h1
 |.tup _,lv1,u,_,h1=>by simp only[keepV];exact h1
 |.fn _ _,lv1,u,_,h1=>by simp only[keepV];exact h1
 |.dead,lv1,u,_,h1=>by simp only[keepV];exact h1
theorem keepVs_rep (hz:∀ b,G.Zn b→w'.heap[b]?=w.heap[b]?) (h:∀ n p hi l u,nl n p hi=some l→RepV C G w b (.ref n p 0 hi) u→RepV C G' w' b' (.ref n p 0 l) u):∀ (lvs lvs1:List LV) (us:List Value),RepVs C G w b lvs us→RepVs C G' w' b' lvs1 us→RepVs C G' w' b' (keepVs nl lvs lvs1) us
 |[],lvs1,us,_,h1=>by simp only[keepVs];exact h1
 |x :: xs,[],us,_,h1=>by simp only[keepVs];exact h1
 |x :: xs,y :: ys,[],h0,_=>by rw[RepVs] at h0;exact h0.elim
 |x :: xs,y :: ys,u :: us,h0,h1=>by
  rw[RepVs] at h0 h1
  simp only[keepVs]
  rw[RepVs]
  exact ⟨keepV_rep hz h x y u h0.1 h1.1,keepVs_rep hz h xs ys us h0.2 h1.2⟩
end
end
section
variable {Q Q1:Nm→Pth→Nat→Prop} {ps:List TV} {nl:Nm→List Nat→Nat→Option Nat}
mutual
theorem keep_rel (hy:∀ n p hi,inPs n p ps=true→Q n p hi→∃ l,nl n (pthL p) hi=some l∧Q1 n p l) (hn:∀ n p hi,inPs n p ps=false→nl n (pthL p) hi=none):∀ (v:TV) (lv:LV) (v1:TV) (lv1:LV),RelV Q v lv→RelV Q1 v1 lv1→RelV Q1 (stayT ps v v1) (keepV nl lv lv1)
 |.ref n p none,lv,v1,lv1,h,h1=>by
  simp only[RelV] at h
  obtain ⟨hi,rfl,hq⟩:=h
  simp only[stayT,keepV]
  cases hp:inPs n p ps with
  |true=>
   obtain ⟨l,h2,h3⟩:=hy n p hi hp hq
   rw[h2]
   simp only[RelV]
   exact ⟨l,rfl,h3⟩
  |false=>rw[hn n p hi hp];exact h1
 |.ref _ _ (some _),lv,v1,lv1,_,_=>by simp only[stayT,RelV]
 |.agg xs,lv,v1,lv1,h,h1=>by
  simp only[RelV] at h
  obtain ⟨ls,rfl,h⟩:=h
  cases v1 with
  |agg ys=>
   simp only[RelV] at h1
   obtain ⟨ls1,rfl,h1⟩:=h1
   simp only[stayT,keepV,RelV]
   exact ⟨_,rfl,keeps_rel hy hn xs ls ys ls1 h h1⟩
  |_=>simp only[stayT,RelV]
 |.va xs,lv,v1,lv1,h,h1=>by
  simp only[RelV] at h
  obtain ⟨ls,rfl,h⟩:=h
  cases v1 with
  |va ys=>
   simp only[RelV] at h1
   obtain ⟨ls1,rfl,h1⟩:=h1
   simp only[stayT,keepV,RelV]
   exact ⟨_,rfl,keeps_rel hy hn xs ls ys ls1 h h1⟩
  |_=>simp only[stayT,RelV]
 |.dead,lv,v1,lv1,_,_=>by simp only[stayT,RelV]
 |.c x,lv,v1,lv1,h,h1=>by simp only[RelV] at h;subst h;simp only[stayT,keepV];exact h1
 |.addr n p,lv,v1,lv1,h,h1=>by simp only[RelV] at h;subst h;simp only[stayT,keepV];exact h1
 |.raddr cs,lv,v1,lv1,h,h1=>by simp only[RelV] at h;subst h;simp only[stayT,keepV];exact h1
 |.tup xs,lv,v1,lv1,h,h1=>by simp only[RelV] at h;obtain ⟨ls,rfl,_⟩:=h;simp only[stayT,keepV];exact h1
 |.fn g xs,lv,v1,lv1,h,h1=>by simp only[RelV] at h;obtain ⟨ls,rfl,_⟩:=h;simp only[stayT,keepV];exact h1
theorem keeps_rel (hy:∀ n p hi,inPs n p ps=true→Q n p hi→∃ l,nl n (pthL p) hi=some l∧Q1 n p l) (hn:∀ n p hi,inPs n p ps=false→nl n (pthL p) hi=none):∀ (v:List TV) (lv:List LV) (v1:List TV) (lv1:List LV),RelVs Q v lv→RelVs Q1 v1 lv1→RelVs Q1 (stayTs ps v v1) (keepVs nl lv lv1)
 |[],lv,v1,lv1,h,h1=>by simp only[RelVs] at h;subst h;simp only[stayTs,keepVs];exact h1
 |x :: xs,[],v1,lv1,h,_=>by simp only[RelVs] at h
 |x :: xs,l :: ls,[],lv1,h,h1=>by simp only[RelVs] at h1;subst h1;simp only[stayTs,keepVs,RelVs]
 |x :: xs,l :: ls,y :: ys,[],_,h1=>by simp only[RelVs] at h1
 |x :: xs,l :: ls,y :: ys,l1 :: ls1,h,h1=>by
  simp only[RelVs] at h h1
  simp only[stayTs,keepVs,RelVs]
  exact ⟨keep_rel hy hn x l y l1 h.1 h1.1,keeps_rel hy hn xs ls ys ls1 h.2 h1.2⟩
end
end
theorem look_stayS {ps:List TV} {s1:List (Nat×TV)}:∀ (s0:List (Nat×TV)) (t:Nat),lookS (stayS ps s1 s0) t=stayT ps (lookS s0 t) (lookS s1 t)
 |[],t=>by simp only[stayS,lookS,stayT]
 |(u,v) :: l,t=>by
  simp only[stayS,lookS]
  cases h:Nat.beq u t with
  |true=>rw[Nat.eq_of_beq_eq_true h]
  |false=>exact look_stayS l t
def lenAt (b:Nm→Box) (n:Nm) (p:List Nat):Option Nat:=match rowAt (b n).cells p with
 |some (.sl .own es :: _)=>some es.length
 |_=>none
theorem lenAt_some {b:Nm→Box} {n:Nm} {p:List Nat} {l:Nat} (h:lenAt b n p=some l):∃ es r,rowAt (b n).cells p=some (.sl .own es :: r)∧l=es.length:=by
 unfold lenAt at h
 split at h
 ·rename_i es r hr
  cases h
  exact ⟨es,r,hr,rfl⟩
 ·cases h
theorem lenAt_mk {b:Nm→Box} {n:Nm} {p:List Nat} {es:List (List T)} {r:List T} (h:rowAt (b n).cells p=some (.sl .own es :: r)):lenAt b n p=some es.length:=by
 unfold lenAt
 rw[h]
def newLen (ks:List (Option Spot)) (b b':Nm→Box) (n:Nm) (p:List Nat) (hi:Nat):Option Nat:=if p.length=1∧some (n,p)∈ks∧lenAt b n p=some hi then lenAt b' n p else none
def keepSt (st S:St) (d:Nat) (ks:List (Option Spot)):St:=⟨fun t=>if t=d then S.s d else keepV (newLen ks st.b S.b) (st.s t) (S.s t),S.b⟩
theorem Sim.keep {C:Ctx} {G G':Gh} {st S:St} {a:Act} {w w':World} {d:Nat} {v:Value} {ks:List (Option Spot)} (hd:d<C.N) (s:Sim C G st [] a w) (s':Sim C G' S [] (a.put (some d) v) w')
  (hz:∀ b,G.Zn b→w'.heap[b]?=w.heap[b]?)
  (h:∀ n p es r u,some (n,p)∈ks→rowAt (st.b n).cells p=some (.sl .own es :: r)→RepV C G w st.b (.ref n p 0 es.length) u→∃ es' r',rowAt (S.b n).cells p=some (.sl .own es' :: r')∧RepV C G' w' S.b (.ref n p 0 es'.length) u) :
  Sim C G' (keepSt st S d ks) [] (a.put (some d) v) w':=by
 refine { s' with slot:=fun t=>?_ }
 have h1:=s'.slot t
 simp only[keepSt]
 by_cases ht:t=d
 ·subst ht
  rw[if_pos rfl]
  exact h1
 ·rw[if_neg ht]
  rw[getD_put (by rw[s.len];exact hd),if_neg ht] at h1 ⊢
  refine keepV_rep hz (fun n p hi l u hl hu=>?_) _ _ _ (s.slot t) h1
  unfold newLen at hl
  split at hl
  ·rename_i hc
   obtain ⟨es,r,e1,rfl⟩:=lenAt_some hc.2.2
   obtain ⟨es',r',e2,e3⟩:=h n p es r u hc.2.1 e1 hu
   rw[lenAt_mk e2] at hl
   cases hl
   exact e3
  ·cases hl
theorem inPs_spot {Q:Nm→Pth→Nat→Prop} {n:Nm} {p:Pth}:∀ {us:List TV} {lvs:List LV},RelVs Q us lvs→inPs n p us=true→p.r=[]∧some (n,pthL p)∈spotsOf lvs
 |[],_,_,h=>by cases h
 |u :: us,[],hv,_=>by simp only[RelVs] at hv
 |u :: us,lv :: lvs,hv,h=>by
  simp only[RelVs] at hv
  have tail:inPs n p us=true→p.r=[]∧some (n,pthL p)∈spotsOf (lv :: lvs):=fun h=>by
   obtain ⟨h1,h2⟩:=inPs_spot hv.2 h
   refine ⟨h1,?_⟩
   cases lv<;>simp [spotsOf,h2]
  cases u with
  |ref m q sub=>
   cases sub with
   |some s=>exact tail h
   |none=>
    have h1:=hv.1
    simp only[RelV] at h1
    obtain ⟨hi,rfl,_⟩:=h1
    simp only[inPs,Bool.or_eq_true,Bool.and_eq_true] at h
    rcases h with ⟨h1,h2,h3,h4⟩ | h
    ·obtain ⟨c,r⟩:=p
     obtain ⟨c',r'⟩:=q
     simp only[List.isEmpty_iff] at h1 h2
     subst h1
     subst h2
     have:=nm_eq.1 h3
     subst this
     have:=Nat.eq_of_beq_eq_true h4
     simp only at this
     subst this
     exact ⟨rfl,by simp [spotsOf]⟩
    ·exact tail h
  |_=>exact tail h
theorem spot_inPs {Q:Nm→Pth→Nat→Prop} {d:Nat} {nb n:Nm} {p:Pth} (hp:p.r=[]):∀ {us:List TV} {lvs:List LV},RelVs Q us lvs→apartT d nb us=true→some (n,pthL p)∈spotsOf lvs→inPs n p us=true
 |[],lvs,hv,_,h=>by simp only[RelVs] at hv;subst hv;simp [spotsOf] at h
 |u :: us,[],hv,_,_=>by simp only[RelVs] at hv
 |u :: us,lv :: lvs,hv,ha,h=>by
  simp only[RelVs] at hv
  cases u with
  |c x=>
   have h1:=hv.1
   simp only[RelV] at h1
   subst h1
   simp only[apartT] at ha
   simp only[inPs]
   exact spot_inPs hp hv.2 ha (by simpa [spotsOf] using h)
  |ref m q sub=>
   cases sub with
   |some s=>cases ha
   |none=>
    have h1:=hv.1
    simp only[RelV] at h1
    obtain ⟨hi,rfl,_⟩:=h1
    simp only[apartT,Bool.and_eq_true] at ha
    simp only[inPs,Bool.or_eq_true,Bool.and_eq_true]
    simp only[spotsOf,List.mem_cons,Option.some.injEq,Prod.mk.injEq] at h
    rcases h with ⟨rfl,h⟩ | h
    ·obtain ⟨c,r⟩:=p
     obtain ⟨c',r'⟩:=q
     simp only at hp
     subst hp
     cases r' with
     |cons x r'=>simp [pthL] at h
     |nil=>
      simp only[pthL,List.flatMap_nil,List.cons.injEq,and_true] at h
      subst h
      exact .inl ⟨rfl,rfl,nm_eq.2 rfl,Nat.beq_refl _⟩
    ·exact .inr (spot_inPs hp hv.2 ha.2.2 h)
  |_=>cases ha
section
variable {C:Ctx} {f:FuncId} {Q:Value→World→Prop} {K:List It} {ρ:Type} {y:ρ} {E:En} {rec:Rec}
theorem parts_full {b:Nm→Box}:∀ {vs:List LV} {ys:List T},PartsOK b vs ys→∀ n p lo hi,LV.ref n p lo hi∈vs→lo=0∧∃ es r,rowAt (b n).cells p=some (.sl .own es :: r)∧hi=es.length
 |[],ys,_,n,p,lo,hi,h=>by simp at h
 |.t x :: vs,y :: ys,hp,n,p,lo,hi,h=>by
  simp only[PartsOK] at hp
  exact parts_full hp.2.2 n p lo hi (by simpa using h)
 |.ref m q 0 hi' :: vs,y :: ys,hp,n,p,lo,hi,h=>by
  simp only[PartsOK] at hp
  obtain ⟨⟨es,r,h1,h2,h3⟩,h4⟩:=hp
  rcases List.mem_cons.1 h with h | h
  ·cases h;exact ⟨rfl,es,r,h2,h3⟩
  ·exact parts_full h4 n p lo hi h
 |.ref _ _ (_+1) _ :: _,_ :: _,hp,_,_,_,_,_=>by simp only[PartsOK] at hp
 |.t _ :: _,[],hp,_,_,_,_,_=>by simp only[PartsOK] at hp
 |.ref _ _ _ _ :: _,[],hp,_,_,_,_,_=>by simp only[PartsOK] at hp
 |.addr _ _ :: _,ys,hp,_,_,_,_,_=>by cases ys<;>simp only[PartsOK] at hp
 |.raddr _ :: _,ys,hp,_,_,_,_,_=>by cases ys<;>simp only[PartsOK] at hp
 |.agg _ :: _,ys,hp,_,_,_,_,_=>by cases ys<;>simp only[PartsOK] at hp
 |.tup _ :: _,ys,hp,_,_,_,_,_=>by cases ys<;>simp only[PartsOK] at hp
 |.va _ :: _,ys,hp,_,_,_,_,_=>by cases ys<;>simp only[PartsOK] at hp
 |.fn _ _ :: _,ys,hp,_,_,_,_,_=>by cases ys<;>simp only[PartsOK] at hp
 |.dead :: _,ys,hp,_,_,_,_,_=>by cases ys<;>simp only[PartsOK] at hp
theorem Rel.to_eq {vs:VS} {st st':St} (R:Rel vs st) (e:st=st'):Rel vs st':=e ▸ R
theorem spots_agg {lv0:LV}:lv0=.agg lv0.cells∨lv0.cells=[lv0]∧∀ xs,lv0≠.agg xs:=by
 cases lv0<;>first | exact .inl rfl | exact .inr ⟨rfl,fun xs h=>by cases h⟩
theorem relV_cells {Q:Nm→Pth→Nat→Prop} {v:TV} {lv:LV} {d:Nat} {nb:Nm} (h:RelV Q v lv) (ha:apartT d nb (cellsTV v)=true):RelVs Q (cellsTV v) lv.cells:=by
 cases v with
 |agg xs=>simp only[RelV] at h;obtain ⟨ls,rfl,h⟩:=h;exact h
 |c x=>simp only[RelV] at h;subst h;simp only[cellsTV,LV.cells,RelVs,RelV,and_true]
 |ref n p sub=>
  cases sub with
  |some s=>cases ha
  |none=>have h':=h;simp only[RelV] at h;obtain ⟨hi,rfl,_⟩:=h;simp only[cellsTV,LV.cells,RelVs,and_true];exact h'
 |_=>cases ha
theorem relVs_len {Q:Nm→Pth→Nat→Prop}:∀ {us:List TV} {lvs:List LV},RelVs Q us lvs→lvs.length=us.length
 |[],lvs,h=>by simp only[RelVs] at h;subst h;rfl
 |u :: us,[],h=>by simp only[RelVs] at h
 |u :: us,lv :: lvs,h=>by simp only[RelVs] at h;simp [relVs_len h.2]
theorem callO_good {k:Co ρ} {all:Array Oper} {o:Oper} {rest:List Oper} {vs:VS} {st:St} (hJ:Right E.P rec) (hP:C.P=E.P) (hN:C.N=E.N) (hw:WF (.ops all (o :: rest))) (hg:guardOK st all o)
  (ih:∀ vs st,k vs=some y→Rel vs st→Good C f Q (.ops all rest :: K) st) (h:callO E rec o k vs=some y) (R:Rel vs st):Good C f Q (.ops all (o :: rest) :: K) st:=by
 unfold callO at h
 cases hop:o.op with
 |call c=>
  cases hd:o.dst with
  |none=>rw[hop,hd] at h;cases h
  |some d=>
   rw[hop,hd] at h
   simp only at h
   cases hcal:c.callee with
   |value fo=>
    rw[hcal] at h
    simp only at h
    obtain ⟨fv,lf,vs1,l1,h,hfv,g1,k1⟩:=evT_rd (N:=E.N) h R
    obtain ⟨us,lus,vs2,l2,h,hus,g2,k2⟩:=evTs_rd (N:=E.N) h (g1.rel R)
    have R2:=g2.rel (g1.rel R)
    cases fv with
    |fn g caps=>
     simp only[RelV] at hfv
     obtain ⟨lcaps,rfl,hcaps⟩:=hfv
     simp only at h
     cases hp:pickA g vs2.b (us++caps) (E.tb g) with
     |none=>rw[hp] at h;cases h
     |some l=>
      rw[hp] at h
      simp only at h
      obtain ⟨hq,hlf⟩:=pickA_some hp
      cases hn:Nat.beq (ownN? l.args) 1 with
      |false=>rw[hn] at h;cases h
      |true=>
      cases ho:ownAt 0 (us++caps) l.args with
      |none=>rw[hn,ho] at h;cases h
      |some iv=>
       obtain ⟨i0,v0⟩:=iv
       rw[hn,ho] at h
       simp only at h
       have hall:=hus.append hcaps
       have hn1:ownN? l.args=1:=Nat.eq_of_beq_eq_true hn
       obtain ⟨cs,vs3,lv0,h,s3,hv0,hi0,hargs,hlt⟩:=argsO_some h R2 hall hn1 ho
       have R3:=s3.rel R2
       cases hc:(Nat.blt d E.N&&(apartT d (E.N+E.N,0) (cellsTV v0)&&(Nat.beq l.outs.length l.args.length&&(outsO i0 0 l.outs&&(allRes l.res&&nodupM (mvO (E.N+E.N,0) i0 0 l.outs)))))) with
       |false=>rw[hc] at h;cases h
       |true=>
        rw[hc] at h
        simp only[Bool.and_eq_true] at hc
        obtain ⟨c1,c3,c4,c5,c6,c7⟩:=hc
        simp only at h
        obtain ⟨x,h,hx⟩:=toRow_some h
        unfold call_ at h
        cases hz:rec l x with
        |none=>rw[hz] at h;cases h
        |some z=>
         rw[hz] at h
         simp only[Option.bind_some] at h
         have hj:=hJ l x z hz
         unfold J at hj
         rw[hq] at hj
         simp only at hj
         rw[hx,hlf] at hj
         cases hb:backH (cellsTV v0) ((ofRow l.outT z).take (outLen l)) with
         |false=>rw[hb] at h;cases h
         |true=>
          rw[hb] at h
          simp only at h
          have hrc:=relV_cells hv0 c3
          obtain ⟨vs4,bF,h,hputs,R4⟩:=putsT_ref h hb c3 hrc R3
          obtain ⟨hpair,hnm⟩:=apartT_ok c3 hrc
          obtain ⟨hlen,hget⟩:=argsO_get hargs
          have hlo:l.outs.length=l.args.length:=Nat.eq_of_beq_eq_true c4
          have hal:=argsL_len l.args (encs cs)
          rw[Nat.sub_zero] at hi0 hlt
          obtain ⟨c0,hc0⟩:∃ c0,(argsL l.args (encs cs))[i0]?=some c0:=⟨_,List.getElem?_eq_getElem (by omega)⟩
          obtain ⟨lv1,hl1,hl2⟩:=hget i0 c0 hc0
          simp only[Nat.zero_add,if_true] at hl2
          obtain ⟨rfl,ys,hys,rfl⟩:=hl2
          have hgn:gone d (E.N+E.N,0)=false:=by simp [gone]
          have hcts:=congrArg List.length (ofRow_cts l.outT z)
          rw[List.length_map] at hcts
          have hoL:(l.outs.flatMap id).length≤(ofRow l.outT z).length:=by
           rw[hcts];unfold Lb.outT;rw[List.length_append];omega
          have hos:(l.outsT (ofRow l.outT z)).getD i0 []=encs ((ofRow l.outT z).take (outLen l)):=by
           have:=outsO_get (i:=0) (ts:=encs ((ofRow l.outT z).take (outLen l))) c5 (Nat.zero_le _) (by omega) (by simp only[encs,List.length_map,List.length_take,outLen];omega)
           rw[Nat.sub_zero] at this
           exact this
          have hcell:lv1.cells.length=(cellsTV v0).length:=relVs_len hrc
          have hbN:∀ n p,some (n,p)∈spotsOf lv1.cells→(ownAfter st d (E.N+E.N,0) ((List.range (argsL l.args (encs cs)).length).map fun i=>if i=i0 then some (E.N+E.N,0) else none) (argsL l.args (encs cs)) (l.outsT (ofRow l.outT z)) (l.resT (ofRow l.outT z)) (spotsOf lv1.cells) bF).b n=bF n:=fun n p hm=>by
           obtain ⟨h1,h2⟩:=hnm n p hm
           simp only[ownAfter,if_neg h1,h2]
           simp
          have hdC:d<C.N:=by rw[hN];simpa using c1
          obtain ⟨ks,hks⟩:∃ ks:List (Option Spot),(backO (cellsTV v0) ((ofRow l.outT z).take (outLen l))=true∧keepO (cellsTV v0) ((ofRow l.outT z).take (outLen l))=cellsTV v0∧ks=spotsOf lv1.cells)∨(keepO (cellsTV v0) ((ofRow l.outT z).take (outLen l))=[]∧ks=[]):=by
           unfold keepO
           cases hbo:backO (cellsTV v0) ((ofRow l.outT z).take (outLen l)) with
           |true=>exact ⟨_,.inl ⟨rfl,rfl,rfl⟩⟩
           |false=>exact ⟨_,.inr ⟨rfl,rfl⟩⟩
          have hksub:∀ n p,some (n,p)∈ks→backO (cellsTV v0) ((ofRow l.outT z).take (outLen l))=true∧some (n,p)∈spotsOf lv1.cells:=fun n p hm=>by
           rcases hks with ⟨h1,_,rfl⟩ | ⟨_,rfl⟩
           ·exact ⟨h1,hm⟩
           ·simp at hm
          refine good_of_calls (d:=d) (st':=keepSt st (ownAfter st d (E.N+E.N,0) ((List.range (argsL l.args (encs cs)).length).map fun i=>if i=i0 then some (E.N+E.N,0) else none) (argsL l.args (encs cs)) (l.outsT (ofRow l.outT z)) (l.resT (ofRow l.outT z)) (spotsOf lv1.cells) bF) d ks) hw hg (fun G a w s=>(fun ⟨us,h1,h2,h3⟩=>⟨us.toArray,h1,h2,Calls.mono h3 fun e w' hR=>(fun ⟨v,hv,G',s',hz,hk⟩=>⟨v,hv,G',Sim.keep hdC s s' hz fun n p es r u hm hrow hu=>(fun ⟨j,hj⟩=>(fun ⟨es',he'⟩=>(fun ⟨r',q1,q2⟩=>⟨es',r',by rw[hbN n p (hksub n p hm).2];exact q1,q2⟩) (hk j es' n p es r u hj he' hrow hu)) (backO_own (hksub n p hm).1 c3 hrc j n p hj)) (List.getElem?_of_mem (hksub n p hm).2)⟩) hR⟩) (own_calls (i0:=i0) (v0:=lv1) (ps:=lv1.cells) (nb:=(E.N+E.N,0)) (args:=argsL l.args (encs cs)) (res:=l.resT (ofRow l.outT z)) (outs:=l.outsT (ofRow l.outT z)) (os:=encs ((ofRow l.outT z).take (outLen l))) (bF:=bF) hP hdC s (vs:=lus++lcaps) ?_ hl1 spots_agg hj hlen (fun xs st1 sp hl=>?_) (fun i c hi hc=>?_) (parts_lift hys hpair) hpair ⟨rfl,hgn⟩ hnm (parts_full hys) ?_ hos ?_ ?_ hputs)) ?_
          ·obtain ⟨q1,q2⟩:=(fits_reads g1.rd).1 ((fits_reads g1.rd).2 ⟨g1.fits,g2.fits⟩)
           unfold callOf
           rw[hop,hd]
           simp only[hcal,k1 st q1,k2 st q2]
          ·rw[hc0,parts_det hl hys hpair]
          ·obtain ⟨lv2,q1,q2⟩:=hget i c hc
           simp only[Nat.zero_add,if_neg hi] at q2
           obtain ⟨x1,y1,rfl,q3,q4⟩:=q2
           exact ⟨x1,y1,q1,q3,q4⟩
          ·rw[hal,← hlo];exact outsL_len _ _
          ·simp only[encs,List.length_map];rw[hcell,backH_len hb c3]
          ·exact backH_get hb c3 hrc
          ·have hrow:∀ n p,some (n,p)∈ks→∃ es r,rowAt (bF n).cells p=some (.sl .own es :: r):=fun n p hm=>by
            obtain ⟨hbo,hm⟩:=hksub n p hm
            obtain ⟨j,hj⟩:=List.getElem?_of_mem hm
            obtain ⟨lo,hi,hpj⟩:=spotsOf_get hj
            obtain ⟨_,es,r,g1,_⟩:=parts_full hys _ _ _ _ (List.mem_of_getElem? hpj)
            obtain ⟨x,hx1,⟨rF,hF1⟩,_⟩:=puts_at hpair hputs hj g1
            obtain ⟨es',hes'⟩:=backO_own hbo c3 hrc j n p hj
            rw[hx1] at hes'
            cases hes'
            exact ⟨es',rF,hF1⟩
           have eS:=ownAfter_eq (st:=st) (d:=d) (nb:=(E.N+E.N,0)) (mv:=(List.range (argsL l.args (encs cs)).length).map fun i=>if i=i0 then some (E.N+E.N,0) else none) (args:=argsL l.args (encs cs)) (outs:=l.outsT (ofRow l.outT z)) (res:=l.resT (ofRow l.outT z)) (ks:=spotsOf lv1.cells) (bF:=bF) (c:=⟨false,[]⟩) (fun n p h=>(hnm n p h).2) (fun m h=>mvIdx_one h _ _)
           simp only[freshNb,killBox,wrB] at h
           have R5:=rel_newbox R4 (E.N+E.N,0) ⟨false,[]⟩ (.wB (E.N+E.N,0) :: .kl (E.N+E.N,0) :: vs4.lg)
           have R6:=afterT_rel (d:=d) (args:=argsL l.args (encs cs)) R5 hcts (nodup_ok c7) (mvO_len l.outs 0) c6
           have R7:=rel_newbox R6 (E.N+E.N,0) ⟨false,[]⟩ (.wB (E.N+E.N,0) :: .kl (E.N+E.N,0) :: (afterT l d (mvO (E.N+E.N,0) i0 0 l.outs) (ofRow l.outT z) ⟨killS (killA (E.N+E.N,0)) vs4.s,((E.N+E.N,0),⟨false,[]⟩) :: vs4.b,.wB (E.N+E.N,0) :: .kl (E.N+E.N,0) :: vs4.lg⟩).lg)
           rw[mvO_eq,← List.range_eq_range',hlo,← hal] at R7
           rw[mvO_eq,← List.range_eq_range',hlo,← hal] at h
           have R8:=Rel.to_eq R7 eS.symm
           refine ih _ _ h ⟨fun t=>?_,R8.b⟩
           simp only[lookS,keepSt]
           by_cases ht:t=d
           ·subst ht
            rw[Nat.beq_refl,if_pos rfl]
            exact R8.s t
           ·have hbt:Nat.beq d t=false:=by
             cases hh:Nat.beq d t with
             |false=>rfl
             |true=>exact absurd (Nat.eq_of_beq_eq_true hh).symm ht
            rw[hbt,if_neg ht]
            simp only
            rw[look_stayS]
            refine keep_rel (Q:=Qs st.b) (fun n p hi hp hq=>?_) (fun n p hi hp=>?_) _ _ _ _ (R3.s t) (R8.s t)
            ·obtain ⟨hp1,hp2⟩:p.r=[]∧some (n,pthL p)∈ks:=by
              rcases hks with ⟨_,e,rfl⟩ | ⟨e,_⟩
              ·rw[e] at hp;exact inPs_spot hrc hp
              ·rw[e] at hp;cases hp
             obtain ⟨es,r,e1,rfl⟩:=hq
             obtain ⟨es',r',e2⟩:=hrow n _ hp2
             have hb':=hbN n _ (hksub n _ hp2).2
             refine ⟨es'.length,?_,es',r',by rw[hb'];exact e2,rfl⟩
             unfold newLen
             rw[if_pos ⟨by simp [pthL,hp1],hp2,lenAt_mk e1⟩]
             exact lenAt_mk (by rw[hb'];exact e2)
            ·unfold newLen
             rw[if_neg]
             rintro ⟨q1,q2,_⟩
             have hpr:p.r=[]:=by
              obtain ⟨c,r⟩:=p
              cases r with
              |nil=>rfl
              |cons x r=>simp [pthL] at q1
             rcases hks with ⟨_,e,rfl⟩ | ⟨_,rfl⟩
             ·rw[e,spot_inPs hpr hrc c3 q2] at hp
              cases hp
             ·simp at q2
    |_=>cases h
   |_=>rw[hcal] at h;cases h
 |_=>rw[hop] at h;cases h
end
end TM
namespace TM
open Go
theorem Law.run {ρ:Type} {N:Nat} {vs:VS} {st:St} {k:Co ρ} {y:ρ} {m:M Unit} (h:Law N vs st k y m):∃ vs' st' l,k vs'=some y∧Rel vs' st'∧m.runT N st=some ((),st',l)∧Covers l vs.lg vs'.lg:=by
 obtain ⟨vs',st',h1,g⟩:=h
 obtain ⟨R,l,h2,h3⟩:=g
 exact ⟨vs',st',l,h1,R,by rw[h2];simp [M.runT],h3⟩
theorem run_of_runT {N:Nat} {st st':St} {l:List Ac} {m:M Unit} (h:m.runT N st=some ((),st',l)):m.run N st=some ((),st'):=by
 obtain ⟨h1,h2⟩:=runT_fits m h
 rw[h1]
 exact run_fits m h h2
theorem know_rel {vs:VS} {st:St} {t:Nat} {b:Bool} (R:Rel vs st) (h:st.s t=.t (.v (.bool b))):Rel ⟨(t,.c ⟨.bool,.z,bLit b⟩) :: vs.s,vs.b,vs.lg⟩ st:=by
 refine ⟨fun u=>?_,R.b⟩
 simp only[lookS]
 cases hb:Nat.beq t u with
 |true=>
  have:=Nat.eq_of_beq_eq_true hb
  subst this
  simp only[RelV]
  rw[h]
  rfl
 |false=>exact R.s u
theorem wf_tail {all:Array Oper} {o:Oper} {rest:List Oper} (h:WF (.ops all (o :: rest))):WF (.ops all rest):=by
 obtain ⟨pre,hpre⟩:=h
 exact ⟨pre++[o],by rw[hpre];simp⟩
theorem guard_cases {ρ:Type} {vs:VS} {st:St} {d:Nat} {w:Bool} {y:ρ} {a b:Co ρ} (R:Rel vs st) (h:rdS d (fun v=>match v with
   |.c ⟨.bool,_,r⟩=>iteC (match w with
     |true=>r
     |false=>bnot r)
    (knowT d w a)
    (knowT d (!w) b)
   |.tup []=>b
   |_=>no 150) vs=some y) :
  (st.s d=.t (.v (.bool w))∧∃ vs',a vs'=some y∧Rel vs' st∧Covers [.rS d (st.s d)] vs.lg vs'.lg) ∨
  ((st.s d=.t (.v (.bool (!w)))∨st.s d=.tup [])∧∃ vs',b vs'=some y∧Rel vs' st∧Covers [.rS d (st.s d)] vs.lg vs'.lg):=by
 simp only[rdS] at h
 have hR:=R.s d
 generalize hl:lookS vs.s d=v at h hR
 cases v with
 |c x=>
  obtain ⟨t,f,r⟩:=x
  cases t with
  |bool=>
   have hs:=boolV hR
   have hcov:Covers [.rS d (st.s d)] vs.lg (.rS d (.c ⟨.bool,f,r⟩) :: vs.lg):=.one (f:=.rS d (.c ⟨.bool,f,r⟩)) ⟨rfl,hR.t⟩
   have hrel:∀ b',st.s d=.t (.v (.bool b'))→Rel ⟨(d,.c ⟨.bool,.z,bLit b'⟩) :: vs.s,vs.b,.rS d (.c ⟨.bool,f,r⟩) :: vs.lg⟩ st:=fun b' hb'=>(know_rel R hb').lg _
   rcases iteC_ref h with ⟨hc,h⟩ | ⟨hc,h⟩
   ·left
    have hrw:r=w:=by
     cases w with
     |true=>exact hc
     |false=>
      exact (Bool.not_eq_true' _).mp (show (!(show Bool from r))=true from hc)
    have hs':st.s d=.t (.v (.bool w)):=by rw[hs,hrw]
    exact ⟨hs',_,h,hrel w hs',hcov⟩
   ·right
    have hrw:r=!w:=by
     cases w with
     |true=>exact hc
     |false=>
      exact (Bool.not_eq_false' _).mp (show (!(show Bool from r))=false from hc)
    have hs':st.s d=.t (.v (.bool (!w))):=by rw[hs,hrw]
    exact ⟨.inl hs',_,h,hrel (!w) hs',hcov⟩
  |_=>cases h
 |tup xs=>
  cases xs with
  |nil=>
   have hs:st.s d=.tup []:=by
    simp only[RelV] at hR
    obtain ⟨lvs,hR,h2⟩:=hR
    cases lvs with
    |nil=>exact hR
    |cons _ _=>simp [RelVs] at h2
   exact .inr ⟨.inr hs,_,h,R.lg _,.one (f:=.rS d (.tup [])) ⟨rfl,by rw[hs];simp [RelV,RelVs]⟩⟩
  |cons _ _=>cases h
 |_=>cases h
section
variable {C:Ctx} {f:FuncId} {Q:Value→World→Prop} {K:List It} {ρ:Type} {y:ρ} {E:En} {rec:Rec}
theorem guardOK_some {st:St} {all:Array Oper} {o:Oper} {d:Nat} {w:Bool} (hg:guardOf all o=some (some d,w)) (hs:st.s d=.t (.v (.bool w))):guardOK st all o:=by
 unfold guardOK
 rw[hg]
 exact hs
theorem guardOK_none {st:St} {all:Array Oper} {o:Oper} (hg:guardOf all o=none):guardOK st all o:=by
 unfold guardOK
 rw[hg]
 trivial
theorem nilOp_some {P:Program} {o:Oper} {x:Operand} {neg:Bool} {d:Nat} (h:nilOp P o=some (x,neg,d)) :
  o.dst=some d∧∃ op t t2 e,o.op=.binOp op t x (.const (.slice none 0 0)) t2∧(op=.eql∨op=.neq)∧neg=decide (op=.neq)∧P.underlying t=some (.slice e):=by
 unfold nilOp at h
 split at h
 ·rename_i op t x' t2 d' ho hd
  split at h
  ·rename_i e hu
   cases h
   exact ⟨hd,_,_,_,_,ho,.inl rfl,rfl,hu⟩
  ·rename_i e hu
   cases h
   exact ⟨hd,_,_,_,_,ho,.inr rfl,rfl,hu⟩
  ·cases h
 ·cases h
theorem evT_ev {ρ:Type} {vs:VS} {st:St} {y:ρ} {x:Operand} {k:TV→Co ρ} (h:evT x k vs=some y) (R:Rel vs st):∃ v lv vs',k v vs'=some y∧RelV (Qs st.b) v lv∧st.ev x=some lv∧Rel vs' st:=by
 cases x with
 |tmp t=>exact ⟨_,_,_,h,R.s t,rfl,R.lg _⟩
 |const v=>exact ⟨_,_,_,h,rel_const v,rfl,R⟩
 |func f=>exact ⟨.fn f [],.fn (.func f) [],vs,h,(show RelV (Qs st.b) (.fn f []) (.fn (.func f) []) from by simp [RelV,RelVs]),rfl,R⟩
 |global g=>cases h
theorem both_some {α:Type} {x y:Option α} {z:α} (h:both_ x y=some z):x=some z∧y=some z:=by
 unfold both_ at h
 split at h
 ·rename_i e;exact ⟨h,e ▸ h⟩
 ·cases h
theorem nilC_good {k:Co ρ} {all:Array Oper} {o:Oper} {rest:List Oper} {vs:VS} {st:St} {z:Operand×Bool×Nat} (hP:C.P=E.P) (hN:C.N=E.N) (hn:nilOp E.P o=some z) (h:nilC E.N z k vs=some y) (R:Rel vs st) (hg:guardOK st all o) (hw:WF (.ops all (o :: rest)))
  (hk:∀ vs st',k vs=some y→Rel vs st'→Good C f Q (.ops all rest :: K) st'):Good C f Q (.ops all (o :: rest) :: K) st:=by
 obtain ⟨x,neg,d⟩:=z
 obtain ⟨hd,op,t,t2,e,ho,hop,hneg,hu⟩:=nilOp_some hn
 unfold nilC at h
 obtain ⟨v,lv,vs1,h,hv,hx,R1⟩:=evT_ev h R
 have put:∀ (b:Bool) (vs1:VS),Rel vs1 st→outT E.N (some d) (.c ⟨.bool,.z,bLit b⟩) k vs1=some y→d<C.N∧Good C f Q (.ops all rest :: K) ⟨fun u=>if u=d then .t (.v (.bool b)) else st.s u,st.b⟩:=by
  intro b vs1 R1 h
  have hl:Law E.N vs1 st k y (out (some d) (.t (.v (.bool b)))):=outT_ref h R1 (by simp only[RelV];rfl)
  obtain ⟨vs2,st2,l,h2,R2,hr,_⟩:=hl.run
  have hr:=run_of_runT hr
  rw[run_out] at hr
  simp only at hr
  split at hr
  ·rename_i hlt
   cases hr
   exact ⟨by rw[hN];exact hlt,hk _ _ h2 R2⟩
  ·cases hr
 cases v with
 |c c=>
  obtain ⟨tc,fc,l⟩:=c
  cases tc with
  |sl r=>
   simp only[RelV] at hv
   obtain ⟨fl,es,hes,hne⟩:=lenC_enc r fc l
   rw[hes] at hv
   subst hv
   have hrun:∀ G a w,Sim C G st [] a w→∃ b,((∃ fl' e es',(LV.t (.sl fl es))=.t (.sl fl' (e :: es')))∨(∃ n p lo hi,(LV.t (.sl fl es))=.ref n p lo hi∧lo<hi)→b=decide (op=.neq))∧(execOp a.eval o).run C.P w=.ok (.value (.bool b)) w:=
    fun G a w s=>nil_run ho hop (by rw[hP];exact hu) hx (.inl ⟨fl,es,rfl⟩) s
   rcases iteC_ref h with ⟨hc,h⟩ | ⟨_,h⟩
   ·obtain ⟨hdN,hG⟩:=put neg _ R1 h
    have hpos:0<es.length:=by
     have:decide ((0:Int)<(show Int from lenC r fc l))=true:=hc
     have h9:=of_decide_eq_true this
     have h8:((es.length:Nat):Int)=(show Int from lenC r fc l):=hne
     omega
    refine good_op_bool (B:=fun b=>b=neg) hw hg hd hdN (fun G a w s=>?_) (fun b hb=>by rw[hb];exact hG)
    obtain ⟨b,hb,hr⟩:=hrun G a w s
    refine ⟨b,?_,hr⟩
    rw[hneg]
    refine hb (.inl ?_)
    cases es with
    |nil=>simp at hpos
    |cons e0 es0=>exact ⟨fl,e0,es0,rfl⟩
   ·obtain ⟨h1,h2⟩:=both_some h
    obtain ⟨hdN,hG1⟩:=put false _ R1 h1
    obtain ⟨_,hG2⟩:=put true _ R1 h2
    refine good_op_bool (B:=fun _=>True) hw hg hd hdN (fun G a w s=>?_) (fun b _=>by cases b;exact hG1;exact hG2)
    obtain ⟨b,_,hr⟩:=hrun G a w s
    exact ⟨b,trivial,hr⟩
  |_=>cases h
 |_=>cases h
theorem vboxOp_some {o:Oper} {z:Nat×Nat} (h:vboxOp E o=some z):∃ t,o.op=.box t (.tmp z.1)∧o.dst=some z.2:=by
 unfold vboxOp at h
 cases ho:o.op with
 |box t x=>
  cases x with
  |tmp i=>
   cases hd:o.dst with
   |none=>rw[ho,hd] at h;cases h
   |some d=>
    rw[ho,hd] at h
    simp only at h
    split at h
    ·cases h
     exact ⟨t,rfl,rfl⟩
    ·cases h
  |_=>rw[ho] at h;cases h
 |_=>rw[ho] at h;cases h
theorem vboxC_good {k:Co ρ} {all:Array Oper} {o:Oper} {rest:List Oper} {vs:VS} {st:St} {z:Nat×Nat} (hN:C.N=E.N) (hb:vboxOp E o=some z) (h:vboxC E.N z k vs=some y) (R:Rel vs st) (hg:guardOK st all o) (hw:WF (.ops all (o :: rest)))
  (hk:∀ vs st',k vs=some y→Rel vs st'→Good C f Q (.ops all rest :: K) st'):Good C f Q (.ops all (o :: rest) :: K) st:=by
 obtain ⟨t,ho,hd⟩:=vboxOp_some hb
 unfold vboxC at h
 simp only[rdS] at h
 have hR:=R.s z.1
 generalize lookS vs.s z.1=v at h hR
 cases v with
 |agg xs=>
  simp only[RelV] at hR
  obtain ⟨lvs,e,hr⟩:=hR
  have hl:Law E.N _ st k y (out (some z.2) (.va lvs)):=outT_ref h (R.lg _) (by simp only[RelV];exact ⟨_,rfl,hr⟩)
  obtain ⟨vs2,st2,l,h2,R2,hr,_⟩:=hl.run
  have hr:=run_of_runT hr
  rw[run_out] at hr
  simp only at hr
  split at hr
  ·rename_i hlt
   cases hr
   exact good_opOK hw hg (fun G a w s=>op_vbox s ho hd (by rw[hN];exact hlt) (by simp only[St.ev,e])) (hk _ _ h2 R2)
  ·cases hr
 |_=>cases h
theorem vstOp_some {o:Oper} {z:TypeId×Nat×Nat} (h:vstOp E o=some z):o.op=.store z.1 (.tmp z.2.1) (.tmp z.2.2)∧o.dst=none∧z.2.1≠z.2.2:=by
 unfold vstOp at h
 cases ho:o.op with
 |store t x y=>
  cases x with
  |tmp a=>
   cases y with
   |tmp b=>
    cases hd:o.dst with
    |some d=>rw[ho,hd] at h;cases h
    |none=>
     rw[ho,hd] at h
     simp only at h
     split at h
     ·rename_i hc
      cases h
      simp only[Bool.and_eq_true,Bool.not_eq_true'] at hc
      exact ⟨rfl,rfl,fun e=>by simp only at e;subst e;rw[Nat.beq_refl] at hc;cases hc.2⟩
     ·cases h
   |_=>rw[ho] at h;cases h
  |_=>rw[ho] at h;cases h
 |_=>rw[ho] at h;cases h
theorem flatTs_rel {Q:Nm→Pth→Nat→Prop}:∀ {xs:List TV} {lvs:List LV},RelVs Q xs lvs→flatTs xs=true→lvs.all flatLV=true
 |[],lvs,h,_=>by simp only[RelVs] at h;subst h;rfl
 |x :: xs,[],h,_=>by simp only[RelVs] at h
 |.c x :: xs,lv :: lvs,h,hf=>by
  simp only[RelVs,RelV] at h
  simp only[flatTs,Bool.and_eq_true] at hf
  obtain ⟨rfl,h⟩:=h
  simp only[List.all_cons,Bool.and_eq_true]
  refine ⟨?_,flatTs_rel h hf.2⟩
  have:=solid_enc hf.1
  generalize x.enc=e at this
  cases e<;>first | rfl | exact absurd rfl this
 |.ref n p none :: xs,lv :: lvs,h,hf=>by
  simp only[RelVs,RelV] at h
  simp only[flatTs] at hf
  obtain ⟨⟨hi,rfl,_⟩,h⟩:=h
  simp only[List.all_cons,Bool.and_eq_true]
  exact ⟨rfl,flatTs_rel h hf⟩
 |.ref n p (some _) :: xs,lv :: lvs,h,hf=>by cases hf
 |.addr _ _ :: xs,lv :: lvs,h,hf=>by cases hf
 |.raddr _ :: xs,lv :: lvs,h,hf=>by cases hf
 |.agg _ :: xs,lv :: lvs,h,hf=>by cases hf
 |.tup _ :: xs,lv :: lvs,h,hf=>by cases hf
 |.fn _ _ :: xs,lv :: lvs,h,hf=>by cases hf
 |.va _ :: xs,lv :: lvs,h,hf=>by cases hf
 |.dead :: xs,lv :: lvs,h,hf=>by cases hf
theorem vstC_good {k:Co ρ} {all:Array Oper} {o:Oper} {rest:List Oper} {vs:VS} {st:St} {z:TypeId×Nat×Nat} (hP:C.P=E.P) (_hN:C.N=E.N) (hb:vstOp E o=some z) (h:vstC E.P E.N z k vs=some y) (R:Rel vs st) (hg:guardOK st all o) (hw:WF (.ops all (o :: rest)))
  (hk:∀ vs st',k vs=some y→Rel vs st'→Good C f Q (.ops all rest :: K) st'):Good C f Q (.ops all (o :: rest) :: K) st:=by
 obtain ⟨ho,hd,hne⟩:=vstOp_some hb
 obtain ⟨t,a0,y0⟩:=z
 simp only at ho hne
 unfold vstC at h
 simp only[rdS] at h
 have hU:=R.s y0
 have hV:=R.s a0
 generalize lookS vs.s y0=u at h hU
 generalize lookS vs.s a0=v at h hV
 cases u with
 |agg xs=>
  cases v with
  |addr n p=>
   obtain ⟨c,r⟩:=p
   cases c with
   |succ c=>cases h
   |zero=>
   cases r with
   |cons x r=>cases h
   |nil=>
    simp only[RelV] at hU hV
    obtain ⟨lvs,e,hr⟩:=hU
    simp only[rdB] at h
    cases hbx:lookB vs.b n with
    |none=>rw[hbx] at h;cases h
    |some bx=>
     rw[hbx] at h
     simp only at h
     obtain ⟨b1,b2⟩:=R.b n bx hbx
     generalize hc:(bx.real&&(!Nat.beq n.2 1&&(flatTs xs&&(Nat.beq (E.P.cellsOf t) xs.length&&(Nat.blt 0 xs.length&&Nat.beq bx.cells.length xs.length)))))=cc at h
     cases cc with
     |false=>cases h
     |true=>
      simp only[Bool.and_eq_true,Bool.not_eq_true'] at hc
      obtain ⟨hc1,hc2,hc3,hc4,hc5,hc6⟩:=hc
      simp only[killBox,wrB,wrS] at h
      cases hlt:Nat.blt a0 E.N with
      |false=>rw[hlt] at h;cases h
      |true=>
       rw[hlt] at h
       simp only at h
       have hlen:=RelVs.length hr
       have hne1:n.2≠1:=fun e1=>by rw[e1] at hc2;cases hc2
       refine good_opOK hw hg (fun G a w s=>op_vstore s ho hd hne hV hne1 (by rw[b1,hc1]) e (flatTs_rel hr hc3) (by rw[hP,← hlen];exact Nat.eq_of_beq_eq_true hc4) (by rw[← hlen];simpa using hc5) (by rw[b2,← hlen];simpa [encs] using Nat.eq_of_beq_eq_true hc6)) (hk _ _ h ⟨fun t=>?_,fun k z hz=>?_⟩)
       ·have key:∀ (v:TV) (lv:LV),RelV (Qs st.b) v lv→RelV (Qs fun m=>if m=n then (⟨false,[]⟩:Box) else st.b m) (TM.killA n v) (killV n [] lv):=fun v lv hvl=>by
         refine RelV.mono (fun k q hi h=>?_) _ _ (RelV.killA n v lv hvl)
         obtain ⟨⟨es,r,h1,h2⟩,h3⟩:=h
         exact ⟨es,r,by simpa [h3] using h1,h2⟩
        simp only[lookS]
        by_cases ht:t=a0
        ·subst ht
         rw[Nat.beq_refl]
         simp only[if_true]
         have:=key (.agg xs) (.agg lvs) (by simp only[RelV];exact ⟨_,rfl,hr⟩)
         simp only[TM.killA,killV,RelV] at this ⊢
         obtain ⟨vs',e1,h1⟩:=this
         cases e1
         exact ⟨_,rfl,h1⟩
        ·have:Nat.beq a0 t=false:=by
          cases hb:Nat.beq a0 t with
          |false=>rfl
          |true=>exact absurd (Nat.eq_of_beq_eq_true hb).symm ht
         simp only[this,if_neg ht]
         rw[look_killS _ (by simp [TM.killA])]
         exact key _ _ (R.s t)
       ·simp only[lookB] at hz
        by_cases hkn:k=n
        ·subst hkn
         rw[nm_eq.2 rfl] at hz
         cases hz
         simp [encs]
        ·have:nmEq n k=false:=by
          cases h:nmEq n k with
          |false=>rfl
          |true=>exact absurd (nm_eq.1 h).symm hkn
         rw[this] at hz
         simpa [hkn] using R.b k z hz
  |_=>cases h
 |_=>cases h
theorem oneT_good {k:Co ρ} {all:Array Oper} {o:Oper} {rest:List Oper} {vs:VS} {st:St} (hJ:Right E.P rec) (hP:C.P=E.P) (hN:C.N=E.N) (hw:WF (.ops all (o :: rest)))
  (ih:∀ vs st,k vs=some y→Rel vs st→Good C f Q (.ops all rest :: K) st) (h:oneT E rec false all o k vs=some y) (R:Rel vs st):Good C f Q (.ops all (o :: rest) :: K) st:=by
 have one:∀ vs,guardOK st all o→Rel vs st→(match isCall o with
    |true=>callX E rec false o k
    |false=>op1 E false o k) vs=some y→Good C f Q (.ops all (o :: rest) :: K) st:=by
  intro vs hg R h
  cases hc:isCall o with
  |true=>
   rw[hc] at h
   simp only[callX] at h
   cases hx:ownL? E o vs with
   |true=>
    rw[hx] at h
    exact callO_good hJ hP hN hw hg ih h R
   |false=>
   rw[hx] at h
   have h:callC E rec false o k vs=some y:=h
   obtain ⟨vs',g,lvs,d,args,res,outs,mv,lent,reads,h,ok⟩:=callC_ref hJ h R
   obtain ⟨q1,q2⟩:=ok.ok st ok.fits
   exact good_call mv lent hP (by rw[hN];exact ok.hd) hw hg q1 ok.hfn ok.hmv q2 (.inr (.inl ok.len)) ok.back (ih _ _ h ok.rel)
  |false=>
   rw[hc] at h
   cases hn:nilOp E.P o with
   |some z=>
    have h:nilC E.N z k vs=some y:=by unfold op1 at h;rw[hn] at h;exact h
    exact nilC_good hP hN hn h R hg hw fun vs st' h R=>ih _ _ h R
   |none=>
   have h:op0 E false o k vs=some y:=by unfold op1 at h;rw[hn] at h;exact h
   cases hb:vboxOp E o with
   |some z=>
    have h:vboxC E.N z k vs=some y:=by unfold op0 at h;rw[hb] at h;exact h
    exact vboxC_good hN hb h R hg hw fun vs st' h R=>ih _ _ h R
   |none=>
   cases hv:vstOp E o with
   |some z=>
    have h:vstC E.P E.N z k vs=some y:=by unfold op0 at h;rw[hb,hv] at h;exact h
    exact vstC_good hP hN hv h R hg hw fun vs st' h R=>ih _ _ h R
   |none=>
   have h:opT E.N E.P o k vs=some y:=by unfold op0 at h;rw[hb,hv] at h;exact h
   obtain ⟨vs',st',l,h,R',hr,_⟩:=(opT_ref h R).run
   exact good_op hw hg (by rw[hP,hN];exact run_of_runT hr) (ih _ _ h R')
 unfold oneT at h
 cases hg:guardOf all o with
 |none=>
  rw[hg] at h
  exact one vs (guardOK_none hg) R h
 |some dw=>
  obtain ⟨d,w⟩:=dw
  cases d with
  |none=>rw[hg] at h;cases h
  |some d=>
   rw[hg] at h
   rcases guard_cases R h with ⟨hs,vs',h,R',_⟩ | ⟨hs,vs',h,R',_⟩
   ·exact one vs' (guardOK_some hg hs) R' h
   ·have hl:Law E.N vs' st k y (out o.dst (.tup [])):=outT_ref h R' (by simp [RelV,RelVs])
    obtain ⟨vs2,st2,l,h,R2,hr,_⟩:=hl.run
    exact good_op_skip hw hg hs (by rw[hN];exact run_of_runT hr) (ih _ _ h R2)
theorem opsT_good {k:Co ρ} {fx:List (Nat×Bool×Nat×Bool)} {all:Array Oper} (hJ:Right E.P rec) (hP:C.P=E.P) (hN:C.N=E.N) (hk:∀ vs st,k vs=some y→Rel vs st→Good C f Q K st) :
  ∀ (rest:List Oper) (vs:VS) (st:St),WF (.ops all rest)→opsT E rec false fx all rest k vs=some y→Rel vs st→Good C f Q (.ops all rest :: K) st
 |[],vs,st,_,h,R=>good_ops_nil (hk vs st h R)
 |o :: rest,vs,st,hw,h,R=>by
  have ih:=opsT_good (fx:=fx) (all:=all) hJ hP hN hk rest
  simp only[opsT] at h
  exact fixL_good (fun vs st h R=>oneT_good hJ hP hN hw (fun vs st h R=>fixL_good (fun vs st h R=>ih vs st (wf_tail hw) h R) _ h R) h R) _ h R
theorem fits_call {N:Nat} {reads:List Ac} {d:Nat} {mv:List (Option Nm)} {outs:List (List T)} {res:List Arg} {st:St} (hf:fitsT N reads st) (hr:∀ x∈reads,isRead x) (hd:d<N):fitsT N (callT reads d mv outs res) st:=by
 unfold callT
 rw[fits_reads hr]
 refine ⟨hf,trivial,?_⟩
 have key:∀ (as:List Arg) (j:Nat) (st:St),fitsT N (wBs d j as++[.wS d (resLV d res)]) st:=by
  intro as
  induction as with
  |nil=>intro j st;exact ⟨hd,trivial⟩
  |cons a as ih=>intro j st;exact ⟨trivial,ih _ _⟩
 have key2:∀ (mv:List (Option Nm)) (i:Nat) (st:St),fitsT N (mvTs outs i mv) st:=by
  intro mv
  induction mv with
  |nil=>intro i st;trivial
  |cons o mv ih=>
   intro i st
   cases o with
   |none=>exact ih _ _
   |some n=>exact ⟨trivial,trivial,ih _ _⟩
 exact (fitsT_append _ _ _).2 ⟨key2 _ _ _,key _ _ _⟩
theorem one_ref {k:Co ρ} {all:Array Oper} {o:Oper} {i:Nat} {vs:VS} {st:St} (hJ:Right E.P rec) (hP:C.P=E.P) (hN:C.N=E.N) (hi:all[i]?=some o) (h:opsT E rec true [] all [o] k vs=some y) (R:Rel vs st) :
  ∃ vs' l,k vs'=some y∧Rel vs' (appT l st)∧fitsT C.N l st∧Covers l vs.lg vs'.lg∧Doable C all i l:=by
 have one:∀ vs,Rel vs st→(match isCall o with
    |true=>callX E rec true o k
    |false=>op1 E true o k) vs=some y →
   ∃ vs' l,k vs'=some y∧Rel vs' (appT l st)∧fitsT C.N l st∧Covers l vs.lg vs'.lg∧(o.guard=none→Doable C all i l)∧(∀ j d b,o.guard=some (j,b)→(all[j]?).bind (·.dst)=some d→Doable C all i (.rS d (.t (.v (.bool b))) :: l)):=by
  intro vs R h
  cases hc:isCall o with
  |true=>
   rw[hc] at h
   have h:callC E rec true o k vs=some y:=h
   obtain ⟨vs',g,lvs,d,args,res,outs,mv,lent,reads,h,ok⟩:=callC_ref hJ h R
   have hd:d<C.N:=by rw[hN];exact ok.hd
   have hfits:=fits_call (res:=res) (mv:=mv) (outs:=outs) ok.fits ok.rd ok.hd
   have hda:=doable_call mv lent hP hd hi ok.hmv (ok.free rfl) ok.len ok.rd (fun st' hf=>ok.ok st' (by rw[← hN];exact hf)) ok.hfn ok.back
   refine ⟨vs',callT reads d mv outs res,h,?_,by rw[hN];exact hfits,ok.cov rfl,hda.1,fun j d0 b hg hj=>hda.2 j b d0 hg hj⟩
   rw[appT_call (args:=args) (outs:=outs) ok.rd ok.hmv fun i n hi=>⟨(ptr_of_args (ok.ok st ok.fits).2 i n hi).1,ok.free rfl i n hi,(ptr_of_args (ok.ok st ok.fits).2 i n hi).2⟩]
   exact ok.rel
  |false=>
   rw[hc] at h
   have h:opT E.N E.P o k vs=some y:=h
   obtain ⟨vs',st',l,h,R',hr,hcov⟩:=(opT_ref h R).run
   rw[← hP,← hN] at hr
   obtain ⟨e1,e2⟩:=runT_fits _ hr
   subst e1
   exact ⟨vs',l,h,R',e2,hcov,fun hg=>doable_op hi hg hr,fun j d b hg hj=>doable_guard hi hg hj hr⟩
 have h:oneT E rec true all o k vs=some y:=by
  simp only[opsT] at h
  cases hd:o.dst<;>rw[hd] at h<;>exact h
 unfold oneT at h
 cases hg:guardOf all o with
 |none=>
  rw[hg] at h
  obtain ⟨vs',l,h1,h2,h3,h4,h5,_⟩:=one vs R h
  refine ⟨vs',l,h1,h2,h3,h4,h5 ?_⟩
  unfold guardOf at hg
  cases hh:o.guard with
  |none=>rfl
  |some jw=>rw[hh] at hg;cases hg
 |some dw=>
  obtain ⟨d,w⟩:=dw
  cases d with
  |none=>rw[hg] at h;cases h
  |some d=>
   rw[hg] at h
   have hgd:∃ j,o.guard=some (j,w)∧(all[j]?).bind (·.dst)=some d:=by
    unfold guardOf at hg
    cases hh:o.guard with
    |none=>rw[hh] at hg;cases hg
    |some jw=>obtain ⟨j,w1⟩:=jw;rw[hh] at hg;simp only[Option.some.injEq,Prod.mk.injEq] at hg;exact ⟨j,by rw[hg.2],hg.1⟩
   obtain ⟨j,hgj,hdj⟩:=hgd
   rcases guard_cases R h with ⟨hs,vs',h,R',hcov⟩ | ⟨hs,vs',h,R',hcov⟩
   ·obtain ⟨vs2,l,h1,h2,h3,h4,_,h6⟩:=one vs' R' h
    refine ⟨vs2,.rS d (.t (.v (.bool w))) :: l,h1,h2,⟨hs,h3⟩,?_,h6 j d w hgj hdj⟩
    rw[hs] at hcov
    exact hcov.trans h4
   ·have hl:Law E.N vs' st k y (out o.dst (.tup [])):=outT_ref h R' (by simp [RelV,RelVs])
    obtain ⟨vs2,st2,l,h,R2,hr,hcov2⟩:=hl.run
    rw[← hN] at hr
    obtain ⟨e1,e2⟩:=runT_fits _ hr
    subst e1
    refine ⟨vs2,.rS d (st.s d) :: l,h,R2,⟨rfl,e2⟩,?_,doable_skip hi hgj hdj hs hr⟩
    exact hcov.trans hcov2
mutual
theorem calmT_ok {k:LV→LV} (hk:Forgets k) {fr fa:Nm→Pth→Bool} (hr:∀ m p lo hi,fr m p=true→k (.ref m (pthL p) lo hi)=.ref m (pthL p) lo hi) (ha:∀ m p,fa m p=true→k (.addr m (pthL p))=.addr m (pthL p)) :
  ∀ (v:TV) (lv:LV),RelV Qt v lv→calmT fr fa v=true→k lv=lv∧noDead lv=true
 |.c x,lv,h,_=>by simp only[RelV] at h;subst h;exact ⟨hk.t _,rfl⟩
 |.ref m q none,lv,h,h1=>by
  simp only[RelV] at h
  obtain ⟨hi,rfl,_⟩:=h
  exact ⟨hr m q 0 hi h1,rfl⟩
 |.ref m q (some (lo,hi)),lv,h,h1=>by
  simp only[RelV] at h
  obtain ⟨rfl,_⟩:=h
  exact ⟨hr m q lo hi h1,rfl⟩
 |.addr m q,lv,h,h1=>by
  simp only[RelV] at h
  subst h
  exact ⟨ha m q h1,rfl⟩
 |.raddr cs,lv,h,_=>by simp only[RelV] at h;subst h;exact ⟨hk.raddr _,rfl⟩
 |.agg xs,lv,h,h1=>by
  simp only[RelV] at h
  obtain ⟨us,rfl,h⟩:=h
  obtain ⟨k1,k2⟩:=calmTs_ok hk hr ha xs us h h1
  exact ⟨by rw[hk.agg,k1],by simp only[noDead,k2]⟩
 |.tup xs,lv,h,h1=>by
  simp only[RelV] at h
  obtain ⟨us,rfl,h⟩:=h
  obtain ⟨k1,k2⟩:=calmTs_ok hk hr ha xs us h h1
  exact ⟨by rw[hk.tup,k1],by simp only[noDead,k2]⟩
 |.fn g xs,lv,h,h1=>by
  simp only[RelV] at h
  obtain ⟨us,rfl,h⟩:=h
  obtain ⟨k1,k2⟩:=calmTs_ok hk hr ha xs us h h1
  exact ⟨by rw[hk.fn,k1],by simp only[noDead,k2]⟩
 |.va xs,lv,h,h1=>by
  simp only[RelV] at h
  obtain ⟨us,rfl,h⟩:=h
  obtain ⟨k1,k2⟩:=calmTs_ok hk hr ha xs us h h1
  exact ⟨by rw[hk.va,k1],by simp only[noDead,k2]⟩
 |.dead,lv,h,h2=>by cases h2
theorem calmTs_ok {k:LV→LV} (hk:Forgets k) {fr fa:Nm→Pth→Bool} (hr:∀ m p lo hi,fr m p=true→k (.ref m (pthL p) lo hi)=.ref m (pthL p) lo hi) (ha:∀ m p,fa m p=true→k (.addr m (pthL p))=.addr m (pthL p)) :
  ∀ (xs:List TV) (us:List LV),RelVs Qt xs us→calmTs fr fa xs=true→us.map k=us∧noDeads us=true
 |[],us,h,_=>by simp only[RelVs] at h;subst h;simp [noDeads]
 |x :: xs,[],h,_=>by simp only[RelVs] at h
 |x :: xs,u :: us,h,h1=>by
  simp only[RelVs] at h
  simp only[calmTs,Bool.and_eq_true] at h1
  obtain ⟨k1,k2⟩:=calmT_ok hk hr ha x u h.1 h1.1
  obtain ⟨k3,k4⟩:=calmTs_ok hk hr ha xs us h.2 h1.2
  simp only[List.map_cons,k1,k3,noDeads,k2,k4,Bool.and_self,and_self]
end
theorem nm_false {n m:Nm} (h:(!nmEq n m)=true):n≠m:=by
 rintro rfl
 rw[nm_eq.2 rfl] at h
 cases h
theorem calm_of (n:Nm) (p:List Nat) (v:TV) (lv:LV) (h:RelV Qt v lv) (h1:calmN n v=true):killV n p lv=lv∧noDead lv=true:=
 calmT_ok (forgets_kill n p) (fun m q lo hi e=>by rw[killV,if_neg (fun h=>nm_false e h.1)]) (fun m q e=>by rw[killV,if_neg (fun h=>nm_false e h.1)]) v lv h h1
theorem calmP_of (n:Nm) (p:Pth) (v:TV) (lv:LV) (h:RelV Qt v lv) (h1:calmP n p v=true):killV n (pthL p) lv=lv∧noDead lv=true:=
 calmT_ok (forgets_kill n (pthL p)) (fun m q lo hi e=>by
  rw[killV,if_neg]
  rintro ⟨h1,h2⟩
  rw[nm_eq.2 h1,leads_of (List.isPrefixOf_iff_prefix.1 h2)] at e
  cases e) (fun m q e=>by
  rw[killV,if_neg]
  rintro ⟨h1,h2,h3⟩
  rw[pthL_len,pthL_len] at h3
  have:Nat.blt p.r.length q.r.length=true:=by
   simp only[Nat.blt_eq];omega
  rw[nm_eq.2 h1,leads_of (List.isPrefixOf_iff_prefix.1 h2),this] at e
  cases e) v lv h h1
theorem gone_of (d:Nat) (v:TV) (lv:LV) (h:RelV Qt v lv) (h1:calmG d v=true):goneV d lv=lv∧noDead lv=true:=
 calmT_ok (forgets_gone d) (fun m q lo hi e=>by rw[goneV,if_neg (by rw[← gone_eq];simpa using e)]) (fun m q e=>by rw[goneV,if_neg (by rw[← gone_eq];simpa using e)]) v lv h h1
theorem km_of (n:Nm) (v:TV) (lv:LV) (h:RelV Qt v lv) (h1:calmK n v=true):kmV n lv=lv∧noDead lv=true:=
 calmT_ok (forgets_km n) (fun m q lo hi e=>by rw[kmV,if_neg (nm_false e)]) (fun m q e=>by
  rw[kmV]
  simp only[Bool.or_eq_true] at e
  rcases e with e | e
  ·rw[if_neg (fun h=>nm_false e h.1)]
  ·rw[if_neg (fun h=>h.2 (by
    obtain ⟨c,r⟩:=q
    simp only[List.isEmpty_iff] at e
    subst e
    rfl))]) v lv h h1
theorem nmEq_ne {n m:Nm} (h:(!nmEq n m)=true):n≠m:=by
 rintro rfl
 rw[nm_eq.2 rfl] at h
 cases h
theorem beq_ne {t u:Nat} (h:(!Nat.beq t u)=true):t≠u:=by
 rintro rfl
 rw[Nat.beq_refl] at h
 cases h
theorem nc_of {x z:Ft} {a b:Ac} (h:x.nc z=true) (hx:Cov x a) (hz:Cov z b):a.nc b:=by
 cases x<;>cases a<;>simp only[Cov] at hx<;>cases z<;>cases b<;>simp only[Cov] at hz<;>simp only[Ac.nc]<;>simp only[Ft.nc] at h
 case rS.rS.wS.wS=>obtain ⟨rfl,_⟩:=hx;obtain ⟨rfl,_⟩:=hz;exact beq_ne h
 case wS.wS.rS.rS=>obtain ⟨rfl,_⟩:=hx;obtain ⟨rfl,_⟩:=hz;exact beq_ne h
 case rX.rX.wS.wS=>obtain ⟨rfl,_⟩:=hx;obtain ⟨rfl,_⟩:=hz;exact beq_ne h
 case wS.wS.rX.rX=>obtain ⟨rfl,_⟩:=hx;obtain ⟨rfl,_⟩:=hz;exact beq_ne h
 case wS.wS.wS.wS=>obtain ⟨rfl,_⟩:=hx;obtain ⟨rfl,_⟩:=hz;exact beq_ne h
 case rS.rS.kl.kl=>obtain ⟨rfl,rfl⟩:=hz;exact calm_of _ _ _ _ hx.2 h
 case kl.kl.rS.rS=>obtain ⟨rfl,rfl⟩:=hx;exact calm_of _ _ _ _ hz.2 h
 case rX.rX.kl.kl=>obtain ⟨rfl,rfl⟩:=hz;exact calm_of _ _ _ _ hx.2.2 h
 case kl.kl.rX.rX=>obtain ⟨rfl,rfl⟩:=hx;exact calm_of _ _ _ _ hz.2.2 h
 case wS.wS.kl.kl=>obtain ⟨rfl,rfl⟩:=hz;exact (calm_of _ _ _ _ hx.2 h).1
 case kl.kl.wS.wS=>obtain ⟨rfl,rfl⟩:=hx;exact (calm_of _ _ _ _ hz.2 h).1
 case rB.rB.wB.wB=>subst hx;subst hz;exact nmEq_ne h
 case wB.wB.rB.rB=>subst hx;subst hz;exact nmEq_ne h
 case wB.wB.wB.wB=>subst hx;subst hz;exact nmEq_ne h
 case rS.rS.gn.gn=>subst hz;exact gone_of _ _ _ hx.2 h
 case gn.gn.rS.rS=>subst hx;exact gone_of _ _ _ hz.2 h
 case rX.rX.gn.gn=>subst hz;exact gone_of _ _ _ hx.2.2 h
 case gn.gn.rX.rX=>subst hx;exact gone_of _ _ _ hz.2.2 h
 case wS.wS.gn.gn=>subst hz;exact (gone_of _ _ _ hx.2 h).1
 case gn.gn.wS.wS=>subst hx;exact (gone_of _ _ _ hz.2 h).1
 case rS.rS.km.km=>subst hz;exact km_of _ _ _ hx.2 h
 case km.km.rS.rS=>subst hx;exact km_of _ _ _ hz.2 h
 case rX.rX.km.km=>subst hz;exact km_of _ _ _ hx.2.2 h
 case km.km.rX.rX=>subst hx;exact km_of _ _ _ hz.2.2 h
 case wS.wS.km.km=>subst hz;exact (km_of _ _ _ hx.2 h).1
 case km.km.wS.wS=>subst hx;exact (km_of _ _ _ hz.2 h).1
 case rB.rB.gn.gn=>subst hx;subst hz;rw[← gone_eq];simpa using h
 case gn.gn.rB.rB=>subst hx;subst hz;rw[← gone_eq];simpa using h
 case wB.wB.gn.gn=>subst hx;subst hz;rw[← gone_eq];simpa using h
 case gn.gn.wB.wB=>subst hx;subst hz;rw[← gone_eq];simpa using h
 case rS.rS.kp.kl=>obtain ⟨rfl,rfl⟩:=hz;exact calmP_of _ _ _ _ hx.2 h
 case kp.kl.rS.rS=>obtain ⟨rfl,rfl⟩:=hx;exact calmP_of _ _ _ _ hz.2 h
 case rX.rX.kp.kl=>obtain ⟨rfl,rfl⟩:=hz;exact calmP_of _ _ _ _ hx.2.2 h
 case kp.kl.rX.rX=>obtain ⟨rfl,rfl⟩:=hx;exact calmP_of _ _ _ _ hz.2.2 h
 case wS.wS.kp.kl=>obtain ⟨rfl,rfl⟩:=hz;exact (calmP_of _ _ _ _ hx.2 h).1
 case kp.kl.wS.wS=>obtain ⟨rfl,rfl⟩:=hx;exact (calmP_of _ _ _ _ hz.2 h).1
 case rH.rH.wB.wB=>subst hx;subst hz;exact nmEq_ne h
 case wB.wB.rH.rH=>subst hx;subst hz;exact nmEq_ne h
 case rH.rH.gn.gn=>subst hx;subst hz;rw[← gone_eq];simpa using h
 case gn.gn.rH.rH=>subst hx;subst hz;rw[← gone_eq];simpa using h
 case rH.rH.wD.ho=>exact .inr hz.2
 case wD.ho.rH.rH=>exact .inr hx.2
 case rB.rB.wD.ho=>obtain ⟨rfl,_⟩:=hz;subst hx;exact nmEq_ne h
 case wD.ho.rB.rB=>obtain ⟨rfl,_⟩:=hx;subst hz;exact nmEq_ne h
 case wB.wB.wD.ho=>obtain ⟨rfl,_⟩:=hz;subst hx;exact nmEq_ne h
 case wD.ho.wB.wB=>obtain ⟨rfl,_⟩:=hx;subst hz;exact nmEq_ne h
 case wD.ho.wD.ho=>obtain ⟨rfl,_⟩:=hx;obtain ⟨rfl,_⟩:=hz;exact nmEq_ne h
 case wD.ho.gn.gn=>obtain ⟨rfl,_⟩:=hx;subst hz;rw[← gone_eq];simpa using h
 case gn.gn.wD.ho=>obtain ⟨rfl,_⟩:=hz;subst hx;rw[← gone_eq];simpa using h
end
end TM
