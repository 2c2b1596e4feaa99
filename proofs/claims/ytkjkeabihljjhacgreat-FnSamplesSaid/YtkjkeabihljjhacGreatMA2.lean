/- Part 3 of a machine that runs the functions of a program over plain values, and of the proof that its runs are runs of the program. No condition. -/
import Derived.Test.YtkjkeabihljjhacGreatMA1
namespace Go.Proofs.YtkjkeabihljjhacGreat
namespace TM
open Go
def spotsOf:List LV→List (Option Spot)
 |[]=>[]
 |.ref n p _ _ :: vs=>some (n,p) :: spotsOf vs
 |_ :: vs=>none :: spotsOf vs
def killPs:List (Option Spot)→LV→LV
 |[],v=>v
 |none :: sp,v=>killPs sp v
 |some (n,p) :: sp,v=>killPs sp (killV n p v)
def putsE:(Nm→Box)→List T→List (Option Spot)→Option (Nm→Box)
 |b,_,[]=>some b
 |b,os,none :: sp=>putsE b (os.drop 1) sp
 |b,os,some (n,p) :: sp=>match os with
  |x :: os=>match setB b n p x with
   |some b1=>putsE b1 os sp
   |none=>none
  |[]=>none
def erase (sp:List (Option (Nm×List Nat×Value))):List (Option Spot):=sp.map fun o=>o.map fun x=>(x.1,x.2.1)
def PairsE:List (Option Spot)→Prop
 |[]=>True
 |none :: sp=>PairsE sp
 |some (n,p) :: sp=>(∀ n' p',some (n',p')∈sp→Indep n p n' p')∧PairsE sp
theorem erase_kill:∀ (sp:List (Option (Nm×List Nat×Value))) (v:LV),killSp sp v=killPs (erase sp) v
 |[],_=>rfl
 |none :: sp,v=>erase_kill sp v
 |some (n,p,_hv) :: sp,v=>erase_kill sp (killV n p v)
theorem erase_puts:∀ (sp:List (Option (Nm×List Nat×Value))) (b:Nm→Box) (os:List T),putsB b os sp=putsE b os (erase sp)
 |[],_,_=>by simp only[putsB,erase,List.map_nil,putsE]
 |none :: sp,b,os=>by simp only[putsB,erase,List.map_cons,Option.map_none,putsE];exact erase_puts sp b _
 |some (n,p,hv) :: sp,b,os=>by
  simp only[putsB,erase,List.map_cons,Option.map_some,putsE]
  cases os with
  |nil=>rfl
  |cons x os=>
   simp only
   cases setB b n p x with
   |none=>rfl
   |some b1=>exact erase_puts sp b1 os
theorem mem_erase {sp:List (Option (Nm×List Nat×Value))} {n:Nm} {p:List Nat}:some (n,p)∈erase sp↔∃ hv,some (n,p,hv)∈sp:=by
 unfold erase
 rw[List.mem_map]
 constructor
 ·rintro ⟨o,h1,h2⟩
  obtain ⟨x,rfl,h3⟩:=Option.map_eq_some_iff.1 h2
  simp only[Prod.mk.injEq] at h3
  obtain ⟨rfl,rfl⟩:=h3
  exact ⟨x.2.2,h1⟩
 ·rintro ⟨hv,h⟩
  exact ⟨_,h,rfl⟩
theorem erase_pairs:∀ {sp:List (Option (Nm×List Nat×Value))},PairsE (erase sp)→Pairs sp
 |[],_=>trivial
 |none :: sp,h=>erase_pairs (sp:=sp) h
 |some (_n,_p,_hv) :: sp,h=>⟨fun n' p' hv' hm=>h.1 n' p' (mem_erase.2 ⟨hv',hm⟩),erase_pairs (sp:=sp) h.2⟩
theorem Lift.spots {vs:List LV} {xs:List T} {sp:List (Option (Nm×List Nat×Value))} {st st1:St} (h:Lift st vs xs sp st1):erase sp=spotsOf vs∧xs.length=vs.length∧sp.length=vs.length∧(∀ t,st1.s t=killSp sp (st.s t))∧(∀ m,(st1.b m).real=(st.b m).real):=by
 induction h with
 |nil st=>exact ⟨rfl,rfl,rfl,fun _=>rfl,fun _=>rfl⟩
 |plain h ih=>
  obtain ⟨h1,h2,h3,h4,h5⟩:=ih
  exact ⟨by simp only[erase,List.map_cons,Option.map_none,spotsOf] at *;rw[h1],by simp [h2],by simp [h3],h4,h5⟩
 |@own st st1 n p es r cs hv vs xs sp hr hs h ih=>
  obtain ⟨h1,h2,h3,h4,h5⟩:=ih
  refine ⟨by simp only[erase,List.map_cons,Option.map_some,spotsOf] at *;rw[h1],by simp [h2],by simp [h3],fun t=>h4 t,fun m=>?_⟩
  rw[h5]
  simp only[St.anew]
  split
  ·rename_i e;rw[e]
  ·rfl
theorem Lift.own_at {vs:List LV} {xs:List T} {sp:List (Option (Nm×List Nat×Value))} {st st1:St} (_h:Lift st vs xs sp st1):∀ (b0:Nm→Box),(∀ n p hv,some (n,p,hv)∈sp→∃ es r,rowAt (b0 n).cells p=some (.sl .own es :: r))→∀ (j:Nat) n p hv,sp[j]?=some (some (n,p,hv))→∃ es r,rowAt (b0 n).cells p=some (.sl .own es :: r):=
 fun _b0 hb _j n p hv hj=>hb n p hv (List.mem_of_getElem? hj)
def ownArg (v0:LV) (xs:List T):Arg:=match v0 with
 |.agg _=>.owns xs
 |_=>.own (xs.headD .hole)
def ownAfter (st:St) (d:Nat) (nb:Nm) (mv:List (Option Nm)) (args:List Arg) (outs:List (List T)) (res:List Arg) (ks:List (Option Spot)) (bF:Nm→Box):St:=
 ⟨fun t=>killPs ks (killV nb [] (if t=d then resLV d res else callV d mv args outs (killV nb [] (killPs ks (st.s t))))),fun m=>if m=nb then ⟨false,[]⟩ else if gone d m=true then resBox res (m.2-2) else bF m⟩
theorem setAt_len:∀ (p:List Nat) {cs cs':List T} {x:T},setAt cs p x=some cs'→cs'.length=cs.length
 |[],_,_,_,h=>by simp [setAt] at h
 |[c],cs,cs',x,h=>by
  simp only[setAt] at h
  split at h
  ·cases h;simp
  ·cases h
 |c :: i :: rest,cs,cs',x,h=>by
  obtain ⟨es,r,e,e1,_,_,_,rfl⟩:=setAt_some h
  simp
theorem loc_set {w:World}:∀ (p:List Nat) {cs cs':List T} {us:List Value} {blk blk':Option Nat} {off:Nat} {x:T},setAt cs p x=some cs'→(loc w cs us blk off p).map (·.1)=(loc w cs' us blk' off p).map (·.1)
 |[],_,_,_,_,_,_,_,h=>by simp [setAt] at h
 |[c],cs,cs',us,blk,blk',off,x,h=>by simp only[loc,Option.map_some]
 |c :: i :: rest,cs,cs',us,blk,blk',off,x,h=>by
  obtain ⟨es,r,e,e1,k1,k2,k3,rfl⟩:=setAt_some h
  have hc:=drop_head k1
  have hcl:=(List.getElem?_eq_some_iff.1 hc).1
  have hi:=(List.getElem?_eq_some_iff.1 k2).1
  have hd:(cs.set c (.sl .own (es.set i e1))).drop c=.sl .own (es.set i e1) :: (cs.set c (.sl .own (es.set i e1))).drop (c+1):=head_drop (by simp [hcl])
  have hl:=setAt_len rest k3
  have hi1:(es.set i e1)[i]?=some e1:=by simp [hi]
  rw[loc,loc,k1,hd]
  cases us.drop c with
  |nil=>rfl
  |cons u us'=>
   cases u with
   |slice ad n m=>
    cases ad with
    |none=>rfl
    |some ad=>
     obtain ⟨b,o,q⟩:=ad
     cases o with
     |succ _=>rfl
     |zero=>
      cases q with
      |some _=>rfl
      |none=>
       simp only[k2,hi1]
       cases w.heap[b]? with
       |none=>rfl
       |some blk=>
        cases blk with
        |cells vs ty fr=>simp only[hl];exact loc_set rest k3
        |_=>rfl
   |_=>rfl
theorem loc_one {w:World} {cs cs':List T} {us:List Value} {blk blk':Option Nat} {off c:Nat}:(loc w cs us blk off [c]).map (·.1)=(loc w cs' us blk' off [c]).map (·.1):=by simp only[loc,Option.map_some]
theorem loc_same {w:World} {p:List Nat} {cs cs' c0:List T} {us:List Value} {blk blk':Option Nat} {off:Nat} {x x':T} (h:(∃ c,p=[c])∨setAt c0 p x=some cs) (h':(∃ c,p=[c])∨setAt c0 p x'=some cs'):(loc w cs us blk off p).map (·.1)=(loc w cs' us blk' off p).map (·.1):=by
 rcases h with ⟨c,rfl⟩ | h
 ·exact loc_one
 ·rcases h' with ⟨c,rfl⟩ | h'
  ·exact loc_one
  ·rw[← loc_set (blk:=blk) (blk':=blk) p h,← loc_set (blk:=blk) (blk':=blk') p h']
theorem pins_at {n:Nm} {p:List Nat} {hv:Value}:∀ {sp:List (Option (Nm×List Nat×Value))} {b bP:Nm→Box} {es:List (List T)} {r:List T},Pairs sp→pinsB b sp=some bP→some (n,p,hv)∈sp→rowAt (b n).cells p=some (.sl .own es :: r) →
  (∃ r',rowAt (bP n).cells p=some (.v hv :: r'))∧((∃ c,p=[c])∨setAt (b n).cells p (.v hv)=some (bP n).cells)
 |[],_,_,_,_,_,_,hm,_=>by simp at hm
 |none :: sp,b,bP,es,r,hp,h,hm,hr=>pins_at (sp:=sp) hp h (by simpa using hm) hr
 |some (n',p',hv') :: sp,b,bP,es,r,hp,h,hm,hr=>by
  simp only[pinsB] at h
  cases h1:setB b n' p' (.v hv') with
  |none=>rw[h1] at h;cases h
  |some b1=>
   rw[h1] at h
   rcases List.mem_cons.1 hm with e | hm
   ·cases e
    obtain ⟨cs,k1,rfl⟩:=setB_some h1
    obtain ⟨r1,k2⟩:=rowAt_self p k1 hr
    refine ⟨pins_row hp.1 h (by simpa using k2),?_⟩
    by_cases hs:∃ p' hv',some (n,p',hv')∈sp
    ·obtain ⟨p',hv',hs⟩:=hs
     rcases hp.1 n p' hv' hs with h | ⟨c,c',e,_,_⟩
     ·exact absurd rfl h
     ·exact .inl ⟨c,e⟩
    ·right
     rw[pins_other hs h]
     simpa using k1
   ·have hind:=hp.1 n p hv hm
    have hind':Indep n p n' p':=hind.elim (fun h=>.inl (Ne.symm h)) (fun ⟨c,c',e1,e2,e3⟩=>.inr ⟨c',c,e2,e1,Ne.symm e3⟩)
    obtain ⟨r1,k2⟩:=setB_row hind' h1 hr
    obtain ⟨k3,k4⟩:=pins_at (sp:=sp) hp.2 h hm k2
    refine ⟨k3,?_⟩
    rcases k4 with k4 | k4
    ·exact .inl k4
    ·rcases hind' with hne | ⟨c,c',e,_,_⟩
     ·right
      obtain ⟨cs,k1,rfl⟩:=setB_some h1
      simpa [hne] using k4
     ·exact .inl ⟨c,e⟩
theorem spotsOf_get {n:Nm} {p:List Nat}:∀ {ps:List LV} {j:Nat},(spotsOf ps)[j]?=some (some (n,p))→∃ lo hi,ps[j]?=some (.ref n p lo hi)
 |[],j,h=>by simp [spotsOf] at h
 |q :: qs,j,h=>by
  cases j with
  |zero=>
   cases q<;>simp [spotsOf] at h
   obtain ⟨rfl,rfl⟩:=h
   exact ⟨_,_,rfl⟩
  |succ j=>
   have hj':(spotsOf qs)[j]?=some (some (n,p)):=by cases q<;>simpa [spotsOf] using h
   obtain ⟨lo,hi,h⟩:=spotsOf_get hj'
   exact ⟨lo,hi,by simpa using h⟩
theorem puts_other {m:Nm}:∀ {sp:List (Option Spot)} {os:List T} {b bF:Nm→Box},¬ (∃ p,some (m,p)∈sp)→putsE b os sp=some bF→bF m=b m
 |[],_,b,bF,_,h=>by simp only[putsE,Option.some.injEq] at h;subst h;rfl
 |none :: sp,os,b,bF,hn,h=>puts_other (sp:=sp) (fun ⟨p,hm⟩=>hn ⟨p,by simp [hm]⟩) h
 |some (n',p') :: sp,[],b,bF,hn,h=>by simp [putsE] at h
 |some (n',p') :: sp,x :: os,b,bF,hn,h=>by
  simp only[putsE] at h
  cases h1:setB b n' p' x with
  |none=>rw[h1] at h;cases h
  |some b1=>
   rw[h1] at h
   rw[puts_other (sp:=sp) (fun ⟨p,hm⟩=>hn ⟨p,by simp [hm]⟩) h]
   obtain ⟨c,_,rfl⟩:=setB_some h1
   have:m≠n':=fun e=>hn ⟨p',by simp [e]⟩
   simp [this]
theorem puts_row {n:Nm} {p:List Nat} {z:T}:∀ {sp:List (Option Spot)} {os:List T} {b bF:Nm→Box} {r:List T},(∀ n' p',some (n',p')∈sp→Indep n p n' p')→putsE b os sp=some bF→rowAt (b n).cells p=some (z :: r)→∃ r',rowAt (bF n).cells p=some (z :: r')
 |[],_,b,bF,r,_,h,hr=>by simp only[putsE,Option.some.injEq] at h;subst h;exact ⟨r,hr⟩
 |none :: sp,os,b,bF,r,hi,h,hr=>puts_row (sp:=sp) (fun n' p' hm=>hi n' p' (by simp [hm])) h hr
 |some (n',p') :: sp,[],b,bF,r,hi,h,hr=>by simp [putsE] at h
 |some (n',p') :: sp,x :: os,b,bF,r,hi,h,hr=>by
  simp only[putsE] at h
  cases h1:setB b n' p' x with
  |none=>rw[h1] at h;cases h
  |some b1=>
   rw[h1] at h
   obtain ⟨r',k⟩:=setB_row (hi n' p' (by simp)) h1 hr
   exact puts_row (sp:=sp) (fun n' p' hm=>hi n' p' (by simp [hm])) h k
theorem puts_at {n:Nm} {p:List Nat}:∀ {sp:List (Option Spot)} {os:List T} {b bF:Nm→Box} {y:T} {r:List T} {j:Nat},PairsE sp→putsE b os sp=some bF→sp[j]?=some (some (n,p))→rowAt (b n).cells p=some (y :: r) →
  ∃ x,os[j]?=some x∧(∃ r',rowAt (bF n).cells p=some (x :: r'))∧((∃ c,p=[c])∨setAt (b n).cells p x=some (bF n).cells)
 |[],_,_,_,_,_,_,_,_,hm,_=>by simp at hm
 |none :: sp,os,b,bF,y,r,j,hp,h,hm,hr=>by
  cases j with
  |zero=>simp at hm
  |succ j=>
   obtain ⟨x,h1,h2⟩:=puts_at (sp:=sp) hp h (by simpa using hm) hr
   exact ⟨x,by simpa [Nat.add_comm] using h1,h2⟩
 |some (n',p') :: sp,[],b,bF,y,r,j,hp,h,hm,hr=>by simp [putsE] at h
 |some (n',p') :: sp,x :: os,b,bF,y,r,j,hp,h,hm,hr=>by
  simp only[putsE] at h
  cases h1:setB b n' p' x with
  |none=>rw[h1] at h;cases h
  |some b1=>
   rw[h1] at h
   cases j with
   |zero=>
    simp only[List.getElem?_cons_zero,Option.some.injEq,Prod.mk.injEq] at hm
    obtain ⟨rfl,rfl⟩:=hm
    obtain ⟨cs,k1,rfl⟩:=setB_some h1
    obtain ⟨r1,k2⟩:=rowAt_self p' k1 hr
    refine ⟨x,by simp,puts_row hp.1 h (by simpa using k2),?_⟩
    by_cases hs:∃ p,some (n',p)∈sp
    ·obtain ⟨p,hs⟩:=hs
     rcases hp.1 n' p hs with h | ⟨c,c',e,_,_⟩
     ·exact absurd rfl h
     ·exact .inl ⟨c,e⟩
    ·right
     rw[puts_other hs h]
     simpa using k1
   |succ j=>
    have hm:sp[j]?=some (some (n,p)):=by simpa using hm
    have hind:=hp.1 n p (List.mem_of_getElem? hm)
    have hind':Indep n p n' p':=hind.elim (fun h=>.inl (Ne.symm h)) (fun ⟨c,c',e1,e2,e3⟩=>.inr ⟨c',c,e2,e1,Ne.symm e3⟩)
    obtain ⟨r1,k2⟩:=setB_row hind' h1 hr
    obtain ⟨x2,k3,k4,k5⟩:=puts_at (sp:=sp) hp.2 h hm k2
    refine ⟨x2,by simpa using k3,k4,?_⟩
    rcases k5 with k5 | k5
    ·exact .inl k5
    ·rcases hind' with hne | ⟨c,c',e,_,_⟩
     ·right
      obtain ⟨cs,k1,rfl⟩:=setB_some h1
      simpa [hne] using k5
     ·exact .inl ⟨c,e⟩
section
variable {C:Ctx} {G:Gh} {st st1 st':St} {hs:List (T×Value)} {a:Act} {w:World}
theorem SameHdr.symm {x y:Value} (h:SameHdr x y):SameHdr y x:=by
 rcases h with rfl | ⟨b,b',h1,h2⟩
 ·exact .inl rfl
 ·exact .inr ⟨b',b,h2,h1⟩
theorem SameHdr.trans {x y z:Value} (h:SameHdr x y) (k:SameHdr y z):SameHdr x z:=by
 rcases h with rfl | ⟨b,b',rfl,rfl⟩
 ·exact k
 ·rcases k with rfl | ⟨c,c',e,rfl⟩
  ·exact .inr ⟨b,b',rfl,rfl⟩
  ·exact .inr ⟨b,c',rfl,rfl⟩
theorem Sim.refs_same (s:Sim C G st hs a w) {n:Nm} {p:List Nat} {es:List (List T)} {r:List T} {u u':Value} (hrow:rowAt (st.b n).cells p=some (.sl .own es :: r)) (h:RepV C G w st.b (.ref n p 0 es.length) u) (h':RepV C G w st.b (.ref n p 0 es.length) u'):SameHdr u u':=by
 rw[RepV] at h h'
 obtain ⟨es1,r1,a1,cap1,q1,_,_,⟨q4,q5,q6⟩,a1',q7,q8⟩:=h
 obtain ⟨es2,r2,a2,cap2,z1,_,_,⟨z4,z5,z6⟩,a2',z7,z8⟩:=h'
 rw[hrow] at q1 z1
 cases q1
 cases z1
 have e1:=q8 (.inr rfl)
 have e2:=z8 (.inr rfl)
 rw[shift_zero] at e1 e2
 subst e1
 subst e2
 rcases q6 with ⟨h1,h2⟩ | ⟨b,vs,ty,wd,h1,h2,h3,h4,h5,h6⟩
 ·rcases z6 with ⟨k1,k2⟩ | ⟨b2,vs2,ty2,wd2,k1,k2,k3,k4,k5,k6⟩
  ·subst h1;subst h2;subst k2
   exact .inr ⟨_,_,by rw[q7];rfl,by rw[z7];rfl⟩
  ·exact absurd h1 k2.2
 ·rcases z6 with ⟨k1,k2⟩ | ⟨b2,vs2,ty2,wd2,k1,k2,k3,k4,k5,k6⟩
  ·exact absurd k1 h2.2
  ·have hbb:=s.inj _ _ _ h3 k3
   subst hbb
   rw[h4] at k4
   cases k4
   have hwd:wd=wd2:=by
    cases es with
    |nil=>exact absurd rfl h2.2
    |cons e es=>rw[← h6 e (by simp),← k6 e (by simp)]
   subst hwd
   have hcap:cap1=cap2:=Nat.eq_of_mul_eq_mul_right h2.1 (h5.symm.trans k5)
   left
   rw[q7,z7,h1,k1,hcap]
theorem Sim.reref (s:Sim C G st hs a w) {n:Nm} {p:List Nat} {es:List (List T)} {r:List T} {hv u:Value} {ur:List Value} (hrow:rowAt (st.b n).cells p=some (.sl .own es :: r)) (hl:(loc w (st.b n).cells (G.vals n) (G.at st.b n) 0 p).map (·.1)=some (hv :: ur)) (h:SameHdr hv u):RepV C G w st.b (.ref n p 0 es.length) u:=by
 obtain ⟨urow,blk,off,k1,k2,_,k4⟩:=s.place hrow
 rw[k1] at hl
 simp only[Option.map_some,Option.some.injEq] at hl
 subst hl
 have e0:=pathLab_last p (l:=(.box n,[])) hrow
 rw[RepL,e0] at k2
 have h1:RepV C G w st.b (.ref n p 0 es.length) hv:=by
  have:=RepV_seen (st:=st) (n:=n) (p:=p) (x:=.sl .own es) (u:=hv) (row:=r) hrow (by simpa using k2.1)
  exact this
 rcases h with rfl | ⟨b,b',rfl,rfl⟩
 ·exact h1
 ·rw[RepV] at h1 ⊢
  obtain ⟨es1,r1,a1,cap1,q1,q2,q3,⟨q4,q5,q6⟩,a1',q7,q8⟩:=h1
  simp only[Value.slice.injEq] at q7
  obtain ⟨_,g2,g3⟩:=q7
  rw[hrow] at q1
  cases q1
  have hes:es=[]:=List.length_eq_zero_iff.1 (by omega)
  subst hes
  have hc:cap1=0:=by omega
  subst hc
  exact ⟨[],r,b',0,hrow,Nat.le_refl _,Nat.le_refl _,⟨Nat.le_refl _,by omega,.inl ⟨rfl,rfl⟩⟩,b',rfl,fun _=>(shift_zero b' []).symm⟩
theorem spot_row {vs:List LV}:∀ {st:St},CanLift st vs→PairsE (spotsOf vs)→∀ n p,some (n,p)∈spotsOf vs→∃ es r,rowAt (st.b n).cells p=some (.sl .own es :: r):=by
 induction vs with
 |nil=>intro st _ _ n p h;simp [spotsOf] at h
 |cons v vs ih=>
  intro st h hp n p hm
  cases v with
  |t x=>exact ih h.2 hp n p (by simpa [spotsOf] using hm)
  |ref m q lo hi=>
   cases lo with
   |zero=>
    obtain ⟨es,r,h1,h2,h3,h4⟩:=h
    simp only[spotsOf,List.mem_cons,Option.some.injEq,Prod.mk.injEq] at hm
    rcases hm with ⟨rfl,rfl⟩ | hm
    ·exact ⟨es,r,h1⟩
    ·-- it is there behind the first one's pin;so it was there before
     obtain ⟨cs,hcs⟩:=h3 (.v (.int .i64 0))
     obtain ⟨es',r',h5⟩:=ih (h4 _ cs hcs).2 hp.2 n p hm
     have hind:=hp.1 n p hm
     rcases hind with hne | ⟨c,c',rfl,rfl,hc⟩
     ·simp only[St.anew,if_neg (Ne.symm hne)] at h5
      exact ⟨es',r',h5⟩
     ·by_cases hn:n=m
      ·subst hn
       simp only[St.anew,if_true] at h5
       simp only[setAt] at hcs
       split at hcs
       ·cases hcs
        simp only[rowAt,Option.some.injEq] at h5
        have:=drop_head h5
        rw[List.getElem?_set,if_neg hc] at this
        exact ⟨es',_,by simp only[rowAt];rw[head_drop this]⟩
       ·cases hcs
      ·simp only[St.anew,if_neg hn] at h5
       exact ⟨es',r',h5⟩
   |succ lo=>exact h.elim
  |_=>exact h.elim
theorem own_calls {P:Program} {o:Oper} {f:FuncId} {vs ps:List LV} {v0:LV} {d i0:Nat} {nb:Nm} {args res:List Arg} {outs:List (List T)} {os:List T} {bF:Nm→Box} (hP:C.P=P) (hdN:d<C.N)
  (s:Sim C G st [] a w) (hc:callOf st o=some (f,vs,d)) (hi0:vs[i0]?=some v0) (hps:v0=.agg ps∨ps=[v0]∧∀ xs,v0≠.agg xs) (F:Fun P f args outs res) (hlen:vs.length=args.length)
  (hown:∀ xs st1 sp,Lift st ps xs sp st1→args[i0]?=some (ownArg v0 xs))
  (hoth:∀ i c,i≠i0→args[i]?=some c→∃ x y,vs[i]?=some (.t x)∧c=.one y∧(y=x∨y=frz x))
  (hlift:CanLift st ps) (hpair:PairsE (spotsOf ps)) (hnb:nb.2=0∧gone d nb=false) (hnm:∀ n p,some (n,p)∈spotsOf ps→n≠nb∧gone d n=false)
  (hfull:∀ n p lo hi,LV.ref n p lo hi∈ps→lo=0∧∃ es r,rowAt (st.b n).cells p=some (.sl .own es :: r)∧hi=es.length)
  (hol:outs.length=args.length) (hos:outs.getD i0 []=os) (hosl:os.length=ps.length) (hoso:∀ (j:Nat) n p,(spotsOf ps)[j]?=some (some (n,p))→∃ x,os[j]?=some x∧((∃ es,x=.sl .own es)∨x=.hole)) (hputs:putsE st.b os (spotsOf ps)=some bF) :
  ∃ us:List Value,o.dst=some d∧(execOp a.eval o).run C.P w=.ok (.enter f us.toArray) w∧Calls C.P f us.toArray w fun e w'=>∃ v,e=.returned v∧∃ G',Sim C G' (ownAfter st d nb ((List.range args.length).map fun i=>if i=i0 then some nb else none) args outs res (spotsOf ps) bF) [] (a.put (some d) v) w'∧(∀ b,G.Zn b→w'.heap[b]?=w.heap[b]?) ∧
    ∀ (j:Nat) (es':List (List T)) n p es r u,(spotsOf ps)[j]?=some (some (n,p))→os[j]?=some (.sl .own es')→rowAt (st.b n).cells p=some (.sl .own es :: r)→RepV C G w st.b (.ref n p 0 es.length) u→∃ r',rowAt (bF n).cells p=some (.sl .own es' :: r')∧RepV C G' w' (ownAfter st d nb ((List.range args.length).map fun i=>if i=i0 then some nb else none) args outs res (spotsOf ps) bF).b (.ref n p 0 es'.length) u:=by
 subst hP
 have hi0l:i0<args.length:=by
  rw[← hlen]
  exact (List.getElem?_eq_some_iff.1 hi0).1
 let mv:List (Option Nm):=(List.range args.length).map fun i=>if i=i0 then some nb else none
 have hmvl:mv.length=args.length:=by simp [mv]
 have hmv:∀ i n,mv[i]?=some (some n)→i=i0∧n=nb:=by
  intro i n h
  simp only[mv,List.getElem?_map] at h
  obtain ⟨j,h1,h2⟩:=Option.map_eq_some_iff.1 h
  have hj:=List.getElem?_range (List.getElem?_eq_some_iff.1 h1).1
  have:j=i:=by
   obtain ⟨hlt,e⟩:=List.getElem?_eq_some_iff.1 h1
   simpa using e.symm
  subst this
  split at h2
  ·rename_i e
   cases h2
   exact ⟨e,rfl⟩
  ·cases h2
 have hmv0:mv[i0]?=some (some nb):=by simp [mv,hi0l]
 have hinj:∀ (i j:Nat) (n:Nm),mv[i]?=some (some n)→mv[j]?=some (some n)→i=j:=fun i j n h1 h2=>(hmv i n h1).1.trans (hmv j n h2).1.symm
 obtain ⟨hd,us,hrun,hus⟩:=callOf_run s hc F.1
 obtain ⟨u0,hu0,hr0⟩:=hus.get i0 v0 hi0
 obtain ⟨ups,hups,hu0s⟩:∃ ups:List Value,RepVs C G w st.b ps ups∧((∃ xs,v0=.agg xs)∧u0=.agg ups.toArray∨(∀ xs,v0≠.agg xs)∧ups=[u0]):=by
  rcases hps with rfl | ⟨rfl,h⟩
  ·rw[RepV] at hr0
   obtain ⟨ua,rfl,hr⟩:=hr0
   exact ⟨ua.toList,hr,.inl ⟨⟨_,rfl⟩,by simp⟩⟩
  ·exact ⟨[u0],by rw[RepVs,RepVs];exact ⟨hr0,rfl⟩,.inr ⟨h,rfl⟩⟩
 obtain ⟨G1,xs,sp,st1,hl,s1,z1,l1,l2,hsame⟩:=lift_step (hs:=[]) ps s hups hlift
 rw[List.nil_append] at s1
 obtain ⟨e1,e2,e3,e4,e5⟩:=hl.spots
 obtain ⟨G2,s2,z2,v2⟩:=s1.boxAll l1 nb (by rw[hnb.1];omega)
 let st2:St:=⟨fun u=>killV nb [] (st1.s u),fun k=>if k=nb then ⟨false,xs⟩ else st1.b k⟩
 have hown':=hown xs st1 sp hl
 have hcall:=call_in (C:=C) (G:=G2) (st:=st2) s2 F hinj (by rw[hus.length];exact hlen) (by simp [mv]) (lent:=false) (us:=us) (mv:=mv) (fun i c u hci hui=>by
  unfold ArgS
  by_cases hi:i=i0
  ·subst hi
   rw[hmv0]
   simp only
   rw[hu0] at hui
   cases hui
   rw[hown'] at hci
   cases hci
   have hbn:st2.b nb=⟨false,xs⟩:=by simp [st2]
   rcases hu0s with ⟨⟨zs,rfl⟩,rfl⟩ | ⟨hno,rfl⟩
   ·exact ⟨by rw[hbn],by rw[hbn],ups.toArray,rfl,by rw[v2]⟩
   ·have hoa:ownArg v0 xs=.own (xs.headD .hole):=by
     cases v0 with
     |agg zs=>exact absurd rfl (hno zs)
     |_=>rfl
    rw[hoa]
    have hx1:∃ x,xs=[x]:=by
     simp only[List.length_cons,List.length_nil] at l1
     exact List.length_eq_one_iff.1 l1
    obtain ⟨x,rfl⟩:=hx1
    exact ⟨by rw[hbn],by rw[hbn];rfl,by rw[v2]⟩
  ·have hn:∀ n,mv[i]?≠some (some n):=fun n h=>hi (hmv i n h).1
   obtain ⟨x,y,q1,rfl,q3⟩:=hoth i c hi hci
   obtain ⟨u',hu',hr'⟩:=hus.get i _ q1
   rw[hui] at hu'
   cases hu'
   have hr2:RepC (Zof (ctxIn C G2 st2 w mv false).Zf G2.Zn) w noLab noWhere y u:=by
    rw[RepV] at hr'
    have hz:∀ f b,C.Z G f b→C.Z G2 f b:=by
     intro f b h
     cases f
     ·exact h
     ·show G2.Zn b;rw[z2,z1];exact h
     ·exact h.imp id (fun h=>by show G2.Zn b;rw[z2,z1];exact h)
    have h3:RepC (C.Z G2) w noLab noWhere x u:=RepC.move (fun f b h=>⟨hz f b h,rfl⟩) x noLab_under hr'
    rcases q3 with rfl | rfl
    ·exact RepC.move (fun f b h=>⟨zone_in f b h,rfl⟩) y noLab_under h3
    ·exact RepC.frz (Z:=C.Z G2) fz_zone x (noLab_vac (l:=noWhere)) h3
   cases ho:mv[i]? with
   |none=>exact hr2
   |some om=>
    cases om with
    |none=>exact hr2
    |some n=>exact absurd ho (hn n))
 refine ⟨us,hd,hrun,Calls.mono hcall fun e w' hR=>?_⟩
 cases e with
 |panicked ch=>exact hR.elim
 |outgrown=>exact hR.elim
 |returned v=>
  obtain ⟨G3,s3,hv3⟩:=call_out (args:=args) s2 hR d hdN hinj (fun i n h=>.inl (by rw[(hmv i n h).2];simp)) (fun i n h=>by rw[hol,(hmv i n h).1];exact hi0l) (fun h=>by cases h)
  have hmi:mvIdx nb 0 mv=some i0:=mvIdx_mk hinj hmv0
  have hvals:G3.vals nb=ups:=by rw[hv3 nb i0 hnb.2 hmi (by simp)];exact v2
  have hboxA:∀ m,m≠nb→gone d m=false→(afterCall st2 d mv args outs res).b m=st1.b m:=by
   intro m h1 h2
   have:mvIdx m 0 mv=none:=by
    cases hk:mvIdx m 0 mv with
    |none=>rfl
    |some k=>exact absurd (hmv k m (by simpa using (mvIdx_some hk).2)).2 h1
   simp only[afterCall,h2,this,Bool.false_eq_true,if_false,st2,if_neg h1]
  have hboxN:(afterCall st2 d mv args outs res).b nb=⟨false,os⟩:=by
   simp only[afterCall,hnb.2,hmi,Bool.false_eq_true,if_false,st2,if_true,hos]
  obtain ⟨st3,low,k1,k2,k3,k4,k5⟩:=lower_ex (nb:=nb) sp (k:=0) (os:=os) (b:=st.b) (bP:=st1.b) (bF:=bF) (stX:=afterCall st2 d mv args outs res) (erase_pairs (by rw[e1];exact hpair)) hl.boxes (by rw[erase_puts,e1];exact hputs)
   (fun m ⟨p,hv,hm⟩=>by
    obtain ⟨h1,h2⟩:=hnm m p (by rw[← e1];exact mem_erase.2 ⟨hv,hm⟩)
    exact ⟨h1,hboxA m h1 h2⟩) (fun j n p hv hj=>by
    have hj':(spotsOf ps)[j]?=some (some (n,p)):=by rw[← e1];simp [erase,hj]
    exact ⟨spot_row hlift hpair n p (List.mem_of_getElem? hj'),hoso j n p hj'⟩) (by rw[hboxN];rfl) (by omega)
  obtain ⟨G4,s4,v4⟩:=low.sim s3 (by rw[hboxN];rfl) (fun j n p hv hj=>by
   have hjl:j<ups.length:=by
    have:=(List.getElem?_eq_some_iff.1 hj).1
    omega
   refine ⟨ups[j],by rw[hvals];simp,hsame j n p hv _ hj (by simp)⟩)
  obtain ⟨G5,s5,_,_,v5,_⟩:=s4.freshBox (w':=w') nb (by rw[hnb.1];omega) ⟨false,[]⟩ [] none (fun _ _=>none) (fun _ _ _ _ _ h=>by cases h) (fun B q0 e=>by cases e) (fun B q0 e=>by cases e) (fun b _ _=>rfl) (Nat.le_refl _) ⟨rfl,rfl,rfl⟩ (by simp only;rw[RepL];trivial) rfl (fun h=>by cases h)
  have hfin:(⟨fun u=>killV nb [] (st3.s u),fun m=>if m=nb then ⟨false,[]⟩ else st3.b m⟩:St)=ownAfter st d nb mv args outs res (spotsOf ps) bF:=by
   refine St.ext' (fun t=>?_) fun m=>?_
   ·simp only[ownAfter]
    rw[k5,erase_kill,e1]
    congr 1
    simp only[afterCall]
    split
    ·rfl
    ·simp only[st2]
     rw[e4,erase_kill,e1]
   ·simp only[ownAfter]
    by_cases h1:m=nb
    ·simp [h1]
    ·simp only[if_neg h1]
     by_cases h2:spotN m sp
     ·have h3:gone d m=false:=by
       obtain ⟨p,hv,hm⟩:=h2
       exact (hnm m p (by rw[← e1];exact mem_erase.2 ⟨hv,hm⟩)).2
      rw[k1 m h2,h3]
      simp
     ·rw[k2 m h2 h1]
      cases h3:gone d m with
      |true=>simp only[afterCall,h3,if_true]
      |false=>
       rw[hboxA m h1 h3,k3 m h2,pins_other h2 hl.boxes]
       simp
  refine ⟨v,rfl,G5,by rw[hfin] at s5;exact s5,fun b hb=>?_,fun j es' n p es r u hj hes' hrow hu=>?_⟩
  ·have hb2:G2.Zn b:=by rw[z2,z1];exact hb
   obtain ⟨_,_,_,_,_,_,sP,_⟩:=hR
   obtain ⟨q1,q2⟩:=s2.zone b (.inr hb2)
   exact sP.old b q2 (by rintro ⟨l,hl⟩;unfold labIn at hl;rw[q1] at hl;cases hl)
  have hm:=List.mem_of_getElem? hj
  obtain ⟨hnn,hng⟩:=hnm n p hm
  obtain ⟨o,ho,ho2⟩:∃ hv,sp[j]?=some (some (n,p,hv))∧some (n,p,hv)∈sp:=by
   have hj2:=hj
   rw[← e1] at hj2
   simp only[erase,List.getElem?_map] at hj2
   obtain ⟨o,q1,q2⟩:=Option.map_eq_some_iff.1 hj2
   obtain ⟨x,rfl,q3⟩:=Option.map_eq_some_iff.1 q2
   simp only[Prod.mk.injEq] at q3
   obtain ⟨rfl,rfl⟩:=q3
   exact ⟨x.2.2,q1,List.mem_of_getElem? q1⟩
  obtain ⟨⟨rP,hP1⟩,hP2⟩:=pins_at (erase_pairs (by rw[e1];exact hpair)) hl.boxes ho2 hrow
  obtain ⟨x,hx1,⟨rF,hF1⟩,hF2⟩:=puts_at hpair hputs hj hrow
  rw[hx1] at hes'
  cases hes'
  refine ⟨rF,hF1,?_⟩
  have hjl:j<ups.length:=by
   have:=(List.getElem?_eq_some_iff.1 ho).1
   omega
  have hsm:=hsame j n p o _ ho (List.getElem?_eq_getElem hjl)
  have hpart:RepV C G w st.b (.ref n p 0 es.length) ups[j]:=by
   have hpsj:=spotsOf_get hj
   obtain ⟨lo,hi,hpsj⟩:=hpsj
   obtain ⟨rfl,es2,r2,g1,g2⟩:=hfull _ _ _ _ (List.mem_of_getElem? hpsj)
   rw[hrow] at g1
   cases g1
   subst g2
   obtain ⟨u2,hu2,hr2⟩:=hups.get j _ hpsj
   rw[List.getElem?_eq_getElem hjl] at hu2
   cases hu2
   exact hr2
  have hsu:SameHdr o u:=hsm.trans (s.refs_same hrow hpart hu)
  have hX:(afterCall st2 d mv args outs res).b n=st1.b n:=hboxA n hnn hng
  obtain ⟨urow3,blk3,off3,z1,z2,_,_⟩:=s3.place (n:=n) (p:=p) (row:=.v o :: rP) (by rw[hX];exact hP1)
  obtain ⟨ur,rfl⟩:∃ ur,urow3=o :: ur:=by
   cases urow3 with
   |nil=>rw[RepL] at z2;exact z2.elim
   |cons x xs=>
    rw[RepL,RepC] at z2
    exact ⟨xs,by rw[z2.1.1]⟩
  have hfb:(ownAfter st d nb mv args outs res (spotsOf ps) bF).b n=bF n:=by simp only[ownAfter,if_neg hnn,hng];simp
  have hst3:st3.b n=bF n:=k1 n ⟨p,o,ho2⟩
  have hv5:G5.vals n=G3.vals n:=by rw[v5 n hnn,v4]
  rw[hfin] at s5
  refine s5.reref (hv:=o) (ur:=ur) (r:=rF) (by rw[hfb];exact hF1) ?_ hsu
  rw[hfb,hv5]
  have hz:(loc w' (st1.b n).cells (G3.vals n) (G3.at (afterCall st2 d mv args outs res).b n) 0 p).map (·.1)=some (o :: ur):=by rw[← hX,z1];rfl
  rw[← hz]
  exact (loc_same hP2 hF2).symm
theorem good_of_calls {f0:FuncId} {R:Value→World→Prop} {k:List It} {all:Array Oper} {o:Oper} {rest:List Oper} {f:FuncId} {d:Nat} (hw:WF (.ops all (o :: rest))) (hg:guardOK st all o)
  (h:∀ G a w,Sim C G st [] a w→∃ us,o.dst=some d∧(execOp a.eval o).run C.P w=.ok (.enter f us) w∧Calls C.P f us w fun e w'=>∃ v,e=.returned v∧∃ G',Sim C G' st' [] (a.put (some d) v) w')
  (next:Good C f0 R (.ops all rest :: k) st'):Good C f0 R (.ops all (o :: rest) :: k) st:=by
 intro G a w s
 obtain ⟨pre,hpre⟩:=hw
 obtain ⟨hidx,ho⟩:=idx_cons hpre
 have hitem:(It.ops all (o :: rest)).item=.inRegion all (pre.length :: (List.range all.size).drop (all.size-rest.length)):=by rw[It.item,hidx]
 obtain ⟨us,hd,hrun,hcall⟩:=h G a w s
 have hwant:Region.wanted o (yielded all a.tmps)=true:=by
  unfold Region.wanted
  unfold guardOK guardOf at hg
  cases hgd:o.guard with
  |none=>rfl
  |some jw=>
   obtain ⟨j,want⟩:=jw
   rw[hgd] at hg
   simp only at hg ⊢
   cases hj:(all[j]?).bind (·.dst) with
   |none=>rw[hj] at hg;exact hg.elim
   |some d'=>
    rw[hj] at hg
    rw[s.yields hj hg]
    simp
 intro b cs hb hk
 obtain ⟨e,w',fr,hR,hcomes,hfn,hleave⟩:=hcall (b.at a ((It.ops all (o :: rest) :: k).map It.item) :: cs)
 obtain ⟨v,rfl,G2,s2⟩:=hR
 obtain ⟨v2,w2,fr2,g1,g2,g3⟩:=next G2 _ w' s2 b cs hb hk
 refine ⟨v2,w2,fr2,g1,?_,g3⟩
 have hstep:step C.P (lone (b.at a ((It.ops all (o :: rest) :: k).map It.item)) cs w)=.next (lone (Frame.enter C.P f us .normal) (b.at a ((It.ops all (o :: rest) :: k).map It.item) :: cs) w):=by
  rw[List.map_cons,hitem]
  have hgo:=stepG_op (P:=C.P) (b:=b) (a:=a) (k:=k.map It.item) (cs:=cs) (w:=w) (rest:=(List.range all.size).drop (all.size-rest.length)) ho hwant
  refine step_lone_go ?_
  rw[hgo]
  simp [stepG.apply,hrun,Frame.at]
 have hfin:(b.at a ((It.ops all (o :: rest) :: k).map It.item)).finish v=b.at (a.put (some d) v) ((It.ops all rest :: k).map It.item):=by
  rw[List.map_cons,hitem,Frame.finish_at,ho]
  simp only[Option.bind_some,hd]
  rfl
 refine .head hstep (Steps.trans hcomes (.head (step_leave_returned hleave) ?_))
 rw[hfin]
 exact g2
end
end TM
namespace TM
open Go
inductive ST where
 |int (k:IntKind)
 |bool
 |str
 |sl (row:List ST)
 |pt (row:List ST)
 |fn (g:Nat) (caps:List ST)
 |hole
 |hs (c:Nat) (row:List ST)
inductive Fg where
 |z
 |nil
 |sl (f:Fl) (row:List Fg)
 |pt (f:Fl) (row:List Fg)
 |fn (caps:List Fg)
mutual
def ST.beq:ST→ST→Bool
 |.int k,.int l=>decide (k=l)
 |.bool,.bool=>true
 |.str,.str=>true
 |.sl r,.sl q=>ST.beqs r q
 |.pt r,.pt q=>ST.beqs r q
 |.fn g r,.fn h q=>Nat.beq g h&&ST.beqs r q
 |.hole,.hole=>true
 |.hs c r,.hs d q=>Nat.beq c d&&ST.beqs r q
 |_,_=>false
def ST.beqs:List ST→List ST→Bool
 |[],[]=>true
 |x :: xs,y :: ys=>ST.beq x y&&ST.beqs xs ys
 |_,_=>false
end
mutual
theorem ST.beq_eq:∀ x y:ST,ST.beq x y=true→x=y
 |.int k,y,h=>by cases y<;>simp [ST.beq] at h<;>rw[h]
 |.bool,y,h=>by cases y<;>simp [ST.beq] at h<;>rfl
 |.str,y,h=>by cases y<;>simp [ST.beq] at h<;>rfl
 |.hole,y,h=>by cases y<;>simp [ST.beq] at h<;>rfl
 |.hs c r,y,h=>by cases y<;>simp [ST.beq] at h<;>rw[ST.beqs_eq _ _ h.2,h.1]
 |.sl r,y,h=>by cases y<;>simp [ST.beq] at h<;>rw[ST.beqs_eq _ _ h]
 |.pt r,y,h=>by cases y<;>simp [ST.beq] at h<;>rw[ST.beqs_eq _ _ h]
 |.fn g r,y,h=>by cases y<;>simp [ST.beq] at h<;>rw[ST.beqs_eq _ _ h.2,h.1]
theorem ST.beqs_eq:∀ x y:List ST,ST.beqs x y=true→x=y
 |[],y,h=>by cases y<;>simp [ST.beqs] at h<;>rfl
 |x :: xs,y,h=>by cases y<;>simp [ST.beqs] at h<;>rw[ST.beq_eq _ _ h.1,ST.beqs_eq _ _ h.2]
end
mutual
def Fg.beq:Fg→Fg→Bool
 |.z,.z=>true
 |.nil,.nil=>true
 |.sl f r,.sl g q=>decide (f=g)&&Fg.beqs r q
 |.pt f r,.pt g q=>decide (f=g)&&Fg.beqs r q
 |.fn r,.fn q=>Fg.beqs r q
 |_,_=>false
def Fg.beqs:List Fg→List Fg→Bool
 |[],[]=>true
 |x :: xs,y :: ys=>Fg.beq x y&&Fg.beqs xs ys
 |_,_=>false
end
mutual
theorem Fg.beq_eq:∀ x y:Fg,Fg.beq x y=true→x=y
 |.z,y,h=>by cases y<;>simp [Fg.beq] at h<;>rfl
 |.nil,y,h=>by cases y<;>simp [Fg.beq] at h<;>rfl
 |.sl f r,y,h=>by cases y<;>simp [Fg.beq] at h<;>rw[h.1,Fg.beqs_eq _ _ h.2]
 |.pt f r,y,h=>by cases y<;>simp [Fg.beq] at h<;>rw[h.1,Fg.beqs_eq _ _ h.2]
 |.fn r,y,h=>by cases y<;>simp [Fg.beq] at h<;>rw[Fg.beqs_eq _ _ h]
theorem Fg.beqs_eq:∀ x y:List Fg,Fg.beqs x y=true→x=y
 |[],y,h=>by cases y<;>simp [Fg.beqs] at h<;>rfl
 |x :: xs,y,h=>by cases y<;>simp [Fg.beqs] at h<;>rw[Fg.beq_eq _ _ h.1,Fg.beqs_eq _ _ h.2]
end
def Fl.low:Fl→Bool
 |.own=>false
 |_=>true
mutual
def Fg.frz:Fg→Fg
 |.z=>.z
 |.nil=>.nil
 |.sl _ r=>.sl .fz (Fg.frzs r)
 |.pt _ r=>.pt .fz (Fg.frzs r)
 |.fn r=>.fn (Fg.frzs r)
def Fg.frzs:List Fg→List Fg
 |[]=>[]
 |x :: xs=>x.frz :: Fg.frzs xs
end
mutual
def Fg.noFz:Fg→Bool
 |.z=>true
 |.nil=>true
 |.sl f r=>decide (f≠.fz)&&Fg.noFzs r
 |.pt f r=>decide (f≠.fz)&&Fg.noFzs r
 |.fn r=>Fg.noFzs r
def Fg.noFzs:List Fg→Bool
 |[]=>true
 |x :: xs=>x.noFz&&Fg.noFzs xs
end
def Fl.lw (z:Bool) (f:Fl):Fl:=match z,f with
 |true,_=>.fz
 |false,.own=>.nw
 |false,f=>f
mutual
def Fg.lw (z:Bool):Fg→Fg
 |.z=>.z
 |.nil=>.nil
 |.sl f r=>.sl (f.lw z) (Fg.lws z r)
 |.pt f r=>.pt (f.lw z) (Fg.lws z r)
 |.fn r=>.fn (Fg.lws z r)
def Fg.lws (z:Bool):List Fg→List Fg
 |[]=>[]
 |x :: xs=>x.lw z :: Fg.lws z xs
end
mutual
def ST.own0:ST→Fg
 |.sl r=>.sl .own (ST.owns0 r)
 |.pt r=>.pt .own (ST.owns0 r)
 |.fn _ r=>.fn (ST.owns0 r)
 |_=>.z
def ST.owns0:List ST→List Fg
 |[]=>[]
 |t :: ts=>t.own0 :: ST.owns0 ts
end
inductive AP where
 |one (t:ST) (f:Fg)
 |agg (r:List (ST×Fg))
 |ptr (r:List (ST×Fg))
 |own (t:ST) (f:Fg)
 |owns (r:List (ST×Fg))
def AP.cts:AP→List (ST×Fg)
 |.one t f=>[(t,f)]
 |.agg r=>r
 |.ptr r=>r
 |.own t f=>[(t,f)]
 |.owns r=>r
inductive VP where
 |c (t:ST) (f:Fg)
 |ref (n:Nm) (c0:Nat)
 |win (n:Nm) (c0:Nat)
 |addr (n:Nm) (c0:Nat)
 |raddr (r:List (ST×Fg))
 |agg (xs:List VP)
 |tup (xs:List VP)
 |fn (g:Nat) (xs:List VP)
def ctBeq (x y:ST×Fg):Bool:=ST.beq x.1 y.1&&Fg.beq x.2 y.2
def ctsBeq:List (ST×Fg)→List (ST×Fg)→Bool
 |[],[]=>true
 |x :: xs,y :: ys=>ctBeq x y&&ctsBeq xs ys
 |_,_=>false
def ctssBeq:List (List (ST×Fg))→List (List (ST×Fg))→Bool
 |[],[]=>true
 |x :: xs,y :: ys=>ctsBeq x y&&ctssBeq xs ys
 |_,_=>false
def AP.beq:AP→AP→Bool
 |.one t f,.one u g=>ST.beq t u&&Fg.beq f g
 |.agg r,.agg q=>ctsBeq r q
 |.ptr r,.ptr q=>ctsBeq r q
 |.own t f,.own u g=>ST.beq t u&&Fg.beq f g
 |.owns r,.owns q=>ctsBeq r q
 |_,_=>false
def apsBeq:List AP→List AP→Bool
 |[],[]=>true
 |x :: xs,y :: ys=>AP.beq x y&&apsBeq xs ys
 |_,_=>false
theorem ctBeq_eq {x y:ST×Fg} (h:ctBeq x y=true):x=y:=by
 simp only[ctBeq,Bool.and_eq_true] at h
 exact Prod.ext (ST.beq_eq _ _ h.1) (Fg.beq_eq _ _ h.2)
theorem ctsBeq_eq:∀ {x y:List (ST×Fg)},ctsBeq x y=true→x=y
 |[],[],_=>rfl
 |x :: xs,y :: ys,h=>by
  simp only[ctsBeq,Bool.and_eq_true] at h
  rw[ctBeq_eq h.1,ctsBeq_eq h.2]
 |[],_ :: _,h=>by simp [ctsBeq] at h
 |_ :: _,[],h=>by simp [ctsBeq] at h
theorem ctssBeq_eq:∀ {x y:List (List (ST×Fg))},ctssBeq x y=true→x=y
 |[],[],_=>rfl
 |x :: xs,y :: ys,h=>by
  simp only[ctssBeq,Bool.and_eq_true] at h
  rw[ctsBeq_eq h.1,ctssBeq_eq h.2]
 |[],_ :: _,h=>by simp [ctssBeq] at h
 |_ :: _,[],h=>by simp [ctssBeq] at h
theorem AP.beq_eq {x y:AP} (h:AP.beq x y=true):x=y:=by
 cases x<;>cases y<;>simp [AP.beq] at h
 ·rw[ST.beq_eq _ _ h.1,Fg.beq_eq _ _ h.2]
 ·rw[ctsBeq_eq h]
 ·rw[ctsBeq_eq h]
 ·rw[ST.beq_eq _ _ h.1,Fg.beq_eq _ _ h.2]
 ·rw[ctsBeq_eq h]
theorem apsBeq_eq:∀ {x y:List AP},apsBeq x y=true→x=y
 |[],[],_=>rfl
 |x :: xs,y :: ys,h=>by
  simp only[apsBeq,Bool.and_eq_true] at h
  rw[AP.beq_eq h.1,apsBeq_eq h.2]
 |[],_ :: _,h=>by simp [apsBeq] at h
 |_ :: _,[],h=>by simp [apsBeq] at h
mutual
def VP.cts:VP→List (ST×Fg)
 |.c t f=>[(t,f)]
 |.ref _ _=>[]
 |.win _ _=>[(.int .i64,.z),(.int .i64,.z)]
 |.addr _ _=>[]
 |.raddr r=>r
 |.agg xs=>VP.ctss xs
 |.tup xs=>VP.ctss xs
 |.fn _ xs=>VP.ctss xs
def VP.ctss:List VP→List (ST×Fg)
 |[]=>[]
 |x :: xs=>x.cts++VP.ctss xs
end
structure Lb where
 f:Nat
 i:Nat
 q:Option (List Nat)
 args:List AP
 slots:List (Nat×VP)
 boxes:List (Nm×Bool×List (ST×Fg))
 outs:List (List (ST×Fg))
 res:List AP
 fx:List (Nat×Bool×Nat×Bool)
def Lb.inT (l:Lb):List (ST×Fg):=match l.q with
 |none=>l.args.flatMap AP.cts
 |some _=>VP.ctss (l.slots.map (·.2))++l.boxes.flatMap (·.2.2)
def Lb.outT (l:Lb):List (ST×Fg):=l.outs.flatMap id++l.res.flatMap AP.cts
def codeAt:Code→List Nat→Option Code
 |c,[]=>some c
 |.seq x _,0 :: p=>codeAt x p
 |.seq _ y,1 :: p=>codeAt y p
 |.block _ x,0 :: p=>codeAt x p
 |.loop x,0 :: p=>codeAt x p
 |.cond _ x _,0 :: p=>codeAt x p
 |.cond _ _ y,1 :: p=>codeAt y p
 |_,_=>none
def stOf (P:Program):Nat→TypeId→Option (List (ST×Fg))
 |0,_=>none
 |n+1,t=>match P.underlying t with
  |some (.int k)=>some [(.int k,.z)]
  |some .bool=>some [(.bool,.z)]
  |some .string=>some [(.str,.z)]
  |some (.slice e)=>match stOf P n e with
   |some r=>some [(.sl (r.map (·.1)),.sl .own (r.map (·.2)))]
   |none=>none
  |some (.struct fs)=>(fs.toList.mapM fun f=>stOf P n f.type).map List.flatten
  |_=>none
end TM
namespace TM
open Go
mutual
def den:ST→Type
 |.int _=>Int
 |.bool=>Bool
 |.str=>List UInt8
 |.sl row=>List (dens row)
 |.pt row=>dens row
 |.fn _ caps=>dens caps
 |.hole=>Unit
 |.hs _ row=>List (dens row)×Nat
def dens:List ST→Type
 |[]=>Unit
 |[t]=>den t
 |t :: u :: r=>den t×dens (u :: r)
end
section
variable {ρ α:Type}
def w64 (n:Int):Int:=IntKind.i64.wrap n
def max_ (a b:Int):Int:=if b > a then b else a
def and_ (k:IntKind) (a b:Int):Int:=k.wrap (BitVec.ofInt k.bits a &&& BitVec.ofInt k.bits b).toNat
def or_ (k:IntKind) (a b:Int):Int:=k.wrap (BitVec.ofInt k.bits a ||| BitVec.ofInt k.bits b).toNat
def xor_ (k:IntKind) (a b:Int):Int:=k.wrap (BitVec.ofInt k.bits a ^^^ BitVec.ofInt k.bits b).toNat
def shl_ (k:IntKind) (a b:Int):Int:=k.wrap (a * 2 ^ min b.toNat k.bits)
def shr_ (k:IntKind) (a b:Int):Int:=Int.fdiv a (2 ^ min b.toNat k.bits)
def at_ (l:List α) (i:Int) (k:Nat→α→Option ρ):Option ρ:=match (if 0≤i then l[i.toNat]? else none) with
 |some e=>k i.toNat e
 |none=>none
def atN (l:List α) (i:Nat) (k:α→Option ρ):Option ρ:=match l[i]? with
 |some e=>k e
 |none=>none
def atS (l:List UInt8) (i:Int) (k:Int→Option ρ):Option ρ:=match (if 0≤i then l[i.toNat]? else none) with
 |some c=>k c.toNat
 |none=>none
open Classical in
noncomputable def both_ (x y:Option α):Option α:=if x=y then x else none
def cutL (l:List α) (a b:Nat):List α:=(l.take b).drop a
def clr (l:List α) (a b:Nat) (e:α):List α:=l.take a++List.replicate (b-a) e++l.drop b
def sub_ (l:List α) (a b:Int) (k:List α→Option ρ):Option ρ:=if 0≤a∧a≤b∧b≤l.length then k (cutL l a.toNat b.toNat) else none
def win_ (l:List α) (a b:Int) (k:Nat→Nat→Option ρ):Option ρ:=if 0≤a∧a≤b∧b≤l.length then k a.toNat b.toNat else none
def atW (l:List α) (x y:Nat) (j:Int) (k:Nat→α→Option ρ):Option ρ:=match (if 0≤j∧j<((y-x:Nat):Int) then l[x+j.toNat]? else none) with
 |some e=>k (x+j.toNat) e
 |none=>none
def app_ (l m:List α) (k:List α→Option ρ):Option ρ:=if l.length+m.length≤1073741824 then k (l++m) else none
def rep_ (n:Int) (e:α) (k:List α→Option ρ):Option ρ:=if 0≤n∧n≤1073741824 then k (List.replicate n.toNat e) else none
def bytesI (l:List Int):List UInt8:=l.map fun n=>UInt8.ofNat n.toNat
def bytesN (l:List UInt8):List Int:=l.map fun c=>(c.toNat:Int)
def catS (l m:List UInt8) (k:List UInt8→Option ρ):Option ρ:=if l.length+m.length≤1099511627776 then k (l++m) else none
end
abbrev V:=den
abbrev R:=dens
abbrev X:=Nat
abbrev Res (ρ:Type):=Option ρ
structure Cl where
 t:ST
 f:Fg
 x:V t
def consR:(t:ST)→(r:List ST)→V t→R r→R (t :: r)
 |_,[],a,_=>a
 |_,_ :: _,a,b=>(a,b)
def headR:(t:ST)→(r:List ST)→R (t :: r)→V t
 |_,[],a=>a
 |_,_ :: _,a=>a.1
def tailR:(t:ST)→(r:List ST)→R (t :: r)→R r
 |_,[],_=>()
 |_,_ :: _,a=>a.2
def emptyR:R []:=()
section
variable {ρ:Type}
def fail (_:Nat):Res ρ:=none
def ret (x:ρ):Res ρ:=some x
def ite_ (c:V .bool) (x y:Res ρ):Res ρ:=cond c x y
def castV (t u:ST) (x:V t) (k:V u→Res ρ):Res ρ:=if h:ST.beq t u=true then k (ST.beq_eq t u h ▸ x) else none
def castL (r r':List ST) (x:V (.sl r)) (k:V (.sl r')→Res ρ):Res ρ:=if h:ST.beqs r r'=true then k (ST.beqs_eq r r' h ▸ x) else none
def iLit (k:IntKind) (n:Int):V (.int k):=n
def bLit (x:Bool):V .bool:=x
def sLit (l:List UInt8):V .str:=l
def iadd (k:IntKind) (a b:V (.int k)):V (.int k):=k.wrap (show Int from (show Int from a)+(show Int from b))
def isub (k:IntKind) (a b:V (.int k)):V (.int k):=k.wrap (show Int from (show Int from a)-(show Int from b))
def imul (k:IntKind) (a b:V (.int k)):V (.int k):=k.wrap (show Int from (show Int from a) * (show Int from b))
def iquo (k:IntKind) (a b:V (.int k)):V (.int k):=k.wrap (Int.tdiv a b)
def irem (k:IntKind) (a b:V (.int k)):V (.int k):=Int.tmod a b
def icast (k l:IntKind) (a:V (.int l)):V (.int k):=show Int from a
def iand (k:IntKind) (a b:V (.int k)):V (.int k):=and_ k a b
def ior (k:IntKind) (a b:V (.int k)):V (.int k):=or_ k a b
def ixor (k:IntKind) (a b:V (.int k)):V (.int k):=xor_ k a b
def ishl (k l:IntKind) (a:V (.int k)) (b:V (.int l)):V (.int k):=shl_ k a b
def ishr (k l:IntKind) (a:V (.int k)) (b:V (.int l)):V (.int k):=shr_ k a b
def ineg (k:IntKind) (a:V (.int k)):V (.int k):=k.wrap (- (show Int from a))
def imax (a b:V (.int .i64)):V (.int .i64):=max_ a b
def iconv (k l:IntKind) (a:V (.int k)):V (.int l):=l.wrap (show Int from a)
def ieq (k:IntKind) (a b:V (.int k)):V .bool:=(show Int from a)==(show Int from b)
def ilt (k:IntKind) (a b:V (.int k)):V .bool:=decide ((show Int from a)<(show Int from b))
def ile (k:IntKind) (a b:V (.int k)):V .bool:=decide ((show Int from a)≤(show Int from b))
def bnot (a:V .bool):V .bool:=! (show Bool from a)
def band (a b:V .bool):V .bool:=(show Bool from a)&&(show Bool from b)
def beqv (a b:V .bool):V .bool:=(show Bool from a)==(show Bool from b)
def seqv (a b:V .str):V .bool:=(show List UInt8 from a)==(show List UInt8 from b)
def sltv (a b:V .str):V .bool:=Op.bytesLess a b
def scat (a b:V .str) (k:V .str→Res ρ):Res ρ:=catS a b k
def slen (a:V .str):V (.int .i64):=(List.length (α:=UInt8) a:Int)
def sget (a:V .str) (i:V (.int .i64)) (k:V (.int .u8)→Res ρ):Res ρ:=atS a i k
def ssub (l:V .str) (a b:V (.int .i64)) (k:V .str→Res ρ):Res ρ:=sub_ (α:=UInt8) l a b k
def bstr (a:V (.sl [.int .u8])):V .str:=bytesI a
def sbytes (a:V .str):V (.sl [.int .u8]):=bytesN a
def lnil (r:List ST):V (.sl r):=([]:List (R r))
def lcons (r:List ST) (e:R r) (l:V (.sl r)):V (.sl r):=(e :: (show List (R r) from l):List (R r))
def llen (r:List ST) (a:V (.sl r)):V (.int .i64):=(List.length (α:=R r) a:Int)
def lget (r:List ST) (a:V (.sl r)) (i:V (.int .i64)) (k:X→R r→Res ρ):Res ρ:=at_ (α:=R r) a i k
def lgetN (r:List ST) (a:V (.sl r)) (i:X) (k:R r→Res ρ):Res ρ:=atN (α:=R r) a i k
def lsetN (r:List ST) (a:V (.sl r)) (i:X) (e:R r):V (.sl r):=List.set (α:=R r) a i e
def lapp (r:List ST) (a b:V (.sl r)) (k:V (.sl r)→Res ρ):Res ρ:=app_ (α:=R r) a b k
def lrep (r:List ST) (n:V (.int .i64)) (e:R r) (k:V (.sl r)→Res ρ):Res ρ:=rep_ (α:=R r) n e k
def xeq (i j:X):V .bool:=(show Nat from i)==(show Nat from j)
def hsMk (c:Nat) (r:List ST) (l:V (.sl r)) (i:X):V (.hs c r):=((show List (R r) from l),(show Nat from i))
def hsL (c:Nat) (r:List ST) (v:V (.hs c r)):V (.sl r):=(show List (R r)×Nat from v).1
def hsI (c:Nat) (r:List ST) (v:V (.hs c r)):X:=(show List (R r)×Nat from v).2
def lwin (r:List ST) (a:V (.sl r)) (i j:V (.int .i64)) (k:X→X→Res ρ):Res ρ:=win_ (α:=R r) a i j k
def lgetW (r:List ST) (a:V (.sl r)) (x y:X) (j:V (.int .i64)) (k:X→R r→Res ρ):Res ρ:=atW (α:=R r) a x y j k
def wlen (x y:X):V (.int .i64):=(((show Nat from y)-(show Nat from x):Nat):Int)
def wpre (r:List ST) (a:V (.sl r)) (x y:X):V .bool:=(show Nat from x)==0&&((show Nat from y)==List.length (α:=R r) a || decide (0<(show Nat from y)))
def lclr (r:List ST) (l:V (.sl r)) (a b:X) (e:R r):V (.sl r):=clr (α:=R r) l a b e
def xzero (x:X):V .bool:=(show Nat from x)==0
def wne (r:List ST) (a:V (.sl r)) (y:X):V .bool:=(show Nat from y)==0&&!(List.isEmpty (α:=R r) a)
def wok (r:List ST) (b:V .bool) (a:V (.sl r)):V .bool:=!b || !(List.isEmpty (α:=R r) a)
def wtake (r:List ST) (a:V (.sl r)) (y:X):V (.sl r):=List.take (α:=R r) y a
def xint (x:X):V (.int .i64):=((show Nat from x):Int)
def intx (v:V (.int .i64)):X:=Int.toNat v
def lcut (r:List ST) (l:V (.sl r)) (a b:X):V (.sl r):=cutL (α:=R r) l a b
def lsub (r:List ST) (l:V (.sl r)) (a b:V (.int .i64)) (k:V (.sl r)→Res ρ):Res ρ:=sub_ (α:=R r) l a b k
end
def Lb.inS (l:Lb):List ST:=l.inT.map (·.1)
def Lb.outS (l:Lb):List ST:=l.outT.map (·.1)
abbrev Rec:=(l:Lb)→R l.inS→Res (R l.outS)
def tail_ (rec:Rec) (l:Lb) (x:R l.inS) (r:List ST):Res (R r):=if h:ST.beqs l.outS r=true then ST.beqs_eq l.outS r h ▸ rec l x else none
def call_ {ρ:Type} (rec:Rec) (l:Lb) (x:R l.inS) (k:R l.outS→Res ρ):Res ρ:=(rec l x).bind k
end TM
namespace TM
open Go
structure Pth where
 c0:Nat
 r:List (X×Nat)
def Pth.add (o:Nat) (p:Pth):Pth:=match p.r with
 |[]=>⟨p.c0+o,[]⟩
 |r=>⟨p.c0,go r⟩
 where go:List (X×Nat)→List (X×Nat)
  |[]=>[]
  |[(i,c)]=>[(i,c+o)]
  |x :: y :: r=>x :: go (y :: r)
 inductive TV where
  |c (x:Cl)
  |ref (n:Nm) (p:Pth) (sub:Option (X×X))
  |addr (n:Nm) (p:Pth)
  |raddr (cs:List Cl)
  |agg (xs:List TV)
  |tup (xs:List TV)
  |fn (g:Nat) (caps:List TV)
  |va (xs:List TV)
  |dead
 structure VB where
  real:Bool
  cells:List Cl
 inductive Ft where
  |rS (t:Nat) (v:TV)
  |rX (t i:Nat) (v:TV)
  |rB (n:Nm)
  |wS (t:Nat) (v:TV)
  |wB (n:Nm)
  |kl (n:Nm)
  |kp (n:Nm) (p:Pth)
  |rH (n:Nm)
  |wD (n:Nm)
  |gn (d:Nat)
  |km (n:Nm)
 structure VS where
  s:List (Nat×TV)
  b:List (Nm×VB)
  lg:List Ft
 def lookS:List (Nat×TV)→Nat→TV
  |[],_=>.dead
  |(u,v) :: l,t=>match Nat.beq u t with
   |true=>v
   |false=>lookS l t
 def nmEq (n m:Nm):Bool:=Nat.beq n.1 m.1&&Nat.beq n.2 m.2
 def lookB:List (Nm×VB)→Nm→Option VB
  |[],_=>none
  |(m,v) :: l,n=>match nmEq m n with
   |true=>some v
   |false=>lookB l n
 section
 variable {ρ:Type}
 abbrev Co (ρ:Type):=VS→Res ρ
 def no {ρ:Type} (code:Nat):Co ρ:=fun _=>fail code
 def rdS (t:Nat) (k:TV→Co ρ):Co ρ:=fun st=>match lookS st.s t with
  |v=>k v ⟨st.s,st.b,.rS t v :: st.lg⟩
 def rdX (t i:Nat) (k:TV→Co ρ):Co ρ:=fun st=>match lookS st.s t with
  |.tup xs=>match xs.drop i with
   |y :: _=>k y ⟨st.s,st.b,.rX t i y :: st.lg⟩
   |[]=>fail 66
  |_=>fail 67
 def rdB (n:Nm) (k:VB→Co ρ):Co ρ:=fun st=>match lookB st.b n with
  |some x=>k x ⟨st.s,st.b,.rB n :: st.lg⟩
  |none=>fail 1
 def wrS (N t:Nat) (v:TV) (k:Co ρ):Co ρ:=fun st=>match Nat.blt t N with
  |true=>k ⟨(t,v) :: st.s,st.b,.wS t v :: st.lg⟩
  |false=>fail 2
 def wrD (n:Nm) (x:VB) (k:Co ρ):Co ρ:=fun st=>k ⟨st.s,(n,x) :: st.b,.wD n :: st.lg⟩
 def wrB (n:Nm) (x:VB) (k:Co ρ):Co ρ:=fun st=>k ⟨st.s,(n,x) :: st.b,.wB n :: st.lg⟩
 mutual
 def calmT (fr fa:Nm→Pth→Bool):TV→Bool
  |.ref m p _=>fr m p
  |.addr m p=>fa m p
  |.agg xs=>calmTs fr fa xs
  |.tup xs=>calmTs fr fa xs
  |.fn _ xs=>calmTs fr fa xs
  |.va xs=>calmTs fr fa xs
  |.dead=>false
  |_=>true
 def calmTs (fr fa:Nm→Pth→Bool):List TV→Bool
  |[]=>true
  |x :: xs=>calmT fr fa x&&calmTs fr fa xs
 end
 def leads (p q:Pth):Bool:=match p.r,q.r with
  |[],[]=>Nat.beq p.c0 q.c0
  |[],_ :: _=>Nat.beq p.c0 q.c0
  |_ :: _,_=>Nat.beq p.c0 q.c0&&Nat.ble p.r.length q.r.length
 mutual
 def killT (n:Nm) (p:Pth):TV→TV
  |.ref m q sub=>match nmEq m n&&leads p q with
   |true=>.dead
   |false=>.ref m q sub
  |.addr m q=>match nmEq m n&&(leads p q&&Nat.blt p.r.length q.r.length) with
   |true=>.dead
   |false=>.addr m q
  |.agg xs=>.agg (killTs n p xs)
  |.tup xs=>.tup (killTs n p xs)
  |.fn g xs=>.fn g (killTs n p xs)
  |.va xs=>.va (killTs n p xs)
  |x=>x
 def killTs (n:Nm) (p:Pth):List TV→List TV
  |[]=>[]
  |x :: xs=>killT n p x :: killTs n p xs
 end
 def killS (f:TV→TV):List (Nat×TV)→List (Nat×TV)
  |[]=>[]
  |(t,v) :: l=>(t,f v) :: killS f l
 def kill (n:Nm) (p:Pth) (k:Co ρ):Co ρ:=fun st=>k ⟨killS (killT n p) st.s,st.b,.kp n p :: st.lg⟩
 mutual
 def killA (n:Nm):TV→TV
  |.ref m q sub=>match nmEq m n with
   |true=>.dead
   |false=>.ref m q sub
  |.addr m q=>match nmEq m n with
   |true=>.dead
   |false=>.addr m q
  |.agg xs=>.agg (killAs n xs)
  |.tup xs=>.tup (killAs n xs)
  |.fn g xs=>.fn g (killAs n xs)
  |.va xs=>.va (killAs n xs)
  |x=>x
 def killAs (n:Nm):List TV→List TV
  |[]=>[]
  |x :: xs=>killA n x :: killAs n xs
 end
 def killBox (n:Nm) (k:Co ρ):Co ρ:=fun st=>k ⟨killS (killA n) st.s,st.b,.kl n :: st.lg⟩
 def iteC (c:V .bool) (x y:Co ρ):Co ρ:=fun st=>ite_ c (x st) (y st)
 def conv (t:ST) (f:Fg) (c:Cl) (k:V t→Res ρ):Res ρ:=match Fg.beq c.f f with
  |true=>castV c.t t c.x k
  |false=>match c.t,c.f,t,f with
   |.sl _,.nil,.sl r,.sl .own _=>k (lnil r)
   |_,_,_,_=>fail 3
 def cts (r:List (ST×Fg)):List ST:=r.map (·.1)
 def toRow:(r:List (ST×Fg))→List Cl→(R (cts r)→Res ρ)→Res ρ
  |[],[],k=>k emptyR
  |(t,f) :: r,c :: cs,k=>conv t f c fun a=>toRow r cs fun b=>k (consR t (cts r) a b)
  |_,_,_=>fail 4
 def ofRow:(r:List (ST×Fg))→R (cts r)→List Cl
  |[],_=>[]
  |(t,f) :: r,x=>⟨t,f,headR t (cts r) x⟩ :: ofRow r (tailR t (cts r) x)
 def fgs (r:List (ST×Fg)):List Fg:=r.map (·.2)
 def zipF:List ST→List Fg→List (ST×Fg)
  |t :: ts,f :: fs=>(t,f) :: zipF ts fs
  |_,_=>[]
 def cellsOf:(r:List ST)→List Fg→R r→List Cl
  |[],_,_=>[]
  |t :: ts,f :: fs,x=>⟨t,f,headR t ts x⟩ :: cellsOf ts fs (tailR t ts x)
  |_ :: _,[],_=>[]
 def mkRow:(r:List ST)→List Fg→List Cl→(R r→Res ρ)→Res ρ
  |[],[],[],k=>k emptyR
  |t :: r,f :: fs,c :: cs,k=>conv t f c fun a=>mkRow r fs cs fun b=>k (consR t r a b)
  |_,_,_,_=>fail 5
 def getAt:List Cl→Nat→List (X×Nat)→(List Cl→Res ρ)→Res ρ
  |cs,c,[],k=>k (cs.drop c)
  |cs,c,(i,c') :: r,k=>match cs.drop c with
   |⟨.sl row,.sl .own fs,l⟩ :: _=>lgetN row l i fun e=>getAt (cellsOf row fs e) c' r k
   |⟨.hs c1 row,.sl .own fs,v⟩ :: _=>ite_ (xeq i (hsI c1 row v)) (lgetN row (hsL c1 row v) i fun e=>getAt ((cellsOf row fs e).set c1 ⟨.hole,.z,emptyR⟩) c' r k) (fail 17)
   |_=>fail 6
 def putAt:List Cl→Nat→List (X×Nat)→Cl→(List Cl→Res ρ)→Res ρ
  |cs,c,[],x,k=>match Nat.blt c cs.length with
   |true=>k (cs.set c x)
   |false=>fail 7
  |cs,c,(i,c') :: r,x,k=>match cs.drop c with
   |⟨.sl row,.sl .own fs,l⟩ :: _=>lgetN row l i fun e=>putAt (cellsOf row fs e) c' r x fun cs'=>mkRow row fs cs' fun e'=>k (cs.set c ⟨.sl row,.sl .own fs,lsetN row l i e'⟩)
   |⟨.hs c1 row,.sl .own fs,v⟩ :: _=>ite_ (xeq i (hsI c1 row v)) (lgetN row (hsL c1 row v) i fun e=>putAt ((cellsOf row fs e).set c1 ⟨.hole,.z,emptyR⟩) c' r x fun cs'=>mkRow row fs cs' fun e'=>k (cs.set c ⟨.sl row,.sl .own fs,lsetN row (hsL c1 row v) i e'⟩)) (fail 17)
   |_=>fail 8
 def rowC (n:Nm) (p:Pth) (k:List Cl→Co ρ):Co ρ:=rdB n fun bx st=>getAt bx.cells p.c0 p.r fun row=>k row st
 def ofConst1:Value→TV
  |.int k n=>.c ⟨.int k,.z,iLit k n⟩
  |.bool x=>.c ⟨.bool,.z,bLit x⟩
  |.string l=>.c ⟨.str,.z,sLit l.data.toList⟩
  |.slice none 0 0=>.c ⟨.sl [],.nil,lnil []⟩
  |_=>.dead
 def ofConstT:Value→TV
  |.agg cs=>match cs.toList.all (·.oneCell') with
   |true=>.agg (cs.toList.map ofConst1)
   |false=>.dead
  |x=>ofConst1 x
 def evT (x:Operand) (k:TV→Co ρ):Co ρ:=match x with
  |.tmp t=>rdS t k
  |.const v=>k (ofConstT v)
  |.func f=>k (.fn f [])
  |.global _=>no 9
 def evTs:List Operand→(List TV→Co ρ)→Co ρ
  |[],k=>k []
  |x :: xs,k=>evT x fun v=>evTs xs fun vs=>k (v :: vs)
 def evPartsT:List (Nat×Operand)→(List (Nat×TV)→Co ρ)→Co ρ
  |[],k=>k []
  |(i,x) :: xs,k=>evT x fun v=>evPartsT xs fun vs=>k ((i,v) :: vs)
 def outT (N:Nat) (d:Option Nat) (v:TV) (k:Co ρ):Co ρ:=match d with
  |some t=>wrS N t v k
  |none=>k
 def ownF:Fg→Bool
  |.nil=>true
  |.sl .own _=>true
  |_=>false
 def Cl.own (c:Cl):Bool:=match c.t with
  |.sl _=>match c.f with
   |.sl .nw _=>false
   |.sl .fz _=>false
   |_=>true
  |_=>false
 def Cl.ownH (c:Cl):Bool:=match c.t with
  |.hs _ _=>match c.f with
   |.sl .own _=>true
   |_=>false
  |_=>c.own
 def solid:ST→Fg→Bool
  |.hole,_=>false
  |.hs _ _,_=>false
  |.pt _,.pt _ _=>true
  |.pt _,_=>false
  |.fn _ _,.fn _=>true
  |.fn _ _,_=>false
  |_,_=>true
 def closeT (v:TV) (k:Cl→Co ρ):Co ρ:=match v with
  |.c x=>match solid x.t x.f with
   |false=>no 10
   |true=>k x
  |.ref n ⟨c,[]⟩ sub=>rdB n fun bx=>match bx.cells.drop c with
   |⟨.sl row,f,l⟩ :: _=>match ownF f with
    |true=>match sub with
     |none=>wrB n ⟨bx.real,bx.cells.set c ⟨.hole,.z,emptyR⟩⟩ (kill n ⟨c,[]⟩ (k ⟨.sl row,f,l⟩))
     |some (x,y)=>match f,l with
      |.sl .own fs,l=>fun st=>ite_ (wpre row l x y) (wrB n ⟨bx.real,bx.cells.set c ⟨.hole,.z,emptyR⟩⟩ (kill n ⟨c,[]⟩ (k ⟨.sl row,.sl .own fs,wtake row l y⟩)) st) (fail 17)
      |_,_=>no 11
    |false=>no 12
   |_=>no 13
  |.ref n ⟨c,[(i,c1)]⟩ none=>rdB n fun bx=>match bx.cells.drop c with
   |⟨.sl row,.sl .own fs,l⟩ :: _=>fun st=>lgetN row l i fun e=>(match (cellsOf row fs e).drop c1 with
    |⟨.sl r1,f1,l1⟩ :: _=>match ownF f1 with
     |true=>wrD n ⟨bx.real,bx.cells.set c ⟨.hs c1 row,.sl .own fs,hsMk c1 row l i⟩⟩ (kill n ⟨c,[(i,c1)]⟩ (k ⟨.sl r1,f1,l1⟩))
     |false=>no 12
    |_=>no 13) st
   |_=>no 13
  |.fn g []=>k ⟨.fn g [],.fn [],emptyR⟩
  |_=>no 14
 def closesT:List TV→(List Cl→Co ρ)→Co ρ
  |[],k=>k []
  |x :: xs,k=>closeT x fun c=>closesT xs fun cs=>k (c :: cs)
 def closeCT:TV→(List Cl→Co ρ)→Co ρ
  |.agg xs,k=>closesT xs k
  |x,k=>closeT x fun c=>k [c]
 def closePartsT:List (Nat×TV)→(List (Nat×List Cl)→Co ρ)→Co ρ
  |[],k=>k []
  |(i,x) :: xs,k=>closeCT x fun c=>closePartsT xs fun cs=>k ((i,c) :: cs)
 def seenT (n:Nm) (p:Pth) (x:Cl):TV:=match x.own with
  |true=>.ref n p none
  |false=>match x.t,x.f,x.x with
   |.pt _,.pt .own _,_=>.dead
   |.pt r,.pt _ fs,y=>.raddr (cellsOf r fs y)
   |.pt _,_,_=>.dead
   |.fn g [],.fn _,y=>.c ⟨.fn g [],.fn [],y⟩
   |.fn _ _,_,_=>.dead
   |.hole,_,_=>.dead
   |.hs _ _,_,_=>.dead
   |_,_,_=>.c x
 def seensT (n:Nm) (p:Pth):Nat→List Cl→List TV
  |_,[]=>[]
  |j,x :: xs=>seenT n (p.add j) x :: seensT n p (j+1) xs
 def storesT (n:Nm) (p:Pth):Nat→List Cl→Co ρ→Co ρ
  |_,[],k=>k
  |j,x :: xs,k=>rdB n fun bx st=>getAt bx.cells (p.add j).c0 (p.add j).r fun row=>match row with
   |[]=>fail 15
   |old :: _=>putAt bx.cells (p.add j).c0 (p.add j).r x fun cs=>
    (match old.ownH with
    |true=>kill n (p.add j) (wrB n ⟨bx.real,cs⟩ (storesT n p (j+1) xs k))
    |false=>wrB n ⟨bx.real,cs⟩ (storesT n p (j+1) xs k)) st
 def freshT (d:Nat) (x:VB) (k:Co ρ):Co ρ:=killBox (d,0) (wrB (d,0) x k)
 def zeroC (t:ST):Option Cl:=match t with
  |.int k=>some ⟨.int k,.z,iLit k 0⟩
  |.bool=>some ⟨.bool,.z,bLit false⟩
  |.str=>some ⟨.str,.z,sLit []⟩
  |.sl r=>some ⟨.sl r,.nil,lnil r⟩
  |_=>none
 def zeroCs:List ST→Option (List Cl)
  |[]=>some []
  |t :: ts=>match zeroC t,zeroCs ts with
   |some c,some cs=>some (c :: cs)
   |_,_=>none
 def zeroOk:ST→T→Bool
  |.int k,.v (.int l n)=>decide (k=l)&&decide (n=0)
  |.bool,.v (.bool false)=>true
  |.str,.v (.string s)=>s.data.toList.isEmpty
  |.sl _,.sl .own []=>true
  |_,_=>false
 def zeroOks:List ST→List T→Bool
  |[],[]=>true
  |t :: ts,x :: xs=>zeroOk t x&&zeroOks ts xs
  |_,_=>false
 def tyDepth:Nat:=24
 def zerosT (P:Program) (t:TypeId):Option (List Cl):=match zeroT P t,stOf P tyDepth t with
  |some z,some r=>match zeroOks (cts r) z with
   |true=>zeroCs (cts r)
   |false=>none
  |_,_=>none
 def rowT (P:Program) (t:TypeId):Option (List (ST×Fg)):=match rowInfo P t,P.underlying t with
  |some z,some (.slice e)=>match stOf P tyDepth e with
   |some r=>match zeroOks (cts r) z with
    |true=>some r
    |false=>none
   |none=>none
  |_,_=>none
 def cellsTV:TV→List TV
  |.agg xs=>xs
  |x=>[x]
 def deadT:TV→Bool
  |.dead=>true
  |_=>false
 def fillLT (fs:List (Nat×Nat)):List TV→List (Nat×TV)→Option (List TV)
  |cs,[]=>some cs
  |cs,(i,x) :: rest=>match fs[i]? with
   |some (o,sz)=>match Nat.beq (cellsTV x).length sz&&(Nat.ble (o+sz) cs.length&&!deadT x) with
    |true=>fillLT fs (cs.take o++cellsTV x++cs.drop (o+sz)) rest
    |false=>none
   |none=>none
 def fillET (r:List ST) (fs:List Fg):Nat→List (Nat×List Cl)→(V (.sl r)→Res ρ)→Res ρ
  |_,[],k=>k (lnil r)
  |s,(i,c) :: rest,k=>match Nat.beq i s with
   |true=>mkRow r fs c fun e=>fillET r fs (s+1) rest fun l=>k (lcons r e l)
   |false=>fail 16
 def ownN (d:Fg):Fg→Fg
  |.nil=>d
  |f=>f
 def ownNs:List Fg→List Fg→List Fg
  |d :: ds,f :: fs=>ownN d f :: ownNs ds fs
  |_,fs=>fs
 def partF (r:List (ST×Fg)) (cs:List (Nat×List Cl)):List Fg:=match cs with
  |(_,c) :: _=>ownNs (fgs r) (c.map (·.f))
  |[]=>fgs r
 def partN (r:List (ST×Fg)) (cs:List (Nat×List Cl)):Fg:=match cs with
  |[]=>.nil
  |_ :: _=>.sl .own (partF r cs)
 def cmpT (k:IntKind) (op:BinOp) (a b:V (.int k)):Option (V .bool):=match op with
  |.eql=>some (ieq k a b) | .neq=>some (bnot (ieq k a b)) | .lss=>some (ilt k a b) | .leq=>some (ile k a b) | .gtr=>some (ilt k b a) | .geq=>some (ile k b a)
  |_=>none
 def bitT (k:IntKind) (op:BinOp) (a b:V (.int k)):Option (V (.int k)):=match op with
  |.and=>some (iand k a b)
  |.or=>some (ior k a b)
  |.xor=>some (ixor k a b)
  |_=>none
 def intT (N:Nat) (op:BinOp) (d:Option Nat) (l:IntKind) (a b:V (.int l)) (k:Co ρ):Co ρ:=match op with
  |.add=>outT N d (.c ⟨.int l,.z,iadd l a b⟩) k
  |.sub=>outT N d (.c ⟨.int l,.z,isub l a b⟩) k
  |.mul=>outT N d (.c ⟨.int l,.z,imul l a b⟩) k
  |.quo=>iteC (ieq l b (iLit l 0)) (no 17) (outT N d (.c ⟨.int l,.z,iquo l a b⟩) k)
  |.rem=>iteC (ieq l b (iLit l 0)) (no 17) (outT N d (.c ⟨.int l,.z,irem l a b⟩) k)
  |op=>match bitT l op a b,cmpT l op a b with
   |some r,_=>outT N d (.c ⟨.int l,.z,r⟩) k
   |none,some r=>outT N d (.c ⟨.bool,.z,r⟩) k
   |none,none=>no 18
 def flat1T (d:Option TypeDesc) (x y:TV):Option (V .bool):=match d,x,y with
  |some .bool,.c ⟨.bool,_,a⟩,.c ⟨.bool,_,b⟩=>some (beqv a b)
  |some (.int _),.c ⟨.int k,_,a⟩,.c ⟨.int l,_,b⟩=>match decide (k=l) with
   |true=>some (ieq k a (icast k l b))
   |false=>none
  |some .string,.c ⟨.str,_,a⟩,.c ⟨.str,_,b⟩=>some (seqv a b)
  |_,_,_=>none
 def nthT:List TV→Nat→Option TV
  |[],_=>none
  |x :: _,0=>some x
  |_ :: xs,n+1=>nthT xs n
 def eqFT (P:Program):List Field→List TV→List TV→Option (V .bool)
  |[],_,_=>some (bLit true)
  |f :: fs,xs,ys=>match f.name== "_",nthT xs f.offset,nthT ys f.offset with
   |false,some x,some y=>match fs,flat1T (P.underlying f.type) x y,eqFT P fs xs ys with
    |[],some r,some _=>some r
    |_ :: _,some r,some s=>some (band r s)
    |_,_,_=>none
   |_,_,_=>none
 def eqST (P:Program) (t:TypeId) (xs ys:List TV):Option (V .bool):=match P.underlying t with
  |some (.struct fs)=>match P.stoodInHeld t || P.eqGuardType P.depth t with
   |false=>eqFT P fs.toList xs ys
   |true=>none
  |_=>none
 def binT (N:Nat) (P:Program) (t:TypeId) (op:BinOp) (d:Option Nat) (x y:TV) (k:Co ρ):Co ρ:=match x,y with
  |.c ⟨.int l,_,a⟩,.c ⟨.int m,_,b⟩=>match op with
   |.shl=>iteC (ilt m b (iLit m 0)) (no 17) (outT N d (.c ⟨.int l,.z,ishl l m a b⟩) k)
   |.shr=>iteC (ilt m b (iLit m 0)) (no 17) (outT N d (.c ⟨.int l,.z,ishr l m a b⟩) k)
   |op=>match decide (l=m) with
    |true=>intT N op d l a (icast l m b) k
    |false=>no 18
  |.c ⟨.str,_,a⟩,.c ⟨.str,_,b⟩=>match op with
   |.eql=>outT N d (.c ⟨.bool,.z,seqv a b⟩) k
   |.neq=>outT N d (.c ⟨.bool,.z,bnot (seqv a b)⟩) k
   |.lss=>outT N d (.c ⟨.bool,.z,sltv a b⟩) k
   |.geq=>outT N d (.c ⟨.bool,.z,bnot (sltv a b)⟩) k
   |.add=>fun st=>scat a b fun r=>outT N d (.c ⟨.str,.z,r⟩) k st
   |_=>no 19
  |.c ⟨.bool,_,a⟩,.c ⟨.bool,_,b⟩=>match P.underlying t with
   |some .bool=>match op with
    |.eql=>outT N d (.c ⟨.bool,.z,beqv a b⟩) k
    |.neq=>outT N d (.c ⟨.bool,.z,bnot (beqv a b)⟩) k
    |_=>no 20
   |_=>no 20
  |.agg xs,.agg ys=>match eqST P t xs ys,op with
   |some r,.eql=>outT N d (.c ⟨.bool,.z,r⟩) k
   |some r,.neq=>outT N d (.c ⟨.bool,.z,bnot r⟩) k
   |_,_=>no 21
  |_,_=>no 21
 def sameOp:Operand→Operand→Bool
  |.tmp t,.tmp u=>Nat.beq t u
  |_,_=>false
 def ownBytes (r:List ST) (f:Fg) (l:V (.sl r)):Option (Fg×V (.sl [.int .u8])):=match r,f,l with
  |_,.nil,_=>some (.z,lnil [.int .u8])
  |[.int .u8],.sl .own [f],l=>some (f,l)
  |_,_,_=>none
 def appendS (N:Nat) (P:Program) (t1:TypeId) (r:List (ST×Fg)) (d:Nat) (x y:Operand) (k:Co ρ):Co ρ:=match P.underlying t1,r with
  |some .string,[_]=>evT x fun v=>evT y fun u=>closeT v fun a=>match u with
   |.c ⟨.str,_,s⟩=>match a with
    |⟨.sl ra,fa,la⟩=>match ownBytes ra fa la with
     |some (f,xs)=>fun st=>lapp [.int .u8] xs (sbytes s) fun l=>freshT d ⟨false,[⟨.sl [.int .u8],.sl .own [f],l⟩]⟩ (wrS N d (.ref (d,0) ⟨0,[]⟩ none) k) st
     |none=>no 220
    |_=>no 220
   |_=>no 221
  |_,_=>no 222
 def flatST:ST→Bool
  |.int _=>true
  |.bool=>true
  |.str=>true
  |_=>false
 def flatP (P:Program) (t:TypeId):Bool:=match rowInfo P t with
  |some z=>flatE z
  |none=>false
 def peekT (n:Nm) (p:Pth) (sub:Option (X×X)) (k:Cl→Co ρ):Co ρ:=rowC n p fun row=>match row with
  |⟨.sl row,f,l⟩ :: _=>match ownF f&&row.all flatST with
   |true=>match sub with
    |none=>k ⟨.sl row,f,l⟩
    |some (x,y)=>match f,l with
     |.sl .own fs,l=>k ⟨.sl row,.sl .own fs,lcut row l x y⟩
     |_,_=>no 11
   |false=>no 28
  |_=>no 28
 def headW (rl:Nat) (n:Nm) (c:Nat) (x y:X) (k:Option (V .bool)→Cl→Co ρ):Co ρ:=rdB n fun bx=>match bx.cells.drop c with
  |⟨.sl row,.sl .own fs,l⟩ :: _=>match Nat.beq row.length rl&&Nat.beq fs.length rl with
   |true=>fun st=>ite_ (xzero x) (wrB n ⟨bx.real,bx.cells.set c ⟨.hole,.z,emptyR⟩⟩ (kill n ⟨c,[]⟩ (k (some (wne row l y)) ⟨.sl row,.sl .own fs,wtake row l y⟩)) st) (fail 17)
   |false=>no 24
  |_=>no 11
 def headT (rl:Nat) (v:TV) (k:Option (V .bool)→Cl→Co ρ):Co ρ:=match v with
  |.ref n p sub=>rdB n fun _=>match p,sub with
   |⟨c,[]⟩,some (x,y)=>headW rl n c x y k
   |_,_=>closeT (.ref n p sub) (k none)
  |v=>closeT v (k none)
 def endApp (N:Nat) (rl:Nat) (d:Nat) (k:Co ρ) (nb:Option (V .bool)) (a b:Cl):Co ρ:=match a,b with
  |⟨.sl ra,fa,xs⟩,⟨.sl rb,fb,ys⟩=>match nb with
   |none=>match fa,fb with
    |.nil,.nil=>freshT d ⟨false,[⟨.sl ra,.nil,xs⟩]⟩ (wrS N d (.ref (d,0) ⟨0,[]⟩ none) k)
    |.nil,.sl _ fs=>match Nat.beq rb.length rl&&Nat.beq fs.length rl with
     |true=>fun st=>lapp rb (lnil rb) ys fun l=>freshT d ⟨false,[⟨.sl rb,.sl .own fs,l⟩]⟩ (wrS N d (.ref (d,0) ⟨0,[]⟩ none) k) st
     |false=>no 24
    |.sl .own fs,.nil=>match Nat.beq ra.length rl&&Nat.beq fs.length rl with
     |true=>fun st=>lapp ra xs (lnil ra) fun l=>freshT d ⟨false,[⟨.sl ra,.sl .own fs,l⟩]⟩ (wrS N d (.ref (d,0) ⟨0,[]⟩ none) k) st
     |false=>no 24
    |.sl .own fs,.sl _ fs'=>match Fg.beqs fs fs'&&(Nat.beq ra.length rl&&Nat.beq fs.length rl) with
     |true=>fun st=>castL rb ra ys fun zs=>lapp ra xs zs fun l=>freshT d ⟨false,[⟨.sl ra,.sl .own fs,l⟩]⟩ (wrS N d (.ref (d,0) ⟨0,[]⟩ none) k) st
     |false=>no 22
    |_,_=>no 23
   |some w=>match fa,fb with
    |.sl .own fs,.sl _ fs'=>match Fg.beqs fs fs'&&(Nat.beq ra.length rl&&Nat.beq fs.length rl) with
     |true=>fun st=>castL rb ra ys fun zs=>ite_ (wok ra w zs) (lapp ra xs zs fun l=>freshT d ⟨false,[⟨.sl ra,.sl .own fs,l⟩]⟩ (wrS N d (.ref (d,0) ⟨0,[]⟩ none) k) st) (fail 17)
     |false=>no 22
    |_,_=>no 23
  |_,_=>no 25
 def twoT (N:Nat) (fl:Bool) (rl:Nat) (d:Nat) (k:Co ρ) (v u:TV):Co ρ:=match fl,u with
  |true,.ref m q sub=>peekT m q sub fun b=>headT rl v fun nb a=>endApp N rl d k nb a b
  |_,u=>headT rl v fun nb a=>closeT u fun b=>endApp N rl d k nb a b
 def appendT (N:Nat) (P:Program) (c:Call) (dst:Option Nat) (x y:Operand) (k:Co ρ):Co ρ:=match dst,c.argTypes.toList with
  |some d,[t0,t1]=>match P.underlying t0,rowT P t0,Nat.beq t1 t0 with
   |some (.slice _),some r,true=>evT x fun v=>evT y fun u=>twoT N (flatP P t0) r.length d k v u
   |some (.slice _),some r,false=>appendS N P t1 r d x y k
   |_,_,_=>no 26
  |_,_=>no 27
 def clearW (z:List T) (n:Nm) (c0:Nat) (x y:X) (k:Co ρ):Co ρ:=rdB n fun bx st=>match bx.cells.drop c0 with
  |⟨.sl [t1],.sl .own [f1],l⟩ :: _=>match flatST t1&&zeroOks [t1] z,zeroCs [t1] with
   |true,some zs=>mkRow [t1] [f1] zs fun e=>wrB n ⟨bx.real,bx.cells.set c0 ⟨.sl [t1],.sl .own [f1],lclr [t1] l x y e⟩⟩ k st
   |_,_=>fail 84
  |_=>fail 84
 def clearT (P:Program) (c:Call) (dst:Option Nat) (x:Operand) (k:Co ρ):Co ρ:=match x,dst,c.argTypes.toList with
  |.tmp t0,none,[t]=>match rowInfo P t with
   |some z=>rdS t0 fun v=>match v with
    |.ref n ⟨c0,[]⟩ (some (x,y))=>clearW z n c0 x y k
    |_=>no 84
   |none=>no 84
  |_,_,_=>no 84
 def lenC (r:List ST) (f:Fg) (l:V (.sl r)):V (.int .i64):=match f with
  |.sl _ _=>llen r l
  |_=>iLit .i64 0
 def bytesC (r:List ST) (f:Fg) (l:V (.sl r)) (k:V .str→Co ρ):Co ρ:=match r,f,l with
  |_,.nil,_=>k (sLit [])
  |[.int .u8],.sl _ [_],l=>k (bstr l)
  |_,_,_=>no 219
 def hiT (hi:Option Operand) (n:V (.int .i64)) (k:TV→Co ρ):Co ρ:=match hi with
  |some h=>evT h k
  |none=>k (.c ⟨.int .i64,.z,n⟩)
 def loadR (N:Nat) (P:Program) (t:TypeId) (d:Option Nat) (n:Nm) (p:Pth) (k:Co ρ):Co ρ:=rowC n p fun row=>match isAgg P t with
  |some true=>match Nat.ble (P.cellsOf t) row.length with
   |true=>outT N d (.agg (seensT n p 0 (row.take (P.cellsOf t)))) k
   |false=>no 40
  |some false=>match row with
   |y :: _=>outT N d (seenT n (p.add 0) y) k
   |[]=>no 41
  |none=>no 42
 def hdr1 (n:Nm) (c:Nat) (y z:Co ρ):Co ρ:=fun st=>match lookB st.b n with
  |some bx=>match bx.cells.drop c with
   |x :: _=>match x.ownH with
    |true=>y ⟨st.s,st.b,.rH n :: st.lg⟩
    |false=>z ⟨st.s,st.b,.rH n :: st.lg⟩
   |[]=>fail 41
  |none=>fail 1
 def loadT (N:Nat) (P:Program) (t:TypeId) (d:Option Nat) (n:Nm) (p:Pth) (k:Co ρ):Co ρ:=match p,isAgg P t with
  |⟨c,[]⟩,some false=>hdr1 n c (outT N d (.ref n ⟨c,[]⟩ none) k) (loadR N P t d n ⟨c,[]⟩ k)
  |p,_=>loadR N P t d n p k
 def opT (N:Nat) (P:Program) (o:Oper) (k:Co ρ):Co ρ:=match o.op with
  |.move x=>evT x fun v=>outT N o.dst v k
  |.assign x=>evT x fun v=>outT N o.dst v k
  |.pick c a b=>evT c fun vc=>evT a fun va=>evT b fun vb=>match vc with
   |.c ⟨.bool,_,r⟩=>iteC r (outT N o.dst va k) (outT N o.dst vb k)
   |_=>no 30
  |.alloc t=>match o.dst,zerosT P t with
   |some d,some cs=>freshT d ⟨true,cs⟩ (wrS N d (.addr (d,0) ⟨0,[]⟩) k)
   |_,_=>no 31
  |.box _ x=>match o.dst with
   |some d=>evT x fun v=>closeCT v fun cs=>freshT d ⟨true,cs⟩ (wrS N d (.addr (d,0) ⟨0,[]⟩) k)
   |none=>no 32
  |.build t parts=>match buildInfo P t,zerosT P t with
   |some (_,fs),some cs=>evPartsT parts.toList fun vs=>match fillLT fs (cs.map .c) vs with
    |some xs=>outT N o.dst (.agg xs) k
    |none=>no 33
   |_,_=>no 34
  |.buildSlice t len parts=>match o.dst,rowT P t with
   |some d,some r=>match Nat.ble (len * r.length) 16777216 with
    |true=>evPartsT parts.toList fun vs=>closePartsT vs fun cs=>match Nat.beq cs.length len with
     |true=>fun st=>fillET (cts r) (partF r cs) 0 cs fun l=>freshT d ⟨false,[⟨.sl (cts r),partN r cs,l⟩]⟩ (wrS N d (.ref (d,0) ⟨0,[]⟩ none) k) st
     |false=>no 35
    |false=>no 35
   |_,_=>no 36
  |.makeSlice t l c=>match o.dst,rowT P t with
   |some d,some r=>match zeroCs (cts r) with
    |some zs=>evT l fun v=>evT c fun u=>match v,u with
     |.c ⟨.int .i64,_,n⟩,.c ⟨.int .i64,_,m⟩=>iteC (match sameOp l c with
       |true=>bLit true
       |false=>ieq .i64 m n) (fun st=>mkRow (cts r) (fgs r) zs fun e=>lrep (cts r) n e fun x=>freshT d ⟨false,[⟨.sl (cts r),.sl .own (fgs r),x⟩]⟩ (wrS N d (.ref (d,0) ⟨0,[]⟩ none) k) st) (no 37)
     |_,_=>no 38
    |none=>no 39
   |_,_=>no 39
  |.load t x=>evT x fun v=>match v with
   |.addr n p=>loadT N P t o.dst n p k
   |.raddr cs=>match isAgg P t with
    |some true=>match Nat.ble (P.cellsOf t) cs.length with
     |true=>outT N o.dst (.agg ((cs.take (P.cellsOf t)).map .c)) k
     |false=>no 43
    |some false=>match cs with
     |y :: _=>outT N o.dst (.c y) k
     |[]=>no 44
    |none=>no 45
   |.va xs=>match isAgg P t with
    |some true=>match Nat.ble (P.cellsOf t) xs.length with
     |true=>outT N o.dst (.agg (xs.take (P.cellsOf t))) k
     |false=>no 43
    |some false=>match xs with
     |y :: _=>outT N o.dst y k
     |[]=>no 44
    |none=>no 45
   |_=>no 46
  |.store t x y=>evT x fun v=>match v with
   |.addr n p=>evT y fun u=>closeCT u fun cs=>match Nat.beq (P.cellsOf t) cs.length&&Nat.blt 0 cs.length with
    |true=>storesT n p 0 cs (outT N o.dst .dead k)
    |false=>no 47
   |_=>no 48
  |.nilCheck x=>evT x fun v=>match v with
   |.addr n p=>outT N o.dst (.addr n p) k
   |.raddr cs=>outT N o.dst (.raddr cs) k
   |_=>no 49
  |.binOp op t x y _=>evT x fun v=>evT y fun u=>binT N P t op o.dst v u k
  |.unOp op _ x=>evT x fun v=>match op,v with
   |.not,.c ⟨.bool,_,r⟩=>outT N o.dst (.c ⟨.bool,.z,bnot r⟩) k
   |.neg,.c ⟨.int .i64,_,n⟩=>outT N o.dst (.c ⟨.int .i64,.z,ineg .i64 n⟩) k
   |_,_=>no 50
  |.fieldAddr s x f=>match fieldAt P s f with
   |some fl=>match Nat.blt 0 (P.cellsOf fl.type) with
    |true=>evT x fun v=>match v with
     |.addr n p=>outT N o.dst (.addr n (p.add fl.offset)) k
     |.raddr cs=>outT N o.dst (.raddr (cs.drop fl.offset)) k
     |.va xs=>outT N o.dst (.va (xs.drop fl.offset)) k
     |_=>no 51
    |false=>no 52
   |none=>no 53
  |.field s x f=>match fieldAt P s f with
   |some fl=>evT x fun v=>match v with
    |.agg xs=>match isAgg P fl.type with
     |some true=>match Nat.ble (fl.offset+P.cellsOf fl.type) xs.length with
      |true=>outT N o.dst (.agg ((xs.drop fl.offset).take (P.cellsOf fl.type))) k
      |false=>no 54
     |some false=>match xs.drop fl.offset with
      |y :: _=>outT N o.dst y k
      |[]=>no 55
     |none=>no 56
    |_=>no 57
   |none=>no 58
  |.indexAddr t x i=>match P.underlying t with
   |some (.slice el)=>evT x fun v=>evT i fun w=>match v,w with
    |.c ⟨.sl r,.sl f fs,l⟩,.c ⟨.int .i64,_,j⟩=>match f.low&&(Nat.beq r.length (P.cellsOf el)&&Nat.beq fs.length r.length) with
     |true=>fun st=>lget r l j fun _ e=>outT N o.dst (.raddr (cellsOf r fs e)) k st
     |false=>no 59
    |.ref n p none,.c ⟨.int .i64,_,j⟩=>rowC n p fun row=>match row with
     |⟨.sl r,.sl .own fs,l⟩ :: _=>match Nat.beq r.length (P.cellsOf el)&&Nat.beq fs.length r.length with
      |true=>fun st=>lget r l j fun m _=>outT N o.dst (.addr n ⟨p.c0,p.r++[(m,0)]⟩) k st
      |false=>no 60
     |⟨.hs c1 r,.sl .own fs,v⟩ :: _=>match Nat.beq r.length (P.cellsOf el)&&Nat.beq fs.length r.length with
      |true=>fun st=>lget r (hsL c1 r v) j fun m _=>outT N o.dst (.addr n ⟨p.c0,p.r++[(m,0)]⟩) k st
      |false=>no 60
     |_=>no 61
    |.ref n p (some (x,y)),.c ⟨.int .i64,_,j⟩=>rowC n p fun row=>match row with
     |⟨.sl r,.sl .own fs,l⟩ :: _=>match Nat.beq r.length (P.cellsOf el)&&Nat.beq fs.length r.length with
      |true=>fun st=>lgetW r l x y j fun m _=>outT N o.dst (.addr n ⟨p.c0,p.r++[(m,0)]⟩) k st
      |false=>no 60
     |_=>no 61
    |_,_=>no 62
   |_=>no 63
  |.index t x i=>match P.underlying t with
   |some .string=>evT x fun v=>evT i fun w=>match v,w with
    |.c ⟨.str,_,l⟩,.c ⟨.int kk,_,j⟩=>fun st=>sget l (icast .i64 kk j) fun c=>outT N o.dst (.c ⟨.int .u8,.z,c⟩) k st
    |_,_=>no 64
   |_=>no 65
  |.extract x i=>match x with
   |.tmp t=>rdX t i fun y=>outT N o.dst y k
   |_=>no 67
  |.makeFunc g first caps=>match g,first.isEmpty with
   |.func g,true=>evTs caps.toList fun vs=>outT N o.dst (.fn g vs) k
   |_,_=>no 68
  |.slice t x lo hi none=>evT x fun v=>evT (lo.getD (.const (.int .i64 0))) fun l=>match v with
   |.c ⟨.str,_,a⟩=>match P.underlying t with
    |some .string=>hiT hi (slen a) fun h=>match l,h with
     |.c ⟨.int .i64,_,i⟩,.c ⟨.int .i64,_,j⟩=>fun st=>ssub a i j fun r=>outT N o.dst (.c ⟨.str,.z,r⟩) k st
     |_,_=>no 69
    |_=>no 70
   |.c ⟨.sl r,.sl f fs,a⟩=>match rowT P t with
    |some r'=>hiT hi (llen r a) fun h=>match l,h,f.low&&(Nat.beq r.length r'.length&&Nat.beq fs.length r.length) with
     |.c ⟨.int .i64,_,i⟩,.c ⟨.int .i64,_,j⟩,true=>fun st=>lsub r a i j fun y=>outT N o.dst (.c ⟨.sl r,.sl f fs,y⟩) k st
     |_,_,_=>no 71
    |none=>no 72
   |.ref n p none=>match rowT P t with
    |some r'=>rowC n p fun row=>match row with
     |⟨.sl r,.sl .own fs,a⟩ :: _=>hiT hi (llen r a) fun h=>match l,h,Nat.beq r.length r'.length&&Nat.beq fs.length r.length with
      |.c ⟨.int .i64,_,i⟩,.c ⟨.int .i64,_,j⟩,true=>fun st=>lwin r a i j fun x y=>outT N o.dst (.ref n p (some (x,y))) k st
      |_,_,_=>no 71
     |_=>no 72
    |none=>no 72
   |_=>no 73
  |.convert src dst x=>match P.underlying src,P.underlying dst with
   |some (.int _),some (.int k')=>evT x fun v=>match v with
    |.c ⟨.int k0,_,n⟩=>outT N o.dst (.c ⟨.int k',.z,iconv k0 k' n⟩) k
    |_=>no 74
   |some .string,some .string=>evT x fun v=>match v with
    |.c ⟨.str,_,l⟩=>outT N o.dst (.c ⟨.str,.z,l⟩) k
    |_=>no 75
   |some (.slice e),some .string=>match P.underlying e with
    |some (.int .u8)=>evT x fun v=>match v with
     |.c ⟨.sl r,f,l⟩=>bytesC r f l fun s=>outT N o.dst (.c ⟨.str,.z,s⟩) k
     |.ref n p none=>rowC n p fun row=>match row with
      |⟨.sl r,f,l⟩ :: _=>match ownF f with
       |true=>bytesC r f l fun s=>outT N o.dst (.c ⟨.str,.z,s⟩) k
       |false=>no 215
      |_=>no 216
     |_=>no 217
    |_=>no 218
   |_,_=>no 76
  |.call c=>match c.callee,c.args.toList with
   |.builtin .len,[x]=>match (c.argTypes[0]?).bind P.underlying with
    |some .string=>evT x fun v=>match v with
     |.c ⟨.str,_,l⟩=>outT N o.dst (.c ⟨.int .i64,.z,slen l⟩) k
     |_=>no 77
    |some (.slice _)=>evT x fun v=>match v with
     |.c ⟨.sl r,f,l⟩=>outT N o.dst (.c ⟨.int .i64,.z,lenC r f l⟩) k
     |.ref n p none=>rowC n p fun row=>match row with
      |⟨.sl r,f,l⟩ :: _=>match ownF f with
       |true=>outT N o.dst (.c ⟨.int .i64,.z,lenC r f l⟩) k
       |false=>no 78
      |_=>no 78
     |.ref _ _ (some (x,y))=>outT N o.dst (.c ⟨.int .i64,.z,wlen x y⟩) k
     |_=>no 79
    |_=>no 80
   |.builtin .max,[x,y]=>evT x fun v=>evT y fun u=>match v,u with
    |.c ⟨.int .i64,_,a⟩,.c ⟨.int .i64,_,e⟩=>outT N o.dst (.c ⟨.int .i64,.z,imax a e⟩) k
    |_,_=>no 81
   |.builtin .append,[x,y]=>appendT N P c o.dst x y k
   |.builtin .clear,[x]=>clearT P c o.dst x k
   |_,_=>no 82
  |_=>no 83
 def needA (_:Nat) (_:List TV) (_:List (Nm×VB)):Res ρ:=fail 200
 def needQ (_:List Nat) (_:VS):Res ρ:=fail 201
 end
 end TM
 namespace TM
 open Go
 mutual
 def inT:(t:ST)→Fg→V t→TV
  |.pt _,.pt .own _,_=>.dead
  |.pt r,.pt _ fs,x=>.raddr (cellsOf r fs x)
  |.pt _,_,_=>.dead
  |.fn g r,.fn fs,x=>.fn g (inTs r fs x)
  |.fn _ _,_,_=>.dead
  |.hole,_,_=>.dead
  |.hs _ _,_,_=>.dead
  |.int k,f,x=>.c ⟨.int k,f,x⟩
  |.bool,f,x=>.c ⟨.bool,f,x⟩
  |.str,f,x=>.c ⟨.str,f,x⟩
  |.sl r,f,x=>.c ⟨.sl r,f,x⟩
 def inTs:(r:List ST)→List Fg→R r→List TV
  |[],_,_=>[]
  |t :: r,f :: fs,x=>inT t f (headR t r x) :: inTs r fs (tailR t r x)
  |_ :: _,[],_=>[]
 end
 def inC (c:Cl):TV:=inT c.t c.f c.x
 def AP.len:AP→Nat
  |.one _ _=>1
  |.agg r=>r.length
  |.ptr r=>r.length
  |.own _ _=>1
  |.owns r=>r.length
 def AP.lv (i:Nat) (cs:List Cl):AP→TV
  |.one _ _=>match cs with
   |c :: _=>inC c
   |[]=>.dead
  |.agg _=>.agg (cs.map inC)
  |.ptr _=>.addr (i,1) ⟨0,[]⟩
  |.own _ _=>match cs with
   |c :: _=>seenT (i,1) ⟨0,[]⟩ c
   |[]=>.dead
  |.owns _=>.agg (seensT (i,1) ⟨0,[]⟩ 0 cs)
 def AP.bx (cs:List Cl):AP→VB
  |.one _ _=>⟨false,[]⟩
  |.agg _=>⟨false,[]⟩
  |.ptr _=>⟨true,cs⟩
  |.own _ _=>⟨false,cs⟩
  |.owns _=>⟨false,cs⟩
 def entryS:Nat→List AP→List Cl→List (Nat×TV)
  |_,[],_=>[]
  |i,a :: as,cs=>(i,a.lv i (cs.take a.len)) :: entryS (i+1) as (cs.drop a.len)
 def entryB:Nat→List AP→List Cl→List (Nm×VB)
  |_,[],_=>[]
  |i,a :: as,cs=>((i,1),a.bx (cs.take a.len)) :: entryB (i+1) as (cs.drop a.len)
 mutual
 def VP.fill:VP→List Cl→TV
  |.c _ _,cs=>match cs with
   |z :: _=>.c z
   |[]=>.dead
  |.ref n c0,_=>.ref n ⟨c0,[]⟩ none
  |.win n c0,cs=>match cs with
   |⟨.int .i64,_,x⟩ :: ⟨.int .i64,_,y⟩ :: _=>.ref n ⟨c0,[]⟩ (some (intx x,intx y))
   |_=>.dead
  |.addr n c0,_=>.addr n ⟨c0,[]⟩
  |.raddr r,cs=>.raddr (cs.take r.length)
  |.agg xs,cs=>.agg (VP.fills xs cs)
  |.tup xs,cs=>.tup (VP.fills xs cs)
  |.fn g xs,cs=>.fn g (VP.fills xs cs)
 def VP.fills:List VP→List Cl→List TV
  |[],_=>[]
  |x :: xs,cs=>x.fill cs :: VP.fills xs (cs.drop x.cts.length)
 end
 def cutS:List (Nat×VP)→List Cl→List (Nat×TV)
  |[],_=>[]
  |(t,x) :: xs,cs=>(t,x.fill cs) :: cutS xs (cs.drop x.cts.length)
 def cutB:List (Nm×Bool×List (ST×Fg))→List Cl→List (Nm×VB)
  |[],_=>[]
  |(n,real,r) :: xs,cs=>(n,⟨real,cs.take r.length⟩) :: cutB xs (cs.drop r.length)
 def Lb.start (l:Lb) (x:R l.inS):VS:=match l.q with
  |none=>⟨entryS 0 l.args (ofRow l.inT x),entryB 0 l.args (ofRow l.inT x),[]⟩
  |some _=>⟨cutS l.slots (ofRow l.inT x),cutB l.boxes ((ofRow l.inT x).drop (VP.ctss (l.slots.map (·.2))).length),[]⟩
 section
 variable {ρ:Type}
 mutual
 def okF:ST→Fg→Bool
  |.int _,f=>Fg.beq f .z
  |.bool,f=>Fg.beq f .z
  |.str,f=>Fg.beq f .z
  |.sl r,.sl _ fs=>okFs r fs
  |.pt r,.pt _ fs=>okFs r fs
  |.fn _ r,.fn fs=>okFs r fs
  |_,_=>false
 def okFs:List ST→List Fg→Bool
  |[],[]=>true
  |t :: r,f :: fs=>okF t f&&okFs r fs
  |_,_=>false
 end
 def lendZ (t:ST) (f:Fg) (c:Cl) (k:Cl→Res ρ):Res ρ:=match okF c.t c.f&&Fg.beq c.f.frz f with
  |true=>castV c.t t c.x fun x=>k ⟨t,f,x⟩
  |false=>match c.t,c.f,t,f with
   |.sl _,.nil,.sl r,.sl .fz fs=>k ⟨.sl r,.sl .fz fs,lnil r⟩
   |_,_,_,_=>fail 100
 def lendC (t:ST) (f:Fg) (c:Cl) (k:Cl→Res ρ):Res ρ:=match Fg.beq c.f f with
  |true=>castV c.t t c.x fun x=>k ⟨t,f,x⟩
  |false=>lendZ t f c k
 def lendZs:List (ST×Fg)→List Cl→(List Cl→Res ρ)→Res ρ
  |[],_,k=>k []
  |(t,f) :: r,c :: cs,k=>lendZ t f c fun x=>lendZs r cs fun xs=>k (x :: xs)
  |_,_,_=>fail 101
 mutual
 def lendT:TV→ST→Fg→(Cl→Co ρ)→Co ρ
  |.c x,t,f,k=>fun st=>lendC t f x fun y=>k y st
  |.ref n p none,.sl r,.sl .fz fs,k=>rowC n p fun row=>match row with
   |⟨.sl r',g,l⟩ :: _=>match ownF g with
    |true=>fun st=>lendZ (.sl r) (.sl .fz fs) ⟨.sl r',g,l⟩ fun y=>k y st
    |false=>no 102
   |_=>no 103
  |.addr n p,.pt r,.pt .fz fs,k=>rowC n p fun row st=>lendZs (zipF r fs) row fun cs=>mkRow r fs cs fun x=>k ⟨.pt r,.pt .fz fs,x⟩ st
  |.raddr cs,.pt r,.pt .fz fs,k=>match Nat.beq r.length cs.length with
   |true=>fun st=>lendZs (zipF r fs) cs fun cs=>mkRow r fs cs fun x=>k ⟨.pt r,.pt .fz fs,x⟩ st
   |false=>no 109
  |.fn g xs,.fn h r,.fn fs,k=>match Nat.beq g h with
   |true=>lendTs xs (zipF r fs) fun cs st=>mkRow r fs cs fun x=>k ⟨.fn h r,.fn fs,x⟩ st
   |false=>no 104
  |_,_,_,_=>no 105
 def lendTs:List TV→List (ST×Fg)→(List Cl→Co ρ)→Co ρ
  |[],[],k=>k []
  |v :: vs,(t,f) :: r,k=>lendT v t f fun c=>lendTs vs r fun cs=>k (c :: cs)
  |_,_,_=>no 106
 end
 def argsT:List TV→List AP→(List Cl→List (Option Nm)→Co ρ)→Co ρ
  |[],[],k=>k [] []
  |v :: vs,.one t f :: as,k=>lendT v t f fun c=>argsT vs as fun cs mv=>k (c :: cs) (none :: mv)
  |.agg xs :: vs,.agg r :: as,k=>lendTs xs r fun cs=>argsT vs as fun cs' mv=>k (cs++cs') (none :: mv)
  |.addr n ⟨0,[]⟩ :: vs,.ptr r :: as,k=>rdB n fun bx=>match bx.real&&Nat.beq bx.cells.length r.length with
   |true=>argsT vs as fun cs mv=>k (bx.cells++cs) (some n :: mv)
   |false=>no 107
  |_,_,_=>no 108
 def inM (n:Nm):List (Option Nm)→Bool
  |[]=>false
  |none :: l=>inM n l
  |some m :: l=>nmEq n m || inM n l
 def nodupM:List (Option Nm)→Bool
  |[]=>true
  |none :: l=>nodupM l
  |some n :: l=>go n l&&nodupM l
 where go (n:Nm):List (Option Nm)→Bool
  |[]=>true
  |none :: l=>go n l
  |some m :: l=>!nmEq n m&&go n l
 def noFzR (l:Lb):Bool:=Fg.noFzs (l.outT.map (·.2))
 mutual
 def lends? : TV→Bool
  |.ref _ _ _=>true
  |.addr _ _=>true
  |.agg xs=>lendss? xs
  |.fn _ xs=>lendss? xs
  |.va xs=>lendss? xs
  |_=>false
 def lendss? : List TV→Bool
  |[]=>false
  |x :: xs=>lends? x || lendss? xs
 end
 def lendsA? : List TV→List AP→Bool
  |_ :: vs,.ptr _ :: as=>lendsA? vs as
  |v :: vs,_ :: as=>lends? v || lendsA? vs as
  |_,_=>false
 mutual
 def freeT (mv:List (Option Nm)):TV→Bool
  |.ref n _ _=>!inM n mv
  |.addr n _=>!inM n mv
  |.agg xs=>freeTs mv xs
  |.tup xs=>freeTs mv xs
  |.fn _ xs=>freeTs mv xs
  |.va xs=>freeTs mv xs
  |_=>true
 def freeTs (mv:List (Option Nm)):List TV→Bool
  |[]=>true
  |x :: xs=>freeT mv x&&freeTs mv xs
 end
 def freeA (mv:List (Option Nm)):List TV→List AP→Bool
  |_ :: vs,.ptr _ :: as=>freeA mv vs as
  |v :: vs,_ :: as=>freeT mv v&&freeA mv vs as
  |_,_=>true
 def goneN (d:Nat) (m:Nm):Bool:=Nat.beq m.1 d&&Nat.ble 2 m.2
 mutual
 def callK (d:Nat) (mv:List (Option Nm)):TV→TV
  |.ref m q sub=>match goneN d m || inM m mv with
   |true=>.dead
   |false=>.ref m q sub
  |.addr m q=>match goneN d m || (inM m mv&&!q.r.isEmpty) with
   |true=>.dead
   |false=>.addr m q
  |.agg xs=>.agg (callKs d mv xs)
  |.tup xs=>.tup (callKs d mv xs)
  |.fn g xs=>.fn g (callKs d mv xs)
  |.va xs=>.va (callKs d mv xs)
  |x=>x
 def callKs (d:Nat) (mv:List (Option Nm)):List TV→List TV
  |[]=>[]
  |x :: xs=>callK d mv x :: callKs d mv xs
 end
 def resTV (d j:Nat) (cs:List Cl):AP→TV
  |.one _ _=>match cs with
   |c :: _=>seenT (d,j) ⟨0,[]⟩ c
   |[]=>.dead
  |.agg _=>.agg (seensT (d,j) ⟨0,[]⟩ 0 cs)
  |.ptr _=>.addr (d,j) ⟨0,[]⟩
  |_=>.dead
 def AP.isRes:AP→Bool
  |.one _ _=>true
  |.agg _=>true
  |.ptr _=>true
  |_=>false
 def allRes:List AP→Bool
  |[]=>true
  |a :: as=>a.isRes&&allRes as
 def AP.isPtr:AP→Bool
  |.ptr _=>true
  |_=>false
 def resTVs (d:Nat):Nat→List AP→List Cl→List TV
  |_,[],_=>[]
  |j,a :: as,cs=>resTV d j (cs.take a.len) a :: resTVs d (j+1) as (cs.drop a.len)
 def resBs (d:Nat):Nat→List AP→List Cl→List (Nm×VB)
  |_,[],_=>[]
  |j,a :: as,cs=>((d,j),⟨a.isPtr,cs.take a.len⟩) :: resBs d (j+1) as (cs.drop a.len)
 def tupT:List TV→TV
  |[v]=>v
  |vs=>.tup vs
 def dropB (d:Nat):List (Nm×VB)→List (Nm×VB)
  |[]=>[]
  |(n,x) :: l=>match goneN d n with
   |true=>dropB d l
   |false=>(n,x) :: dropB d l
 def backB:List (Option Nm)→List (List (ST×Fg))→List Cl→List (Nm×VB)→List (Nm×VB)
  |some n :: mv,o :: os,cs,l=>backB mv os (cs.drop o.length) (match lookB l n with
   |some x=>(n,⟨x.real,cs.take o.length⟩) :: l
   |none=>l)
  |none :: mv,o :: os,cs,l=>backB mv os (cs.drop o.length) l
  |_,_,_,l=>l
 def outLen (l:Lb):Nat:=(l.outs.flatMap id).length
 def wBs? (d:Nat):Nat→List AP→List Ft
  |_,[]=>[]
  |j,_ :: as=>.wB (d,j) :: wBs? d (j+1) as
 def mvF:List (Option Nm)→List Ft
  |[]=>[]
  |none :: mv=>mvF mv
  |some n :: mv=>.wB n :: .km n :: mvF mv
 def afterT (l:Lb) (d:Nat) (mv:List (Option Nm)) (cs:List Cl) (st:VS):VS:=
  ⟨(d,tupT (resTVs d 2 l.res (cs.drop (outLen l)))) :: killS (callK d mv) st.s,
   resBs d 2 l.res (cs.drop (outLen l))++dropB d (backB mv l.outs (cs.take (outLen l)) st.b),
   .wS d (tupT (resTVs d 2 l.res (cs.drop (outLen l)))) :: (wBs? d 2 l.res++(mvF mv++(.gn d :: st.lg)))⟩
 structure En where
  P:Program
  N:Nat
  f:Nat
  body:Code
  rs:List ResultVar
  tb:Nat→List Lb
  me:Lb
 def tyAt:List (ST×Fg)→Nat→List (X×Nat)→List (ST×Fg)
  |r,c,[]=>r.drop c
  |r,c,(_,c') :: p=>match r.drop c with
   |(.sl row,.sl _ fs) :: _=>tyAt (zipF row fs) c' p
   |_=>[]
 def ctB (bs:List (Nm×VB)) (n:Nm) (p:Pth):List (ST×Fg):=match lookB bs n with
  |some x=>tyAt (x.cells.map fun c=>(c.t,c.f)) p.c0 p.r
  |none=>[]
 def fitC (t:ST) (f:Fg) (u:ST) (g:Fg):Bool:=match u,g with
  |.sl _,.nil=>match t,f with
   |.sl _,.sl .fz _=>true
   |.sl _,.nil=>true
   |_,_=>false
  |_,_=>ST.beq t u&&(Fg.beq g f || okF u g&&Fg.beq g.frz f)
 def fitCs:List (ST×Fg)→List (ST×Fg)→Bool
  |[],_=>true
  |(t,f) :: r,(u,g) :: q=>fitC t f u g&&fitCs r q
  |_,_=>false
 mutual
 def fitT (bs:List (Nm×VB)):TV→ST→Fg→Bool
  |.c x,t,f=>fitC t f x.t x.f
  |.ref n p none,.sl r,.sl .fz fs=>match ctB bs n p with
   |(u,g) :: _=>fitC (.sl r) (.sl .fz fs) u g
   |[]=>false
  |.addr n p,.pt r,.pt .fz fs=>fitCs (zipF r fs) (ctB bs n p)
  |.raddr cs,.pt r,.pt .fz fs=>fitCs (zipF r fs) (cs.map fun c=>(c.t,c.f))
  |.fn g xs,.fn h r,.fn fs=>Nat.beq g h&&fitTs bs xs (zipF r fs)
  |_,_,_=>false
 def fitTs (bs:List (Nm×VB)):List TV→List (ST×Fg)→Bool
  |[],[]=>true
  |v :: vs,(t,f) :: r=>fitT bs v t f&&fitTs bs vs r
  |_,_=>false
 end
 def fitO (bs:List (Nm×VB)) (v:TV) (t:ST) (f:Fg):Bool:=match v with
  |.c x=>fitW t f x.t x.f
  |.ref n p none=>match ctB bs n p with
   |(u,g) :: _=>fitW t f u g
   |[]=>false
  |_=>false
 where fitW (t:ST) (f:Fg) (u:ST) (g:Fg):Bool:=match t,f,u,g with
  |.sl _,.sl .own _,.sl _,.nil=>true
  |_,_,_,_=>ST.beq t u&&Fg.beq f g
 def fitOs (bs:List (Nm×VB)):List TV→List (ST×Fg)→Bool
  |[],[]=>true
  |v :: vs,(t,f) :: r=>fitO bs v t f&&fitOs bs vs r
  |_,_=>false
 def fitA (bs:List (Nm×VB)):List TV→List AP→Bool
  |[],[]=>true
  |v :: vs,.one t f :: as=>fitT bs v t f&&fitA bs vs as
  |.agg xs :: vs,.agg r :: as=>fitTs bs xs r&&fitA bs vs as
  |.addr _ ⟨0,[]⟩ :: vs,.ptr _ :: as=>fitA bs vs as
  |v :: vs,.own t f :: as=>fitO bs v t f&&fitA bs vs as
  |.agg xs :: vs,.owns r :: as=>fitOs bs xs r&&fitA bs vs as
  |_,_=>false
 def isEntry (l:Lb):Bool:=match l.q with
  |none=>true
  |some _=>false
 def pickA (g:Nat) (bs:List (Nm×VB)) (vs:List TV):List Lb→Option Lb
  |[]=>none
  |l :: ls=>match isEntry l&&(Nat.beq l.f g&&fitA bs vs l.args) with
   |true=>some l
   |false=>pickA g bs vs ls
 def notG (d:Nat):List (Option Nm)→Bool
  |[]=>true
  |none :: l=>notG d l
  |some n :: l=>!goneN d n&&notG d l
 def callC (E:En) (rec:Rec) (dr:Bool) (o:Oper) (k:Co ρ):Co ρ:=match o.op,o.dst with
  |.call c,some d=>match c.callee with
   |.value fo=>evT fo fun fv=>evTs c.args.toList fun vs=>match fv with
    |.fn g caps=>fun st=>match pickA g st.b (vs++caps) (E.tb g) with
     |some l=>(argsT (vs++caps) l.args fun cs mv st=>match Nat.blt d E.N&&(nodupM mv&&(freeA mv (vs++caps) l.args&&(Nat.beq l.outs.length mv.length&&allRes l.res&&(!dr || notG d mv)&&(noFzR l || !lendsA? (vs++caps) l.args)))) with
      |true=>toRow l.inT cs fun x=>call_ rec l x fun y=>k (afterT l d mv (ofRow l.outT y) st)
      |false=>fail 110) st
     |none=>needA g (vs++caps) st.b
    |_=>no 111
   |_=>no 112
  |_,_=>no 113
 def partO (v:TV) (t:ST) (f:Fg) (k:Cl→Co ρ):Co ρ:=match v with
  |.c x=>match solid x.t x.f with
   |true=>fun st=>conv t f x fun a=>k ⟨t,f,a⟩ st
   |false=>no 201
  |.ref n p none=>rowC n p fun row=>match row with
   |⟨.sl r,g,l⟩ :: _=>match ownF g with
    |true=>fun st=>conv t f ⟨.sl r,g,l⟩ fun a=>k ⟨t,f,a⟩ st
    |false=>no 202
   |_=>no 203
  |_=>no 204
 def partsO:List TV→List (ST×Fg)→(List Cl→Co ρ)→Co ρ
  |[],[],k=>k []
  |v :: vs,(t,f) :: r,k=>partO v t f fun c=>partsO vs r fun cs=>k (c :: cs)
  |_,_,_=>no 205
 def argsO:List TV→List AP→(List Cl→Co ρ)→Co ρ
  |[],[],k=>k []
  |.c x :: vs,.one t f :: as,k=>fun st=>lendC t f x fun c=>argsO vs as (fun cs=>k (c :: cs)) st
  |.agg xs :: vs,.owns r :: as,k=>partsO xs r fun cs=>argsO vs as fun cs'=>k (cs++cs')
  |.agg _ :: _,.own _ _ :: _,_=>no 206
  |v :: vs,.own t f :: as,k=>partO v t f fun c=>argsO vs as fun cs=>k (c :: cs)
  |_,_,_=>no 207
 def ownAt:Nat→List TV→List AP→Option (Nat×TV)
  |i,v :: _,.own _ _ :: _=>some (i,v)
  |i,v :: _,.owns _ :: _=>some (i,v)
  |i,_ :: vs,_ :: as=>ownAt (i+1) vs as
  |_,_,_=>none
 def ownN? : List AP→Nat
  |[]=>0
  |.own _ _ :: as=>ownN? as+1
  |.owns _ :: as=>ownN? as+1
  |_ :: as=>ownN? as
 def apart1 (n:Nm) (p:Pth):List TV→Bool
  |[]=>true
  |.ref m q none :: vs=>(!nmEq n m || (p.r.isEmpty&&(q.r.isEmpty&&!Nat.beq p.c0 q.c0)))&&apart1 n p vs
  |.c _ :: vs=>apart1 n p vs
  |_=>false
 def apartT (d:Nat) (nb:Nm):List TV→Bool
  |[]=>true
  |.ref n p none :: vs=>(!nmEq n nb&&!goneN d n)&&(apart1 n p vs&&apartT d nb vs)
  |.c _ :: vs=>apartT d nb vs
  |_=>false
 def backO:List TV→List Cl→Bool
  |[],[]=>true
  |.ref _ _ _ :: vs,c :: cs=>c.own&&backO vs cs
  |_ :: vs,_ :: cs=>backO vs cs
  |_,_=>false
 def Cl.isHole (c:Cl):Bool:=match c.t with
  |.hole=>true
  |_=>false
 def backH:List TV→List Cl→Bool
  |[],[]=>true
  |.ref _ _ _ :: vs,c :: cs=>(c.own || c.isHole)&&backH vs cs
  |_ :: vs,_ :: cs=>backH vs cs
  |_,_=>false
 def keepO (vs:List TV) (cs:List Cl):List TV:=match backO vs cs with
  |true=>vs
  |false=>[]
 def putsT:List TV→List Cl→Co ρ→Co ρ
  |.ref n p none :: vs,c :: cs,k=>rdB n fun bx st=>putAt bx.cells p.c0 p.r c fun cs'=>kill n p (wrB n ⟨bx.real,cs'⟩ (putsT vs cs k)) st
  |_ :: vs,_ :: cs,k=>putsT vs cs k
  |_,_,k=>k
 def outsO (i0:Nat):Nat→List (List (ST×Fg))→Bool
  |_,[]=>true
  |i,o :: os=>(Nat.beq i i0 || o.isEmpty)&&outsO i0 (i+1) os
 def mvO (nb:Nm) (i0:Nat):Nat→List (List (ST×Fg))→List (Option Nm)
  |_,[]=>[]
  |i,_ :: os=>(match Nat.beq i i0 with
   |true=>some nb
   |false=>none) :: mvO nb i0 (i+1) os
 def freshNb (nb:Nm) (k:Co ρ):Co ρ:=killBox nb (wrB nb ⟨false,[]⟩ k)
 def inPs (n:Nm) (p:Pth):List TV→Bool
  |[]=>false
  |.ref m q none :: vs=>(p.r.isEmpty&&(q.r.isEmpty&&(nmEq n m&&Nat.beq p.c0 q.c0))) || inPs n p vs
  |_ :: vs=>inPs n p vs
 mutual
 def stayT (ps:List TV):TV→TV→TV
  |.ref n p none,v1=>match inPs n p ps with
   |true=>.ref n p none
   |false=>v1
  |.agg xs,v1=>match v1 with
   |.agg ys=>.agg (stayTs ps xs ys)
   |_=>.dead
  |.va xs,v1=>match v1 with
   |.va ys=>.va (stayTs ps xs ys)
   |_=>.dead
  |.dead,_=>.dead
  |.ref _ _ (some _),_=>.dead
  |.c _,v1=>v1
  |.addr _ _,v1=>v1
  |.raddr _,v1=>v1
  |.tup _,v1=>v1
  |.fn _ _,v1=>v1
 def stayTs (ps:List TV):List TV→List TV→List TV
  |[],ys=>ys
  |x :: xs,ys=>match ys with
   |y :: ys=>stayT ps x y :: stayTs ps xs ys
   |[]=>[]
 end
 def stayS (ps:List TV) (s1:List (Nat×TV)):List (Nat×TV)→List (Nat×TV)
  |[]=>[]
  |(t,v) :: l=>(t,stayT ps v (lookS s1 t)) :: stayS ps s1 l
 def callO (E:En) (rec:Rec) (o:Oper) (k:Co ρ):Co ρ:=match o.op,o.dst with
  |.call c,some d=>match c.callee with
   |.value fo=>evT fo fun fv=>evTs c.args.toList fun vs=>match fv with
    |.fn g caps=>fun st=>match pickA g st.b (vs++caps) (E.tb g) with
     |some l=>match Nat.beq (ownN? l.args) 1,ownAt 0 (vs++caps) l.args with
      |true,some (i0,v0)=>(argsO (vs++caps) l.args fun cs st0=>match Nat.blt d E.N&&(apartT d (E.N+E.N,0) (cellsTV v0)&&(Nat.beq l.outs.length l.args.length&&(outsO i0 0 l.outs&&(allRes l.res&&nodupM (mvO (E.N+E.N,0) i0 0 l.outs))))) with
       |true=>toRow l.inT cs fun x=>call_ rec l x fun y=>match backH (cellsTV v0) ((ofRow l.outT y).take (outLen l)) with
        |true=>putsT (cellsTV v0) ((ofRow l.outT y).take (outLen l)) (freshNb (E.N+E.N,0) fun st=>freshNb (E.N+E.N,0) (fun st=>k ⟨(d,lookS st.s d) :: stayS (keepO (cellsTV v0) ((ofRow l.outT y).take (outLen l))) st.s st0.s,st.b,st.lg⟩) (afterT l d (mvO (E.N+E.N,0) i0 0 l.outs) (ofRow l.outT y) st)) st0
        |false=>fail 208
       |false=>fail 209) st
      |_,_=>fail 210
     |none=>needA g (vs++caps) st.b
    |_=>no 111
   |_=>no 112
  |_,_=>no 113
 def peek (st:VS):Operand→TV
  |.tmp t=>lookS st.s t
  |.const v=>ofConstT v
  |.func f=>.fn f []
  |.global _=>.dead
 def ownL? (E:En) (o:Oper) (st:VS):Bool:=match o.op with
  |.call c=>match c.callee with
   |.value fo=>match peek st fo with
    |.fn g caps=>match pickA g st.b (c.args.toList.map (peek st)++caps) (E.tb g) with
     |some l=>!Nat.beq (ownN? l.args) 0
     |none=>false
    |_=>false
   |_=>false
  |_=>false
 def callX (E:En) (rec:Rec) (dr:Bool) (o:Oper) (k:Co ρ):Co ρ:=fun st=>match !dr&&ownL? E o st with
  |true=>callO E rec o k st
  |false=>callC E rec dr o k st
 mutual
 def takeV:VP→TV→Option (List Cl)
  |.c _ _,.c x=>some [x]
  |.ref n c0,.ref m ⟨c,[]⟩ none=>match nmEq n m&&Nat.beq c0 c with
   |true=>some []
   |false=>none
  |.win n c0,.ref m ⟨c,[]⟩ (some (x,y))=>match nmEq n m&&Nat.beq c0 c with
   |true=>some [⟨.int .i64,.z,xint x⟩,⟨.int .i64,.z,xint y⟩]
   |false=>none
  |.addr n c0,.addr m ⟨c,[]⟩=>match nmEq n m&&Nat.beq c0 c with
   |true=>some []
   |false=>none
  |.raddr r,.raddr cs=>match Nat.beq r.length cs.length with
   |true=>some cs
   |false=>none
  |.agg xs,.agg vs=>takeVs xs vs
  |.tup xs,.tup vs=>takeVs xs vs
  |.fn g xs,.fn h vs=>match Nat.beq g h with
   |true=>takeVs xs vs
   |false=>none
  |_,_=>none
 def takeVs:List VP→List TV→Option (List Cl)
  |[],[]=>some []
  |x :: xs,v :: vs=>match takeV x v,takeVs xs vs with
   |some a,some b=>some (a++b)
   |_,_=>none
  |_,_=>none
 end
 def cellsVP:VP→List VP
  |.agg xs=>xs
  |x=>[x]
 def isAggP:VP→Bool
  |.agg _=>true
  |_=>false
 def isAggT:TV→Bool
  |.agg _=>true
  |_=>false
 def firstRef:List VP→Option Nm
  |[]=>none
  |.ref m _ :: _=>some m
  |_ :: xs=>firstRef xs
 def refTs:List VP→List TV→List TV
  |.ref _ _ :: xs,v :: vs=>v :: refTs xs vs
  |_ :: xs,_ :: vs=>refTs xs vs
  |_,_=>[]
 def fillTs (m:Nm):Nat→List VP→List TV→List TV
  |k,.ref _ _ :: xs,_ :: vs=>.ref m ⟨k,[]⟩ none :: fillTs m (k+1) xs vs
  |k,_ :: xs,v :: vs=>v :: fillTs m k xs vs
  |_,_,_=>[]
 def keepT:List VP→List TV→Bool
  |[],[]=>true
  |.ref _ _ :: xs,_ :: vs=>keepT xs vs
  |_ :: xs,.c _ :: vs=>keepT xs vs
  |_,_=>false
 def aggIf (b:Bool) (vs:List TV):TV:=match b,vs with
  |true,vs=>.agg vs
  |false,[v]=>v
  |false,_=>.dead
 def allOwn:List Cl→Bool
  |[]=>true
  |c :: cs=>c.own&&allOwn cs
 def canonOne (N t:Nat) (x:VP) (k:Co ρ):Co ρ:=match firstRef (cellsVP x) with
  |none=>k
  |some m=>rdS t fun v=>match takeV x v with
   |some _=>k
   |none=>match keepT (cellsVP x) (cellsTV v)&&(isAggP x==isAggT v)&&Nat.beq m.2 0 with
    |true=>closesT (refTs (cellsVP x) (cellsTV v)) fun cs=>match allOwn cs with
     |true=>killBox m (wrB m ⟨false,cs⟩ (wrS N t (aggIf (isAggT v) (fillTs m 0 (cellsVP x) (cellsTV v))) k))
     |false=>no 122
    |false=>no 123
 def canonS (N:Nat):List (Nat×VP)→Co ρ→Co ρ
  |[],k=>k
  |(t,x) :: xs,k=>canonOne N t x (canonS N xs k)
 def takeB:List (Nm×Bool×List (ST×Fg))→VS→Option (List Cl)
  |[],_=>some []
  |(n,real,r) :: xs,st=>match lookB st.b n,takeB xs st with
   |some x,some b=>match Nat.beq x.cells.length r.length&&(x.real==real) with
    |true=>some (x.cells++b)
    |false=>none
   |_,_=>none
 def takeC (l:Lb) (st:VS):Option (List Cl):=match takeVs (l.slots.map (·.2)) (l.slots.map fun x=>lookS st.s x.1),takeB l.boxes st with
  |some a,some b=>some (a++b)
  |_,_=>none
 mutual
 def fitV:VP→TV→Bool
  |.c t f,.c x=>ST.beq t x.t&&Fg.beq f x.f
  |.ref _ _,.ref _ ⟨_,[]⟩ none=>true
  |.ref _ _,.c x=>ownF x.f
  |.win n c0,.ref m ⟨c,[]⟩ (some _)=>nmEq n m&&Nat.beq c0 c
  |.addr n c0,.addr m ⟨c,[]⟩=>nmEq n m&&Nat.beq c0 c
  |.raddr _,.raddr _=>true
  |.agg xs,.agg vs=>fitVs xs vs
  |.tup xs,.tup vs=>fitVs xs vs
  |.fn g xs,.fn h vs=>Nat.beq g h&&fitVs xs vs
  |_,_=>false
 def fitVs:List VP→List TV→Bool
  |[],[]=>true
  |x :: xs,v :: vs=>fitV x v&&fitVs xs vs
  |_,_=>false
 end
 def pathEq:List Nat→List Nat→Bool
  |[],[]=>true
  |x :: xs,y :: ys=>Nat.beq x y&&pathEq xs ys
  |_,_=>false
 def pickQ (f i:Nat) (q:List Nat) (st:VS):List Lb→Option Lb
  |[]=>none
  |l :: ls=>match l.q with
   |some p=>match Nat.beq l.i i&&Nat.beq l.f f&&(pathEq p q&&fitVs (l.slots.map (·.2)) (l.slots.map fun x=>lookS st.s x.1)) with
    |true=>some l
    |false=>pickQ f i q st ls
   |none=>pickQ f i q st ls
 def isCut (i:Nat) (q:List Nat):List Lb→Bool
  |[]=>false
  |l :: ls=>match l.q with
   |some p=>Nat.beq l.i i&&pathEq p q || isCut i q ls
   |none=>isCut i q ls
 def fitK:List (ST×Fg)→List Cl→Bool
  |[],[]=>true
  |(t,f) :: r,c :: cs=>(ST.beq c.t t&&Fg.beq c.f f || (match c.f,t,f with
   |.nil,.sl _,.sl .own _=>true
   |_,_,_=>false))&&fitK r cs
  |_,_=>false
 def jump (E:En) (rec:Rec) (q:List Nat) (st:VS):Res (R E.me.outS):=match pickQ E.f E.me.i q st (E.tb E.f) with
  |some l=>canonS E.N l.slots (fun st'=>match takeC l st',apsBeq l.res E.me.res,ctssBeq l.outs E.me.outs with
   |some cs,true,true=>match fitK l.inT cs with
    |true=>toRow l.inT cs fun x=>tail_ rec l x E.me.outS
    |false=>needQ q st
   |_,_,_=>fail 121) st
  |none=>needQ q st
 def flatCs:List Cl→Bool
  |[]=>true
  |c :: cs=>(match c.t with
   |.int _=>true
   |.bool=>true
   |.str=>true
   |.sl _=>true
   |_=>false)&&flatCs cs
 def lowC (z:Bool) (c:Cl):TV:=.c ⟨c.t,c.f.lw z,c.x⟩
 def lowCs (z:Bool):List Cl→List TV
  |[]=>[]
  |c :: cs=>lowC z c :: lowCs z cs
 def frzCells (n:Nm) (z:Bool) (k:Co ρ):Nat→Nat→Co ρ
  |0,_=>k
  |m+1,c=>rdB n fun bx=>match bx.cells.drop c with
   |⟨.sl r,.sl .own fs,l⟩ :: _=>kill n ⟨c,[]⟩ (wrB n ⟨bx.real,bx.cells.set c ⟨.sl r,(Fg.sl .own fs).lw z,l⟩⟩ (frzCells n z k m (c+1)))
   |⟨.sl r,.nil,_⟩ :: _=>kill n ⟨c,[]⟩ (wrB n ⟨bx.real,bx.cells.set c ⟨.sl r,(Fg.sl .own (ST.owns0 r)).lw z,lnil r⟩⟩ (frzCells n z k m (c+1)))
   |_=>frzCells n z k m (c+1)
 def frzOne (N t:Nat) (z:Bool) (k:Co ρ):Co ρ:=rdS t fun v=>match v with
  |.addr n ⟨0,[]⟩=>rdB n fun bx=>frzCells n z k bx.cells.length 0
  |v=>closesT (cellsTV v) fun cs=>match flatCs cs with
   |true=>wrS N t (aggIf (isAggT v) (lowCs z cs)) k
   |false=>no 301
 def fixL (N:Nat):List (Nat×Bool)→Co ρ→Co ρ
  |[],k=>k
  |(t,z) :: l,k=>frzOne N t z (fixL N l k)
 def boolEq:Bool→Bool→Bool
  |true,b=>b
  |false,b=>!b
 def fxAt (d:Nat) (aft:Bool):List (Nat×Bool×Nat×Bool)→List (Nat×Bool)
  |[]=>[]
  |(e,a,t,z) :: l=>match Nat.beq e d&&boolEq a aft with
   |true=>(t,z) :: fxAt d aft l
   |false=>fxAt d aft l
 def fxOf (fx:List (Nat×Bool×Nat×Bool)) (aft:Bool):Option Nat→List (Nat×Bool)
  |some d=>fxAt d aft fx
  |none=>[]
 def fxAll (fx:List (Nat×Bool×Nat×Bool)) (aft:Bool):List Oper→List (Nat×Bool)
  |[]=>[]
  |o :: l=>fxOf fx aft o.dst++fxAll fx aft l
 def finT (P:Program) (r:ResultVar) (k:TV→Co ρ):Co ρ:=match r with
  |.tmp t=>rdS t k
  |.cell a t=>rdS a fun v=>match v with
   |.addr n p=>rowC n p fun row=>match isAgg P t with
    |some true=>match Nat.ble (P.cellsOf t) row.length with
     |true=>k (.agg (seensT n p 0 (row.take (P.cellsOf t))))
     |false=>no 130
    |some false=>match row with
     |y :: _=>k (seenT n (p.add 0) y)
     |[]=>no 131
    |none=>no 132
   |_=>no 133
 def finTs (P:Program):List ResultVar→(List TV→Co ρ)→Co ρ
  |[],k=>k []
  |r :: rs,k=>finT P r fun v=>finTs P rs fun vs=>k (v :: vs)
 def outsC (bs:List (Nm×VB)):Nat→List (List (ST×Fg))→Option (List Cl)
  |_,[]=>some []
  |i,o :: os=>match lookB bs (i,1),outsC bs (i+1) os with
   |some x,some b=>match Nat.beq x.cells.length o.length with
    |true=>some (x.cells++b)
    |false=>none
   |_,_=>none
 def fitRes:List TV→List AP→Bool
  |[],[]=>true
  |.agg xs :: vs,.agg r :: as=>Nat.beq xs.length r.length&&fitRes vs as
  |.agg _ :: _,_=>false
  |.dead :: _,_=>false
  |_ :: vs,.one _ _ :: as=>fitRes vs as
  |_,_=>false
 def endR (l:Lb) (_:List TV) (os cs:List Cl):Res (R l.outS):=toRow l.outT (os++cs) ret
 def endL (E:En) (vs:List TV):Co (R E.me.outS):=match fitRes vs E.me.res with
  |true=>closesT (vs.flatMap cellsTV) fun cs st=>match outsC st.b 0 E.me.outs with
   |some os=>endR E.me vs os cs
   |none=>fail 140
  |false=>no 141
 def endP (E:En) (n:Nm):Co (R E.me.outS):=rdB n fun bx st=>match bx.real&&!Nat.beq n.2 1,outsC st.b 0 E.me.outs with
  |true,some os=>endR E.me [] os bx.cells
  |_,_=>fail 142
 def ptrRes:List AP→Bool
  |[.ptr _]=>true
  |_=>false
 def endC (E:En):Co (R E.me.outS):=fixL E.N (fxAt 999999 false E.me.fx) (finTs E.P E.rs fun vs=>match ptrRes E.me.res,vs with
  |true,[.addr n ⟨0,[]⟩]=>endP E n
  |_,vs=>endL E vs)
 def knowT (t:Nat) (x:Bool) (k:Co ρ):Co ρ:=fun st=>k ⟨(t,.c ⟨.bool,.z,bLit x⟩) :: st.s,st.b,st.lg⟩
 def nilOp (P:Program) (o:Oper):Option (Operand×Bool×Nat):=match o.op,o.dst with
  |.binOp op t x (.const (.slice none 0 0)) _,some d=>match P.underlying t,op with
   |some (.slice _),.eql=>some (x,false,d)
   |some (.slice _),.neq=>some (x,true,d)
   |_,_=>none
  |_,_=>none
 noncomputable def nilC (N:Nat) (z:Operand×Bool×Nat) (k:Co ρ):Co ρ:=evT z.1 fun v=>match v with
  |.c ⟨.sl r,f,l⟩=>iteC (ilt .i64 (iLit .i64 0) (lenC r f l)) (outT N (some z.2.2) (.c ⟨.bool,.z,bLit z.2.1⟩) k)
    (fun st=>both_ (outT N (some z.2.2) (.c ⟨.bool,.z,bLit false⟩) k st) (outT N (some z.2.2) (.c ⟨.bool,.z,bLit true⟩) k st))
  |_=>no 21
 def ownsAt:Nat→List AP→Bool
  |0,.owns _ :: _=>true
  |i+1,_ :: as=>ownsAt i as
  |_,_=>false
 def vboxOp (E:En) (o:Oper):Option (Nat×Nat):=match o.op,o.dst with
  |.box _ (.tmp i),some d=>match ownsAt i E.me.args with
   |true=>some (i,d)
   |false=>none
  |_,_=>none
 def vboxC (N:Nat) (z:Nat×Nat) (k:Co ρ):Co ρ:=rdS z.1 fun v=>match v with
  |.agg xs=>outT N (some z.2) (.va xs) k
  |_=>no 302
 def onceAt (a:Nat):List (Nat×Bool×Nat×Bool)→Bool
  |[]=>false
  |(e,_,t,_) :: l=>Nat.beq e 888888&&Nat.beq t a || onceAt a l
 def vstOp (E:En) (o:Oper):Option (TypeId×Nat×Nat):=match o.op,o.dst with
  |.store t (.tmp a) (.tmp y),none=>match onceAt a E.me.fx&&!Nat.beq a y with
   |true=>some (t,a,y)
   |false=>none
  |_,_=>none
 def flatTs:List TV→Bool
  |[]=>true
  |.c x :: l=>solid x.t x.f&&flatTs l
  |.ref _ _ none :: l=>flatTs l
  |_=>false
 def vstC (P:Program) (N:Nat) (z:TypeId×Nat×Nat) (k:Co ρ):Co ρ:=rdS z.2.2 fun u=>rdS z.2.1 fun v=>match u,v with
  |.agg xs,.addr n ⟨0,[]⟩=>rdB n fun bx=>match bx.real&&(!Nat.beq n.2 1&&(flatTs xs&&(Nat.beq (P.cellsOf z.1) xs.length&&(Nat.blt 0 xs.length&&Nat.beq bx.cells.length xs.length)))) with
   |true=>killBox n (wrB n ⟨false,[]⟩ (wrS N z.2.1 (.va (killAs n xs)) k))
   |false=>no 303
  |_,_=>no 304
 def op0 (E:En) (dr:Bool) (o:Oper) (k:Co ρ):Co ρ:=match dr,vboxOp E o,vstOp E o with
  |false,some z,_=>vboxC E.N z k
  |false,none,some z=>vstC E.P E.N z k
  |_,_,_=>opT E.N E.P o k
 noncomputable def op1 (E:En) (dr:Bool) (o:Oper) (k:Co ρ):Co ρ:=match dr,nilOp E.P o with
  |false,some z=>nilC E.N z k
  |_,_=>op0 E dr o k
 noncomputable def oneT (E:En) (rec:Rec) (dr:Bool) (all:Array Oper) (o:Oper) (k:Co ρ):Co ρ:=match guardOf all o with
   |none=>match isCall o with
    |true=>callX E rec dr o k
    |false=>op1 E dr o k
   |some (some d,w)=>rdS d fun v=>match v with
    |.c ⟨.bool,_,r⟩=>iteC (match w with
      |true=>r
      |false=>bnot r)
     (knowT d w (match isCall o with
      |true=>callX E rec dr o k
      |false=>op1 E dr o k))
     (knowT d (!w) (outT E.N o.dst (.tup []) k))
    |.tup []=>outT E.N o.dst (.tup []) k
    |_=>no 150
   |some (none,_)=>no 151
 noncomputable def opsT (E:En) (rec:Rec) (dr:Bool) (fx:List (Nat×Bool×Nat×Bool)) (all:Array Oper):List Oper→Co ρ→Co ρ
  |[],k=>k
  |o :: rest,k=>fixL E.N (fxOf fx false o.dst) (oneT E rec dr all o (fixL E.N (fxOf fx true o.dst) (opsT E rec dr fx all rest k)))
 def calmP (n:Nm) (p:Pth) (v:TV):Bool:=calmT (fun m q=>!(nmEq m n&&leads p q)) (fun m q=>!(nmEq m n&&(leads p q&&Nat.blt p.r.length q.r.length))) v
 def calmN (n:Nm) (v:TV):Bool:=calmT (fun m _=>!nmEq m n) (fun m _=>!nmEq m n) v
 def calmG (d:Nat) (v:TV):Bool:=calmT (fun m _=>!goneN d m) (fun m _=>!goneN d m) v
 def calmK (n:Nm) (v:TV):Bool:=calmT (fun m _=>!nmEq m n) (fun m p=>!nmEq m n || p.r.isEmpty) v
 def Ft.nc:Ft→Ft→Bool
  |.rS t _,.wS u _=>!Nat.beq t u
  |.rX t _ _,.wS u _=>!Nat.beq t u
  |.wS t _,.rX u _ _=>!Nat.beq t u
  |.rX _ _ v,.kl n=>calmN n v
  |.kl n,.rX _ _ v=>calmN n v
  |.rX _ _ v,.kp n p=>calmP n p v
  |.kp n p,.rX _ _ v=>calmP n p v
  |.rS _ v,.kp n p=>calmP n p v
  |.kp n p,.rS _ v=>calmP n p v
  |.wS _ v,.kp n p=>calmP n p v
  |.kp n p,.wS _ v=>calmP n p v
  |.rH n,.wB m=>!nmEq n m
  |.wB n,.rH m=>!nmEq n m
  |.rH n,.gn d=>!goneN d n
  |.gn d,.rH n=>!goneN d n
  |.rB n,.wD m=>!nmEq n m
  |.wD n,.rB m=>!nmEq n m
  |.wB n,.wD m=>!nmEq n m
  |.wD n,.wB m=>!nmEq n m
  |.wD n,.wD m=>!nmEq n m
  |.wD n,.gn d=>!goneN d n
  |.gn d,.wD n=>!goneN d n
  |.rX _ _ v,.gn d=>calmG d v
  |.gn d,.rX _ _ v=>calmG d v
  |.wS t _,.rS u _=>!Nat.beq t u
  |.wS t _,.wS u _=>!Nat.beq t u
  |.rS _ v,.kl n=>calmN n v
  |.kl n,.rS _ v=>calmN n v
  |.wS _ v,.kl n=>calmN n v
  |.kl n,.wS _ v=>calmN n v
  |.rB n,.wB m=>!nmEq n m
  |.wB n,.rB m=>!nmEq n m
  |.wB n,.wB m=>!nmEq n m
  |.rS _ v,.gn d=>calmG d v
  |.gn d,.rS _ v=>calmG d v
  |.wS _ v,.gn d=>calmG d v
  |.gn d,.wS _ v=>calmG d v
  |.rS _ v,.km n=>calmK n v
  |.km n,.rS _ v=>calmK n v
  |.rX _ _ v,.km n=>calmK n v
  |.km n,.rX _ _ v=>calmK n v
  |.wS _ v,.km n=>calmK n v
  |.km n,.wS _ v=>calmK n v
  |.rB n,.gn d=>!goneN d n
  |.gn d,.rB n=>!goneN d n
  |.wB n,.gn d=>!goneN d n
  |.gn d,.wB n=>!goneN d n
  |_,_=>true
 def ncL (x:Ft):List Ft→Bool
  |[]=>true
  |y :: l=>x.nc y&&ncL x l
 def ncLL:List Ft→List Ft→Bool
  |[],_=>true
  |x :: l,l'=>ncL x l'&&ncLL l l'
 def bindsB (e:Edge):Bool:=match e.ground with
  |.textOnly _=>false
  |.gcOnly _=>false
  |_=>true
 def lookN:List (Nat×Nat)→Nat→Nat
  |[],_=>0
  |(i,m) :: l,j=>match Nat.beq i j with
   |true=>m
   |false=>lookN l j
 def maskE (ms:List (Nat×Nat)) (n:Nat):List Edge→Nat
  |[]=>0
  |e :: es=>match bindsB e&&Nat.blt e.on n with
   |true=>Nat.lor (Nat.lor (Nat.shiftLeft 1 e.on) (lookN ms e.on)) (maskE ms n es)
   |false=>maskE ms n es
 def masksT (ops:Array Oper):Nat→List (Nat×Nat)
  |0=>[]
  |n+1=>match ops[n]? with
   |some o=>(n,maskE (masksT ops n) n o.after.toList) :: masksT ops n
   |none=>masksT ops n
 def ncOne (ms:List (Nat×Nat)) (i:Nat) (l:List Ft):List (Nat×List Ft)→Bool
  |[]=>true
  |(j,l') :: ls=>(Nat.testBit (lookN ms i) j || ncLL l' l)&&ncOne ms i l ls
 def ncAllM (ms:List (Nat×Nat)):List (Nat×List Ft)→Bool
  |[]=>true
  |(i,l) :: ls=>ncOne ms i l ls&&ncAllM ms ls
 def ncAll (ops:Array Oper) (ls:List (Nat×List Ft)):Bool:=ncAllM (masksT ops ops.size) ls
 def memN (i:Nat):List Nat→Bool
  |[]=>false
  |j :: l=>Nat.beq i j || memN i l
 def delN (i:Nat):List Nat→List Nat
  |[]=>[]
  |j :: l=>match Nat.beq i j with
   |true=>l
   |false=>j :: delN i l
 def noneN (left:List Nat):List Edge→Bool
  |[]=>true
  |e :: es=>(!bindsB e || !memN e.on left)&&noneN left es
 def readyN (ops:Array Oper) (left:List Nat):List Nat→Option Nat
  |[]=>none
  |i :: l=>match ops[i]? with
   |some o=>match noneN left o.after.toList with
    |true=>some i
    |false=>readyN ops left l
   |none=>none
 def topo (ops:Array Oper):Nat→List Nat→List Nat
  |0,_=>[]
  |n+1,left=>match readyN ops left left with
   |some i=>i :: topo ops n (delN i left)
   |none=>[]
 def edgesOk (n i:Nat) (rest:List Nat):List Edge→Bool
  |[]=>true
  |e :: es=>(!bindsB e || (Nat.blt e.on n&&(!Nat.beq e.on i&&!memN e.on rest)))&&edgesOk n i rest es
 def ordOk (ops:Array Oper):List Nat→Bool
  |[]=>true
  |i :: rest=>(Nat.blt i ops.size&&!memN i rest)&&(match ops[i]? with
   |some o=>edgesOk ops.size i rest o.after.toList
   |none=>false)&&ordOk ops rest
 def coverN (ord:List Nat):Nat→Bool
  |0=>true
  |n+1=>memN n ord&&coverN ord n
 noncomputable def drawT (E:En) (rec:Rec) (all:Array Oper):List Nat→List (Nat×List Ft)→Co ρ→Co ρ
  |[],acc,k=>fun st=>match ncAll all acc&&(ordOk all (acc.reverse.map (·.1))&&(coverN (acc.map (·.1)) all.size&&Nat.beq acc.length all.size)) with
   |true=>k ⟨st.s,st.b,[]⟩
   |false=>fail 152
  |i :: rest,acc,k=>fun st=>match all[i]? with
   |some o=>opsT E rec true [] all [o] (fun st'=>drawT E rec all rest ((i,st'.lg) :: acc) k st') ⟨st.s,st.b,[]⟩
   |none=>fail 153
 def natsTo:Nat→List Nat→List Nat
  |0,l=>l
  |n+1,l=>natsTo n (n :: l)
 def upTo (body:Code) (id:Nat):List Nat→Option (List Nat)
  |[]=>none
  |_ :: q=>match codeAt body q.reverse with
   |some (.block i _)=>match Nat.beq i id with
    |true=>some q
    |false=>upTo body id q
   |_=>upTo body id q
 noncomputable def runT (E:En) (rec:Rec):Nat→Bool→Bool→List Nat→Co (R E.me.outS)
  |0,_,_,_=>no 160
  |n+1,first,true,q=>match codeAt E.body q.reverse with
   |some .skip=>runT E rec n false false q
   |some .ret=>endC E
   |some (.seq _ _)=>runT E rec n false true (0 :: q)
   |some (.block _ _)=>runT E rec n false true (0 :: q)
   |some (.loop _)=>runT E rec n false true (0 :: q)
   |some (.cond (.tmp t) _ _)=>rdS t fun v=>match v with
    |.c ⟨.bool,_,r⟩=>iteC r (knowT t true (runT E rec n false true (0 :: q))) (knowT t false (runT E rec n false true (1 :: q)))
    |_=>no 161
   |some (.cond (.const (.bool true)) _ _)=>runT E rec n false true (0 :: q)
   |some (.cond (.const (.bool false)) _ _)=>runT E rec n false true (1 :: q)
   |some (.exit id)=>match upTo E.body id q with
    |some p=>runT E rec n false false p
    |none=>no 162
   |some (.region _ ops false)=>match !first&&isCut E.me.i q (E.tb E.f) with
    |true=>jump E rec q
    |false=>opsT E rec false E.me.fx ops ops.toList (runT E rec n false false q)
   |some (.region _ ops true)=>match !first&&isCut E.me.i q (E.tb E.f) with
    |true=>jump E rec q
    |false=>fixL E.N (fxAll E.me.fx false ops.toList) (drawT E rec ops (topo ops ops.size (natsTo ops.size [])) [] (fixL E.N (fxAll E.me.fx true ops.toList) (runT E rec n false false q)))
   |_=>no 163
  |n+1,_,false,q=>match q with
   |[]=>endC E
   |0 :: p=>match codeAt E.body p.reverse with
    |some (.seq _ _)=>runT E rec n false true (1 :: p)
    |some (.block _ _)=>runT E rec n false false p
    |some (.loop _)=>runT E rec n false true (0 :: p)
    |some (.cond _ _ _)=>runT E rec n false false p
    |_=>no 164
   |1 :: p=>match codeAt E.body p.reverse with
    |some (.seq _ _)=>runT E rec n false false p
    |some (.cond _ _ _)=>runT E rec n false false p
    |_=>no 165
   |_=>no 166
 end
 def envOf (P:Program) (tb:Nat→List Lb) (l:Lb):Option En:=match P.funcs[l.f]? with
  |some fn=>match fn.body with
   |some c=>some ⟨P,fn.ntmps,l.f,c,fn.results.toList,tb,l⟩
   |none=>none
  |none=>none
 def entryOk (l:Lb) (N:Nat):Bool:=match l.q with
  |none=>Nat.ble l.args.length N
  |some _=>true
 noncomputable def stepF (P:Program) (tb:Nat→List Lb) (rec:Rec) (l:Lb) (x:R l.inS):Res (R l.outS):=match P.funcs[l.f]? with
  |some fn=>match fn.body with
   |some c=>match entryOk l fn.ntmps with
    |true=>(runT ⟨P,fn.ntmps,l.f,c,fn.results.toList,tb,l⟩ rec 4000 true true (match l.q with
     |none=>[]
     |some q=>q)) (l.start x)
    |false=>fail 172
   |none=>fail 170
  |none=>fail 171
 end TM
 namespace TM
 open Go
 def lis (row:List ST) (l:V (.sl row)):List (R row):=l
 def holeL (c i:Nat) (es:List (List T)):List (List T):=match es[i]? with
  |some e=>es.set i (e.set c .hole)
  |none=>es
 mutual
 def encT:(t:ST)→Fg→V t→T
  |.int k,_,n=>.v (.int k n)
  |.bool,_,x=>.v (.bool x)
  |.str,_,l=>.v (.string ⟨List.toArray (α:=UInt8) l⟩)
  |.sl row,.sl f fs,l=>.sl f ((lis row l).map fun e=>encR row fs e)
  |.sl _,_,_=>.sl .own []
  |.pt row,.pt f fs,x=>.pt f (encR row fs x)
  |.pt _,_,_=>.hole
  |.fn g caps,.fn fs,x=>.fn (.func g) (encR caps fs x)
  |.fn _ _,_,_=>.hole
  |.hole,_,_=>.hole
  |.hs c row,.sl .own fs,v=>.sl .own (holeL c (hsI c row v) ((lis row (hsL c row v)).map fun e=>encR row fs e))
  |.hs _ _,_,_=>.hole
 def encR:(r:List ST)→List Fg→R r→List T
  |[],_,_=>[]
  |t :: r,f :: fs,x=>encT t f (headR t r x) :: encR r fs (tailR t r x)
  |_ :: _,[],_=>[]
 end
 def Cl.enc (c:Cl):T:=encT c.t c.f c.x
 def encs (cs:List Cl):List T:=cs.map Cl.enc
 theorem encs_cellsOf:∀ (r:List ST) (fs:List Fg) (x:R r),encs (cellsOf r fs x)=encR r fs x
  |[],_,_=>by simp [cellsOf,encR,encs]
  |t :: r,f :: fs,x=>by
   have:=encs_cellsOf r fs (tailR t r x)
   simp only[encs] at this
   simp [cellsOf,encR,encs,this,Cl.enc]
  |_ :: _,[],_=>by simp [cellsOf,encR,encs]
 theorem head_cons (t:ST):∀ (r:List ST) (a:V t) (b:R r),headR t r (consR t r a b)=a
  |[],_,_=>rfl
  |_ :: _,_,_=>rfl
 theorem tail_cons (t:ST):∀ (r:List ST) (a:V t) (b:R r),tailR t r (consR t r a b)=b
  |[],_,_=>rfl
  |_ :: _,_,_=>rfl
 def pthL (p:Pth):List Nat:=p.c0 :: p.r.flatMap fun x=>[x.1,x.2]
 mutual
 def RelV (Q:Nm→Pth→Nat→Prop):TV→LV→Prop
  |.c x,v=>v=.t x.enc
  |.ref n p none,v=>∃ hi,v=.ref n (pthL p) 0 hi∧Q n p hi
  |.ref n p (some (lo,hi)),v=>v=.ref n (pthL p) lo hi∧lo≤hi∧∃ L,hi≤L∧Q n p L
  |.addr n p,v=>v=.addr n (pthL p)
  |.raddr cs,v=>v=.raddr (encs cs)
  |.agg xs,v=>∃ vs,v=.agg vs∧RelVs Q xs vs
  |.tup xs,v=>∃ vs,v=.tup vs∧RelVs Q xs vs
  |.fn g xs,v=>∃ vs,v=.fn (.func g) vs∧RelVs Q xs vs
  |.va xs,v=>∃ vs,v=.va vs∧RelVs Q xs vs
  |.dead,_=>True
 def RelVs (Q:Nm→Pth→Nat→Prop):List TV→List LV→Prop
  |[],vs=>vs=[]
  |_ :: _,[]=>False
  |x :: xs,v :: vs=>RelV Q x v∧RelVs Q xs vs
 end
 def Qs (b:Nm→Box) (n:Nm) (p:Pth) (hi:Nat):Prop:=∃ es r,rowAt (b n).cells (pthL p)=some (.sl .own es :: r)∧hi=es.length
 def Qw (b:Nm→Box) (n:Nm) (p:Pth) (hi:Nat):Prop:=∀ es r,rowAt (b n).cells (pthL p)=some (.sl .own es :: r)→hi=es.length
 def Qt (_:Nm) (_:Pth) (_:Nat):Prop:=True
 theorem Qs.w {b:Nm→Box} {n:Nm} {p:Pth} {hi:Nat} (h:Qs b n p hi):Qw b n p hi:=by
  obtain ⟨es,r,h1,h2⟩:=h
  intro es' r' h'
  rw[h1] at h'
  cases h'
  exact h2
 structure Rel (vs:VS) (st:St):Prop where
  s:∀ t,RelV (Qs st.b) (lookS vs.s t) (st.s t)
  b:∀ n x,lookB vs.b n=some x→(st.b n).real=x.real∧(st.b n).cells=encs x.cells
 theorem Rel.lg {vs:VS} {st:St} (R:Rel vs st) (lg:List Ft):Rel ⟨vs.s,vs.b,lg⟩ st:=⟨R.s,R.b⟩
 mutual
 theorem RelV.mono {Q Q':Nm→Pth→Nat→Prop} (hq:∀ n p hi,Q n p hi→Q' n p hi):∀ (v:TV) (lv:LV),RelV Q v lv→RelV Q' v lv
  |.c x,lv,h=>by simp only[RelV] at *;exact h
  |.ref m q none,lv,h=>by
   simp only[RelV] at *
   obtain ⟨hi,h1,h2⟩:=h
   exact ⟨hi,h1,hq _ _ _ h2⟩
  |.ref m q (some (lo,hi)),lv,h=>by
   simp only[RelV] at *
   obtain ⟨h1,h2,L,h3,h4⟩:=h
   exact ⟨h1,h2,L,h3,hq _ _ _ h4⟩
  |.addr m q,lv,h=>by simp only[RelV] at *;exact h
  |.raddr cs,lv,h=>by simp only[RelV] at *;exact h
  |.agg xs,lv,h=>by
   simp only[RelV] at *
   obtain ⟨vs,h1,h2⟩:=h
   exact ⟨vs,h1,RelVs.mono hq xs vs h2⟩
  |.tup xs,lv,h=>by
   simp only[RelV] at *
   obtain ⟨vs,h1,h2⟩:=h
   exact ⟨vs,h1,RelVs.mono hq xs vs h2⟩
  |.va xs,lv,h=>by
   simp only[RelV] at *
   obtain ⟨vs,h1,h2⟩:=h
   exact ⟨vs,h1,RelVs.mono hq xs vs h2⟩
  |.fn g xs,lv,h=>by
   simp only[RelV] at *
   obtain ⟨vs,h1,h2⟩:=h
   exact ⟨vs,h1,RelVs.mono hq xs vs h2⟩
  |.dead,lv,h=>by simp only[RelV]
 theorem RelVs.mono {Q Q':Nm→Pth→Nat→Prop} (hq:∀ n p hi,Q n p hi→Q' n p hi):∀ (xs:List TV) (vs:List LV),RelVs Q xs vs→RelVs Q' xs vs
  |[],vs,h=>by simp only[RelVs] at *;exact h
  |x :: xs,[],h=>by simp only[RelVs] at h
  |x :: xs,v :: vs,h=>by
   simp only[RelVs] at *
   exact ⟨RelV.mono hq x v h.1,RelVs.mono hq xs vs h.2⟩
 end
 theorem RelV.w {b:Nm→Box} {v:TV} {lv:LV} (h:RelV (Qs b) v lv):RelV (Qw b) v lv:=RelV.mono (fun _ _ _ h=>h.w) v lv h
 theorem RelVs.w {b:Nm→Box} {v:List TV} {lv:List LV} (h:RelVs (Qs b) v lv):RelVs (Qw b) v lv:=RelVs.mono (fun _ _ _ h=>h.w) v lv h
 theorem RelV.t {Q:Nm→Pth→Nat→Prop} {v:TV} {lv:LV} (h:RelV Q v lv):RelV Qt v lv:=RelV.mono (fun _ _ _ _=>trivial) v lv h
 def Cov:Ft→Ac→Prop
  |.rS t v,.rS u lv=>t=u∧RelV Qt v lv
  |.rX t i v,.rX u j lv=>t=u∧i=j∧RelV Qt v lv
  |.rB n,.rB m _=>n=m
  |.wS t v,.wS u lv=>t=u∧RelV Qt v lv
  |.wB n,.wB m _=>n=m
  |.kl n,.kl m q=>n=m∧q=[]
  |.kp n p,.kl m q=>n=m∧q=pthL p
  |.rH n,.rH m _ _=>n=m
  |.wD n,.ho m p=>n=m∧p.length≠1
  |.gn d,.gn e=>d=e
  |.km n,.km m=>n=m
  |_,_=>False
 def Covers (l:List Ac) (lg lg':List Ft):Prop:=∃ d,lg'=d++lg∧∀ a∈l,∃ f∈d,Cov f a
 theorem nm_eq {n m:Nm}:nmEq n m=true↔n=m:=by
  obtain ⟨a,b⟩:=n
  obtain ⟨c,d⟩:=m
  simp [nmEq]
 theorem Covers.nil {lg:List Ft}:Covers [] lg lg:=⟨[],rfl,by simp⟩
 theorem Covers.trans {l1 l2:List Ac} {a b c:List Ft} (h1:Covers l1 a b) (h2:Covers l2 b c):Covers (l1++l2) a c:=by
  obtain ⟨d1,rfl,h1⟩:=h1
  obtain ⟨d2,rfl,h2⟩:=h2
  refine ⟨d2++d1,by simp,fun x hx=>?_⟩
  rcases List.mem_append.1 hx with hx | hx
  ·obtain ⟨f,hf,hc⟩:=h1 x hx
   exact ⟨f,by simp [hf],hc⟩
  ·obtain ⟨f,hf,hc⟩:=h2 x hx
   exact ⟨f,by simp [hf],hc⟩
 theorem Covers.one {a:Ac} {f:Ft} {lg:List Ft} (h:Cov f a):Covers [a] lg (f :: lg):=⟨[f],rfl,by
  intro x hx
  simp at hx
  subst hx
  exact ⟨f,by simp,h⟩⟩
 structure Go1 {γ:Type} (N:Nat) (vs:VS) (st:St) (m:M γ) (vs':VS) (st':St) (m':M γ):Prop where
  rel:Rel vs' st'
  run:∃ l,m.runT N st=(m'.runT N st').map (fun (a,s,l')=>(a,s,l++l'))∧Covers l vs.lg vs'.lg
 section
 variable {γ:Type} {N:Nat} {vs vs' vs'':VS} {st st' st'':St} {m m' m'':M γ}
 theorem Go1.refl (h:Rel vs st):Go1 N vs st m vs st m:=⟨h,[],by simp,.nil⟩
 theorem Go1.skip {d:List Ft} (h:Rel vs' st) (hd:vs'.lg=d++vs.lg):Go1 N vs st m vs' st m:=⟨h,[],by simp,d,hd,by simp⟩
 theorem Go1.trans (h1:Go1 N vs st m vs' st' m') (h2:Go1 N vs' st' m' vs'' st'' m''):Go1 N vs st m vs'' st'' m'':=by
  obtain ⟨_,l1,e1,c1⟩:=h1
  obtain ⟨r2,l2,e2,c2⟩:=h2
  refine ⟨r2,l1++l2,?_,c1.trans c2⟩
  rw[e1,e2]
  cases m''.runT N st''<;>simp
 theorem go_rdS {t:Nat} {k:LV→M γ} (h:Rel vs st):Go1 N vs st (.rdS t k) ⟨vs.s,vs.b,.rS t (lookS vs.s t) :: vs.lg⟩ st (k (st.s t)):=
  ⟨⟨h.s,h.b⟩,[.rS t (st.s t)],by simp only[M.runT];cases (k (st.s t)).runT N st<;>rfl,.one (f:=.rS t (lookS vs.s t)) ⟨rfl,(h.s t).t⟩⟩
 theorem go_rdB {n:Nm} {k:Box→M γ} (h:Rel vs st):Go1 N vs st (.rdB n k) ⟨vs.s,vs.b,.rB n :: vs.lg⟩ st (k (st.b n)):=
  ⟨⟨h.s,h.b⟩,[.rB n (st.b n)],by simp only[M.runT];cases (k (st.b n)).runT N st<;>rfl,.one (f:=.rB n) rfl⟩
 theorem go_wrS {t:Nat} {v:TV} {lv:LV} (h:Rel vs st) (ht:t<N) (hv:RelV (Qs st.b) v lv) :
   Go1 N vs st (.wrS t lv m) ⟨(t,v) :: vs.s,vs.b,.wS t v :: vs.lg⟩ ⟨fun u=>if u=t then lv else st.s u,st.b⟩ m:=by
  refine ⟨⟨fun u=>?_,h.b⟩,[.wS t lv],?_,.one (f:=.wS t v) ⟨rfl,hv.t⟩⟩
  ·simp only[lookS]
   by_cases hu:u=t
   ·subst hu
    simp [hv]
   ·have:Nat.beq t u=false:=by
     cases hb:Nat.beq t u with
     |false=>rfl
     |true=>exact absurd (Nat.eq_of_beq_eq_true hb).symm hu
    simp only[this,if_neg hu]
    exact h.s u
  ·simp only[M.runT,ht,if_true]
   cases m.runT N _<;>rfl
 end
 theorem pthL_prefix {p q:Pth} (h:pthL p <+: pthL q):p.c0=q.c0∧p.r.length≤q.r.length:=by
  have hl:=h.length_le
  have e:∀ l:List (X×Nat),(l.flatMap fun x=>[x.1,x.2]).length=2 * l.length:=by
   intro l
   induction l with
   |nil=>rfl
   |cons x l ih=>simp [List.flatMap_cons,ih];omega
  simp only[pthL,List.length_cons,e] at hl
  refine ⟨?_,by omega⟩
  obtain ⟨t,ht⟩:=h
  simp [pthL] at ht
  exact ht.1
 theorem leads_of {p q:Pth} (h:pthL p <+: pthL q):leads p q=true:=by
  obtain ⟨h1,h2⟩:=pthL_prefix h
  unfold leads
  split
  ·simp [h1]
  ·simp [h1]
  ·simp only[Bool.and_eq_true,Nat.beq_eq,h1,true_and]
   exact Nat.ble_eq_true_of_le h2
 theorem pthL_len (p:Pth):(pthL p).length=1+2 * p.r.length:=by
  have e:∀ l:List (X×Nat),(l.flatMap fun x=>[x.1,x.2]).length=2 * l.length:=by
   intro l
   induction l with
   |nil=>rfl
   |cons x l ih=>simp [List.flatMap_cons,ih];omega
  simp only[pthL,List.length_cons,e]
  omega
 mutual
 theorem RelV.kill {Q:Nm→Pth→Nat→Prop} (n:Nm) (p:Pth):∀ (v:TV) (lv:LV),RelV Q v lv→RelV (fun m q hi=>Q m q hi∧¬ (m=n∧pthL p <+: pthL q)) (killT n p v) (killV n (pthL p) lv)
  |.c x,lv,h=>by simp only[RelV] at h;subst h;simp only[killT,killV,RelV]
  |.ref m q none,lv,h=>by
   simp only[RelV] at h
   obtain ⟨hi,rfl,h⟩:=h
   rw[killT,killV]
   split
   ·simp only[RelV]
   ·rename_i hc
    have hn:¬ (m=n∧pthL p <+: pthL q):=by
     rintro ⟨h1,h2⟩
     rw[nm_eq.2 h1,leads_of h2] at hc
     cases hc
    rw[if_neg (fun h=>hn ⟨h.1,List.isPrefixOf_iff_prefix.1 h.2⟩)]
    simp only[RelV]
    exact ⟨hi,rfl,h,hn⟩
  |.ref m q (some (lo,hi)),lv,h=>by
   simp only[RelV] at h
   obtain ⟨rfl,h2,L,h3,h4⟩:=h
   rw[killT,killV]
   split
   ·simp only[RelV]
   ·rename_i hc
    have hn:¬ (m=n∧pthL p <+: pthL q):=by
     rintro ⟨h1,h2⟩
     rw[nm_eq.2 h1,leads_of h2] at hc
     cases hc
    rw[if_neg (fun h=>hn ⟨h.1,List.isPrefixOf_iff_prefix.1 h.2⟩)]
    simp only[RelV]
    exact ⟨trivial,h2,L,h3,h4,hn⟩
  |.addr m q,lv,h=>by
   simp only[RelV] at h
   subst h
   rw[killT,killV]
   split
   ·simp only[RelV]
   ·rename_i hc
    rw[if_neg]
    ·simp only[RelV]
    rintro ⟨h1,h2,h3⟩
    rw[pthL_len,pthL_len] at h3
    have:Nat.blt p.r.length q.r.length=true:=by
     simp only[Nat.blt_eq];omega
    rw[nm_eq.2 h1,leads_of (List.isPrefixOf_iff_prefix.1 h2),this] at hc
    cases hc
  |.raddr cs,lv,h=>by
   simp only[RelV] at h
   subst h
   simp only[killT,killV,RelV]
  |.agg xs,lv,h=>by
   simp only[RelV] at h
   obtain ⟨vs,rfl,h⟩:=h
   simp only[killT,killV,RelV]
   exact ⟨_,rfl,RelVs.kill n p xs vs h⟩
  |.tup xs,lv,h=>by
   simp only[RelV] at h
   obtain ⟨vs,rfl,h⟩:=h
   simp only[killT,killV,RelV]
   exact ⟨_,rfl,RelVs.kill n p xs vs h⟩
  |.va xs,lv,h=>by
   simp only[RelV] at h
   obtain ⟨vs,rfl,h⟩:=h
   simp only[killT,killV,RelV]
   exact ⟨_,rfl,RelVs.kill n p xs vs h⟩
  |.fn g xs,lv,h=>by
   simp only[RelV] at h
   obtain ⟨vs,rfl,h⟩:=h
   simp only[killT,killV,RelV]
   exact ⟨_,rfl,RelVs.kill n p xs vs h⟩
  |.dead,lv,h=>by simp only[killT,RelV]
 theorem RelVs.kill {Q:Nm→Pth→Nat→Prop} (n:Nm) (p:Pth):∀ (xs:List TV) (vs:List LV),RelVs Q xs vs→RelVs (fun m q hi=>Q m q hi∧¬ (m=n∧pthL p <+: pthL q)) (killTs n p xs) (killVs n (pthL p) vs)
  |[],vs,h=>by simp only[RelVs] at h;subst h;simp only[killTs,killVs,RelVs]
  |x :: xs,[],h=>by simp only[RelVs] at h
  |x :: xs,v :: vs,h=>by
   simp only[RelVs] at h
   simp only[killTs,killVs,RelVs]
   exact ⟨RelV.kill n p x v h.1,RelVs.kill n p xs vs h.2⟩
 end
 mutual
 theorem RelV.killA {Q:Nm→Pth→Nat→Prop} (n:Nm):∀ (v:TV) (lv:LV),RelV Q v lv→RelV (fun m q hi=>Q m q hi∧m≠n) (TM.killA n v) (killV n [] lv)
  |.c x,lv,h=>by simp only[RelV] at h;subst h;simp only[TM.killA,killV,RelV]
  |.ref m q none,lv,h=>by
   simp only[RelV] at h
   obtain ⟨hi,rfl,h⟩:=h
   rw[TM.killA,killV]
   split
   ·simp only[RelV]
   ·rename_i hc
    have hn:m≠n:=by
     intro h1
     rw[nm_eq.2 h1] at hc
     cases hc
    rw[if_neg (fun h=>hn h.1)]
    simp only[RelV]
    exact ⟨hi,rfl,h,hn⟩
  |.ref m q (some (lo,hi)),lv,h=>by
   simp only[RelV] at h
   obtain ⟨rfl,h2,L,h3,h4⟩:=h
   rw[TM.killA,killV]
   split
   ·simp only[RelV]
   ·rename_i hc
    have hn:m≠n:=by
     intro h1
     rw[nm_eq.2 h1] at hc
     cases hc
    rw[if_neg (fun h=>hn h.1)]
    simp only[RelV]
    exact ⟨trivial,h2,L,h3,h4,hn⟩
  |.addr m q,lv,h=>by
   simp only[RelV] at h
   subst h
   rw[TM.killA,killV]
   split
   ·simp only[RelV]
   ·rename_i hc
    rw[if_neg]
    ·simp only[RelV]
    rintro ⟨h1,_⟩
    rw[nm_eq.2 h1] at hc
    cases hc
  |.raddr cs,lv,h=>by
   simp only[RelV] at h
   subst h
   simp only[TM.killA,killV,RelV]
  |.agg xs,lv,h=>by
   simp only[RelV] at h
   obtain ⟨vs,rfl,h⟩:=h
   simp only[TM.killA,killV,RelV]
   exact ⟨_,rfl,RelVs.killA n xs vs h⟩
  |.tup xs,lv,h=>by
   simp only[RelV] at h
   obtain ⟨vs,rfl,h⟩:=h
   simp only[TM.killA,killV,RelV]
   exact ⟨_,rfl,RelVs.killA n xs vs h⟩
  |.va xs,lv,h=>by
   simp only[RelV] at h
   obtain ⟨vs,rfl,h⟩:=h
   simp only[TM.killA,killV,RelV]
   exact ⟨_,rfl,RelVs.killA n xs vs h⟩
  |.fn g xs,lv,h=>by
   simp only[RelV] at h
   obtain ⟨vs,rfl,h⟩:=h
   simp only[TM.killA,killV,RelV]
   exact ⟨_,rfl,RelVs.killA n xs vs h⟩
  |.dead,lv,h=>by simp only[TM.killA,RelV]
 theorem RelVs.killA {Q:Nm→Pth→Nat→Prop} (n:Nm):∀ (xs:List TV) (vs:List LV),RelVs Q xs vs→RelVs (fun m q hi=>Q m q hi∧m≠n) (killAs n xs) (killVs n [] vs)
  |[],vs,h=>by simp only[RelVs] at h;subst h;simp only[killAs,killVs,RelVs]
  |x :: xs,[],h=>by simp only[RelVs] at h
  |x :: xs,v :: vs,h=>by
   simp only[RelVs] at h
   simp only[killAs,killVs,RelVs]
   exact ⟨RelV.killA n x v h.1,RelVs.killA n xs vs h.2⟩
 end
 theorem look_killS (f:TV→TV) (hf:f .dead=.dead):∀ (l:List (Nat×TV)) (t:Nat),lookS (killS f l) t=f (lookS l t)
  |[],t=>by simp [killS,lookS,hf]
  |(u,v) :: l,t=>by
   simp only[killS,lookS]
   cases Nat.beq u t with
   |true=>rfl
   |false=>exact look_killS f hf l t
 theorem encs_drop (cs:List Cl) (c:Nat):(encs cs).drop c=encs (cs.drop c):=by simp [encs]
 theorem encs_set (cs:List Cl) (c:Nat) (x:Cl):(encs cs).set c x.enc=encs (cs.set c x):=by simp [encs,List.map_set]
 theorem encs_take (cs:List Cl) (c:Nat):(encs cs).take c=encs (cs.take c):=by simp [encs]
 def pthR (r:List (X×Nat)):List Nat:=r.flatMap fun x=>[x.1,x.2]
 theorem atN_some {ρ α:Type} {l:List α} {i:Nat} {k:α→Option ρ} {r:ρ} (h:atN l i k=some r):∃ e,l[i]?=some e∧k e=some r:=by
  unfold atN at h
  split at h
  ·exact ⟨_,by assumption,h⟩
  ·cases h
 theorem enc_sl {row:List ST} {f:Fl} {fs:List Fg} {l:V (.sl row)}:(Cl.mk (.sl row) (.sl f fs) l).enc=.sl f ((lis row l).map fun e=>encR row fs e):=rfl
 theorem hs_enc {c:Nat} {row:List ST} {fs:List Fg} {v:V (.hs c row)}:(Cl.mk (.hs c row) (.sl .own fs) v).enc=.sl .own (holeL c (hsI c row v) ((lis row (hsL c row v)).map fun e=>encR row fs e)):=by
  simp only[Cl.enc,encT]
 theorem holeL_get {c i:Nat} {es:List (List T)} {e:List T} (h:es[i]?=some e):(holeL c i es)[i]?=some (e.set c .hole):=by
  unfold holeL
  rw[h]
  simp [(List.getElem?_eq_some_iff.1 h).1]
 theorem holeL_at {c i j:Nat} {es:List (List T)} {e:List T} (h:es[j]?=some e):∃ e',(holeL c i es)[j]?=some e'∧e'.length=e.length:=by
  unfold holeL
  cases hi:es[i]? with
  |none=>exact ⟨e,h,rfl⟩
  |some e0=>
   simp only
   by_cases hij:i=j
   ·subst hij
    rw[h] at hi
    cases hi
    exact ⟨e.set c .hole,by simp [(List.getElem?_eq_some_iff.1 h).1],by simp⟩
   ·exact ⟨e,by rw[List.getElem?_set,if_neg hij];exact h,rfl⟩
 theorem ite_some {ρ:Type} {c:V .bool} {k:Res ρ} {n:Nat} {y:ρ} (h:ite_ c k (fail n)=some y):c=true∧k=some y:=by
  unfold ite_ at h
  cases c with
  |true=>exact ⟨rfl,h⟩
  |false=>cases h
 theorem xeq_some {i j:X} (h:xeq i j=true):i=j:=by
  have:((show Nat from i)==(show Nat from j))=true:=h
  exact Nat.eq_of_beq_eq_true (by simpa using this)
 theorem getAt_ref {ρ:Type}:∀ (r:List (X×Nat)) (cs:List Cl) (c:Nat) {k:List Cl→Res ρ} {y:ρ},getAt cs c r k=some y →
   ∃ row,k row=some y∧rowAt (encs cs) (c :: pthR r)=some (encs row)
  |[],cs,c,k,y,h=>⟨cs.drop c,h,by simp [pthR,rowAt,encs_drop]⟩
  |(i,c') :: r,cs,c,k,y,h=>by
   simp only[getAt] at h
   split at h
   ·rename_i row fs l rest hdr
    unfold lgetN at h
    obtain ⟨e,he,hk⟩:=atN_some h
    obtain ⟨row',h1,h2⟩:=getAt_ref r _ c' hk
    refine ⟨row',h1,?_⟩
    have hd:(encs cs).drop c=.sl .own ((lis row l).map fun e=>encR row fs e) :: encs rest:=by
     rw[encs_drop,hdr];rfl
    show rowAt (encs cs) (c :: i :: (c' :: pthR r))=_
    simp only[rowAt,hd]
    have he':((lis row l).map fun e=>encR row fs e)[i]?=some (encR row fs e):=by
     rw[List.getElem?_map,show (lis row l)[i]?=some e from he];rfl
    rw[he']
    simp only
    rw[← encs_cellsOf]
    exact h2
   ·rename_i c1 row fs v rest hdr
    obtain ⟨hx,h⟩:=ite_some h
    have hx:=xeq_some hx
    unfold lgetN at h
    obtain ⟨e,he,hk⟩:=atN_some h
    obtain ⟨row',h1,h2⟩:=getAt_ref r _ c' hk
    refine ⟨row',h1,?_⟩
    have hd:(encs cs).drop c=(Cl.mk (.hs c1 row) (.sl .own fs) v).enc :: encs rest:=by
     rw[encs_drop,hdr];rfl
    show rowAt (encs cs) (c :: i :: (c' :: pthR r))=_
    rw[hs_enc,← hx] at hd
    simp only[rowAt,hd]
    have he':((lis row (hsL c1 row v)).map fun e=>encR row fs e)[i]?=some (encR row fs e):=by
     rw[List.getElem?_map,show (lis row (hsL c1 row v))[i]?=some e from he];rfl
    rw[holeL_get he']
    simp only
    rw[← encs_cellsOf,show (T.hole)=(Cl.mk .hole .z emptyR).enc from rfl,encs_set]
    exact h2
   ·cases h
 theorem rowAt_setAt:∀ (p q:List Nat) {cs cs':List T} {x:T} {es:List (List T)} {r:List T},setAt cs p x=some cs'→¬ p <+: q→rowAt cs q=some (.sl .own es :: r) →
   ∃ es' r',rowAt cs' q=some (.sl .own es' :: r')∧es'.length=es.length
  |[],_,_,_,_,_,_,h,_,_=>by simp [setAt] at h
  |[c],q,cs,cs',x,es,r,h,hp,hr=>by
   obtain ⟨hc,rfl⟩:=setAt_lt h
   match q,hr with
   |[],hr=>simp [rowAt] at hr
   |[d],hr=>
    have hcd:c≠d:=fun e=>hp (by subst e;exact List.prefix_refl _)
    simp only[rowAt,Option.some.injEq] at hr
    have hd:=drop_head hr
    have:(cs.set c x)[d]?=some (.sl .own es):=by rw[List.getElem?_set,if_neg hcd];exact hd
    exact ⟨es,_,by simp only[rowAt];rw[head_drop this],rfl⟩
   |d :: i :: rest,hr=>
    have hcd:c≠d:=fun e=>hp (by subst e;exact ⟨i :: rest,rfl⟩)
    simp only[rowAt] at hr
    split at hr
    ·rename_i es0 r0 hdr
     have hd:=drop_head hdr
     have:(cs.set c x)[d]?=some (.sl .own es0):=by rw[List.getElem?_set,if_neg hcd];exact hd
     refine ⟨es,r,?_,rfl⟩
     simp only[rowAt]
     rw[head_drop this]
     exact hr
    ·cases hr
  |c :: i :: rest,q,cs,cs',x,es,r,h,hp,hr=>by
   simp only[setAt] at h
   split at h
   ·rename_i es0 r0 hdr
    split at h
    ·rename_i e he
     split at h
     ·rename_i e' he'
      cases h
      have hd0:=drop_head hdr
      have hclt:c<cs.length:=(List.getElem?_eq_some_iff.1 hd0).1
      match q,hr with
      |[],hr=>simp [rowAt] at hr
      |[d],hr=>
       simp only[rowAt,Option.some.injEq] at hr
       have hd:=drop_head hr
       by_cases hcd:c=d
       ·subst hcd
        obtain rfl:es0=es:=by rw[hd0] at hd;simpa using hd
        have:(cs.set c (.sl .own (es0.set i e')))[c]?=some (.sl .own (es0.set i e')):=by simp [hclt]
        exact ⟨es0.set i e',_,by simp only[rowAt];rw[head_drop this],by simp⟩
       ·have:(cs.set c (.sl .own (es0.set i e')))[d]?=some (.sl .own es):=by rw[List.getElem?_set,if_neg hcd];exact hd
        exact ⟨es,_,by simp only[rowAt];rw[head_drop this],rfl⟩
      |d :: j :: rest',hr=>
       simp only[rowAt] at hr
       split at hr
       ·rename_i es1 r1 hdr1
        have hd:=drop_head hdr1
        by_cases hcd:c=d
        ·subst hcd
         obtain rfl:es0=es1:=by rw[hd0] at hd;simpa using hd
         split at hr
         ·rename_i e1 he1
          have:(cs.set c (.sl .own (es0.set i e')))[c]?=some (.sl .own (es0.set i e')):=by simp [hclt]
          by_cases hij:i=j
          ·subst hij
           rw[he] at he1
           cases he1
           obtain ⟨es2,r2,k1,k2⟩:=rowAt_setAt rest rest' he' (fun hpre=>hp (List.cons_prefix_cons.2 ⟨rfl,List.cons_prefix_cons.2 ⟨rfl,hpre⟩⟩)) hr
           refine ⟨es2,r2,?_,k2⟩
           have hilt:i<es0.length:=(List.getElem?_eq_some_iff.1 he).1
           simp only[rowAt]
           rw[head_drop this]
           simp only[List.getElem?_set,if_true,hilt]
           exact k1
          ·refine ⟨es,r,?_,rfl⟩
           simp only[rowAt]
           rw[head_drop this]
           simp only[List.getElem?_set,if_neg hij,he1]
           exact hr
         ·cases hr
        ·have:(cs.set c (.sl .own (es0.set i e')))[d]?=some (.sl .own es1):=by rw[List.getElem?_set,if_neg hcd];exact hd
         refine ⟨es,r,?_,rfl⟩
         simp only[rowAt]
         rw[head_drop this]
         exact hr
       ·cases hr
     ·cases h
    ·cases h
   ·cases h
 theorem rowAt_hole:∀ (q:List Nat) {cs:List T} {c:Nat} {es:List (List T)} {r:List T},rowAt (cs.set c .hole) q=some (.sl .own es :: r)→∃ r',rowAt cs q=some (.sl .own es :: r')
  |[],_,_,_,_,h=>by simp [rowAt] at h
  |[d],cs,c,es,r,h=>by
   simp only[rowAt,Option.some.injEq] at h
   have hd:=drop_head h
   rw[List.getElem?_set] at hd
   split at hd
   ·split at hd<;>cases hd
   ·exact ⟨_,by simp only[rowAt];rw[head_drop hd]⟩
  |d :: i :: rest,cs,c,es,r,h=>by
   simp only[rowAt] at h
   split at h
   ·rename_i es0 r0 hdr
    have hd:=drop_head hdr
    rw[List.getElem?_set] at hd
    split at hd
    ·split at hd<;>cases hd
    ·refine ⟨r,?_⟩
     simp only[rowAt]
     rw[head_drop hd]
     exact h
   ·cases h
 theorem rowAt_holeD:∀ (p q:List Nat) {cs cs':List T} {es':List (List T)} {r':List T},setAt cs p .hole=some cs'→rowAt cs' q=some (.sl .own es' :: r')→∃ es r,rowAt cs q=some (.sl .own es :: r)∧es.length=es'.length
  |[],_,_,_,_,_,h,_=>by simp [setAt] at h
  |[c],q,cs,cs',es',r',h,hr=>by
   obtain ⟨hc,rfl⟩:=setAt_lt h
   obtain ⟨r,h1⟩:=rowAt_hole q hr
   exact ⟨_,_,h1,rfl⟩
  |c :: i :: rest,q,cs,cs',es',r',h,hr=>by
   simp only[setAt] at h
   split at h
   ·rename_i es0 r0 hd
    split at h
    ·rename_i e he
     split at h
     ·rename_i e1 he1
      cases h
      have hlt:c<cs.length:=by
       rcases Nat.lt_or_ge c cs.length with h | h
       ·exact h
       ·rw[List.drop_eq_nil_of_le h] at hd;cases hd
      match q,hr with
      |[],hr=>simp [rowAt] at hr
      |[d],hr=>
       simp only[rowAt,Option.some.injEq] at hr
       have hd2:=drop_head hr
       rw[List.getElem?_set] at hd2
       by_cases hcd:c=d
       ·subst hcd
        rw[if_pos rfl,if_pos hlt] at hd2
        cases hd2
        exact ⟨es0,r0,by simp only[rowAt];rw[hd],by simp⟩
       ·rw[if_neg hcd] at hd2
        exact ⟨es',_,by simp only[rowAt];rw[head_drop hd2],rfl⟩
      |d :: j :: q',hr=>
       simp only[rowAt] at hr
       split at hr
       ·rename_i es1 r1 hdr
        have hd2:=drop_head hdr
        rw[List.getElem?_set] at hd2
        by_cases hcd:c=d
        ·subst hcd
         rw[if_pos rfl,if_pos hlt] at hd2
         cases hd2
         rw[List.getElem?_set] at hr
         by_cases hij:i=j
         ·subst hij
          rw[if_pos rfl,if_pos (List.getElem?_eq_some_iff.1 he).1] at hr
          simp only at hr
          obtain ⟨es,r,h1,h2⟩:=rowAt_holeD rest q' he1 hr
          refine ⟨es,r,?_,h2⟩
          simp only[rowAt]
          rw[hd]
          simp only[he]
          exact h1
         ·rw[if_neg hij] at hr
          refine ⟨es',r',?_,rfl⟩
          simp only[rowAt]
          rw[hd]
          exact hr
        ·rw[if_neg hcd] at hd2
         refine ⟨es',r',?_,rfl⟩
         simp only[rowAt]
         rw[head_drop hd2]
         exact hr
       ·cases hr
     ·cases h
    ·cases h
   ·cases h
 end TM
 namespace TM
 open Go
 section
 variable {ρ γ:Type} {N:Nat} {vs vs':VS} {st st':St} {m:M γ} {y:ρ}
 def St.kb (st:St) (n:Nm) (p:List Nat) (x:Box):St:=⟨fun u=>killV n p (st.s u),fun k=>if k=n then x else st.b k⟩
 def SameB (p:Pth) (old new:List T):Prop:=∀ (q:Pth) (es:List (List T)) (r:List T),¬ pthL p <+: pthL q→rowAt old (pthL q)=some (.sl .own es :: r)→∃ es' r',rowAt new (pthL q)=some (.sl .own es' :: r')∧es'.length=es.length
 theorem rel_kb (R:Rel vs st) {n:Nm} {p:Pth} {x:VB} {lg:List Ft} (hs:SameB p (st.b n).cells (encs x.cells)) :
   Rel ⟨killS (killT n p) vs.s,(n,x) :: vs.b,lg⟩ (st.kb n (pthL p) ⟨x.real,encs x.cells⟩):=by
  refine ⟨fun t=>?_,fun k z hz=>?_⟩
  ·rw[look_killS _ (by simp [killT])]
   refine RelV.mono (fun k q hi h=>?_) _ _ (RelV.kill n p _ _ (R.s t))
   obtain ⟨⟨es,r,h1,h2⟩,h3⟩:=h
   by_cases hk:k=n
   ·subst hk
    obtain ⟨es',r',k1,k2⟩:=hs q es r (fun hp=>h3 ⟨rfl,hp⟩) h1
    exact ⟨es',r',by simpa [St.kb] using k1,by rw[h2,k2]⟩
   ·exact ⟨es,r,by simpa [St.kb,hk] using h1,h2⟩
  ·simp only[lookB] at hz
   by_cases hk:k=n
   ·subst hk
    rw[nm_eq.2 rfl] at hz
    cases hz
    simp [St.kb]
   ·have:nmEq n k=false:=by
     cases h:nmEq n k with
     |false=>rfl
     |true=>exact absurd (nm_eq.1 h).symm hk
    rw[this] at hz
    simpa [St.kb,hk] using R.b k z hz
 theorem go_killB (R:Rel vs st) {n:Nm} {p:Pth} {x:VB} (hs:SameB p (st.b n).cells (encs x.cells)) :
   Go1 N vs st (.kill n (pthL p) (.wrB n ⟨x.real,encs x.cells⟩ m)) ⟨killS (killT n p) vs.s,(n,x) :: vs.b,.wB n :: .kp n p :: vs.lg⟩ (st.kb n (pthL p) ⟨x.real,encs x.cells⟩) m:=by
  refine ⟨rel_kb R hs,[.kl n (pthL p),.wB n ⟨x.real,encs x.cells⟩],?_,[.wB n,.kp n p],rfl,?_⟩
  ·simp only[M.runT,St.kb]
   cases m.runT N _<;>rfl
  ·intro a ha
   simp only[List.mem_cons,List.not_mem_nil,or_false] at ha
   rcases ha with rfl | rfl
   ·exact ⟨.kp n p,by simp,rfl,rfl⟩
   ·exact ⟨.wB n,by simp,rfl⟩
 theorem go_Bkill (R:Rel vs st) {n:Nm} {p:Pth} {x:VB} (hs:SameB p (st.b n).cells (encs x.cells)) :
   Go1 N vs st (.wrB n ⟨x.real,encs x.cells⟩ (.kill n (pthL p) m)) ⟨killS (killT n p) vs.s,(n,x) :: vs.b,.kp n p :: .wB n :: vs.lg⟩ (st.kb n (pthL p) ⟨x.real,encs x.cells⟩) m:=by
  refine ⟨rel_kb R hs,[.wB n ⟨x.real,encs x.cells⟩,.kl n (pthL p)],?_,[.kp n p,.wB n],rfl,?_⟩
  ·simp only[M.runT,St.kb]
   cases m.runT N _<;>rfl
  ·intro a ha
   simp only[List.mem_cons,List.not_mem_nil,or_false] at ha
   rcases ha with rfl | rfl
   ·exact ⟨.wB n,by simp,rfl⟩
   ·exact ⟨.kp n p,by simp,rfl,rfl⟩
 theorem go_Dkill (R:Rel vs st) {n:Nm} {p:Pth} {x:VB} (hs:SameB p (st.b n).cells (encs x.cells)) (hset:setAt (st.b n).cells (pthL p) .hole=some (encs x.cells)) (hre:(st.b n).real=x.real) (hl:(pthL p).length≠1) :
   Go1 N vs st (.hoB n (pthL p) (.kill n (pthL p) m)) ⟨killS (killT n p) vs.s,(n,x) :: vs.b,.kp n p :: .wD n :: vs.lg⟩ (st.kb n (pthL p) ⟨x.real,encs x.cells⟩) m:=by
  refine ⟨rel_kb R hs,[.ho n (pthL p),.kl n (pthL p)],?_,[.kp n p,.wD n],rfl,?_⟩
  ·simp only[M.runT,St.kb,hset,Option.isSome_some,if_true,Option.getD_some,hre]
   cases m.runT N _<;>rfl
  ·intro a ha
   simp only[List.mem_cons,List.not_mem_nil,or_false] at ha
   rcases ha with rfl | rfl
   ·exact ⟨.wD n,by simp,rfl,hl⟩
   ·exact ⟨.kp n p,by simp,rfl,rfl⟩
 theorem rowAt_thru:∀ (p q:List Nat) {cs:List T} {old:T} {r0:List T} {es:List (List T)} {r:List T},rowAt cs p=some (old :: r0)→p <+: q→rowAt cs q=some (.sl .own es :: r)→∃ es',old=.sl .own es'
  |[],_,_,_,_,_,_,h,_,_=>by simp [rowAt] at h
  |[c],[],_,_,_,_,_,_,h,_=>by simp at h
  |[c],[d],cs,old,r0,es,r,h1,h2,h3=>by
   obtain ⟨rfl,_⟩:=List.cons_prefix_cons.1 h2
   rw[h1] at h3
   cases h3
   exact ⟨es,rfl⟩
  |[c],d :: i :: rest,cs,old,r0,es,r,h1,h2,h3=>by
   obtain ⟨rfl,_⟩:=List.cons_prefix_cons.1 h2
   simp only[rowAt,Option.some.injEq] at h1
   simp only[rowAt,h1] at h3
   split at h3
   ·rename_i es0 _ heq
    cases heq
    exact ⟨_,rfl⟩
   ·cases h3
  |c :: i :: p,[],_,_,_,_,_,_,h,_=>by simp at h
  |c :: i :: p,[d],_,_,_,_,_,_,h,_=>by simp at h
  |c :: i :: p,d :: j :: q,cs,old,r0,es,r,h1,h2,h3=>by
   obtain ⟨e1,h4⟩:=List.cons_prefix_cons.1 h2
   obtain ⟨e2,h5⟩:=List.cons_prefix_cons.1 h4
   subst e1
   subst e2
   simp only[rowAt] at h1 h3
   split at h1
   ·rename_i es0 _ hdr
    rw[hdr] at h3
    simp only at h3
    split at h1
    ·rename_i e he
     rw[he] at h3
     exact rowAt_thru p q h1 h5 h3
    ·cases h1
   ·cases h1
 theorem go_wrB (R:Rel vs st) {n:Nm} {p:Pth} {x:VB} {old:T} {r0:List T} (hr:rowAt (st.b n).cells (pthL p)=some (old :: r0)) (ho:∀ es,old≠.sl .own es) (hs:SameB p (st.b n).cells (encs x.cells)) :
   Go1 N vs st (.wrB n ⟨x.real,encs x.cells⟩ m) ⟨vs.s,(n,x) :: vs.b,.wB n :: vs.lg⟩ ⟨st.s,fun k=>if k=n then ⟨x.real,encs x.cells⟩ else st.b k⟩ m:=by
  refine ⟨⟨fun t=>?_,fun k z hz=>?_⟩,[.wB n ⟨x.real,encs x.cells⟩],?_,.one (f:=.wB n) rfl⟩
  ·refine RelV.mono (fun k q hi h=>?_) _ _ (R.s t)
   obtain ⟨es,r,h1,h2⟩:=h
   by_cases hk:k=n
   ·subst hk
    obtain ⟨es',r',k1,k2⟩:=hs q es r (fun hp=>by
     obtain ⟨es',h⟩:=rowAt_thru _ _ hr hp h1
     exact ho es' h) h1
    exact ⟨es',r',by simpa using k1,by rw[h2,k2]⟩
   ·exact ⟨es,r,by simpa [hk] using h1,h2⟩
  ·simp only[lookB] at hz
   by_cases hk:k=n
   ·subst hk
    rw[nm_eq.2 rfl] at hz
    cases hz
    simp
   ·have:nmEq n k=false:=by
     cases h:nmEq n k with
     |false=>rfl
     |true=>exact absurd (nm_eq.1 h).symm hk
    rw[this] at hz
    simpa [hk] using R.b k z hz
  ·simp only[M.runT]
   cases m.runT N _<;>rfl
 theorem go_fresh (R:Rel vs st) {d:Nat} {x:VB} {k:Co ρ} (h:freshT d x k vs=some y) :
   ∃ vs',k vs'=some y∧Go1 N vs st (fresh d ⟨x.real,encs x.cells⟩ m) vs' ⟨fun u=>killV (d,0) [] (st.s u),fun k=>if k=(d,0) then ⟨x.real,encs x.cells⟩ else st.b k⟩ m:=by
  refine ⟨_,h,⟨⟨fun t=>?_,fun k z hz=>?_⟩,[.kl (d,0) [],.wB (d,0) ⟨x.real,encs x.cells⟩],?_,[.wB (d,0),.kl (d,0)],rfl,?_⟩⟩
  ·simp only
   rw[look_killS _ (by simp [killA])]
   refine RelV.mono (fun k q hi h=>?_) _ _ (RelV.killA (d,0) _ _ (R.s t))
   obtain ⟨⟨es,r,h1,h2⟩,h3⟩:=h
   exact ⟨es,r,by simpa [h3] using h1,h2⟩
  ·simp only[lookB] at hz
   by_cases hk:k=(d,0)
   ·subst hk
    rw[nm_eq.2 rfl] at hz
    cases hz
    simp
   ·have:nmEq (d,0) k=false:=by
     cases h:nmEq (d,0) k with
     |false=>rfl
     |true=>exact absurd (nm_eq.1 h).symm hk
    rw[this] at hz
    simpa [hk] using R.b k z hz
  ·simp only[fresh,M.runT]
   cases m.runT N _<;>rfl
  ·intro a ha
   simp only[List.mem_cons,List.not_mem_nil,or_false] at ha
   rcases ha with rfl | rfl
   ·exact ⟨.kl (d,0),by simp,rfl,rfl⟩
   ·exact ⟨.wB (d,0),by simp,rfl⟩
 theorem own_enc {c:Cl} (h:c.own=true):∃ es,c.enc=.sl .own es:=by
  obtain ⟨t,f,x⟩:=c
  cases t<;>first | (simp [Cl.own] at h;done) | skip
  cases f with
  |sl f fs=>cases f<;>simp [Cl.own] at h<;>simp [Cl.enc,encT]
  |z=>simp [Cl.enc,encT]
  |nil=>simp [Cl.enc,encT]
  |pt f fs=>simp [Cl.enc,encT]
  |fn fs=>simp [Cl.enc,encT]
 theorem ownH_enc {c:Cl}:c.ownH=true↔∃ es,c.enc=.sl .own es:=by
  obtain ⟨t,f,x⟩:=c
  cases t with
  |sl row=>
   cases f with
   |sl f fs=>cases f<;>simp [Cl.ownH,Cl.own,Cl.enc,encT]
   |z=>simp [Cl.ownH,Cl.own,Cl.enc,encT]
   |nil=>simp [Cl.ownH,Cl.own,Cl.enc,encT]
   |pt f fs=>simp [Cl.ownH,Cl.own,Cl.enc,encT]
   |fn fs=>simp [Cl.ownH,Cl.own,Cl.enc,encT]
  |hs c row=>
   cases f with
   |sl f fs=>cases f<;>simp [Cl.ownH,Cl.enc,encT]
   |z=>simp [Cl.ownH,Cl.enc,encT]
   |nil=>simp [Cl.ownH,Cl.enc,encT]
   |pt f fs=>simp [Cl.ownH,Cl.enc,encT]
   |fn fs=>simp [Cl.ownH,Cl.enc,encT]
  |int k=>simp [Cl.ownH,Cl.own,Cl.enc,encT]
  |bool=>simp [Cl.ownH,Cl.own,Cl.enc,encT]
  |str=>simp [Cl.ownH,Cl.own,Cl.enc,encT]
  |hole=>simp [Cl.ownH,Cl.own,Cl.enc,encT]
  |pt row=>cases f<;>simp [Cl.ownH,Cl.own,Cl.enc,encT]
  |fn g row=>cases f<;>simp [Cl.ownH,Cl.own,Cl.enc,encT]
 theorem ownF_enc {row:List ST} {f:Fg} {l:V (.sl row)} (h:ownF f=true):∃ es,(Cl.mk (.sl row) f l).enc=.sl .own es:=by
  refine own_enc ?_
  cases f with
  |sl f fs=>cases f<;>simp [ownF] at h<;>rfl
  |nil=>rfl
  |z=>simp [ownF] at h
  |pt f fs=>simp [ownF] at h
  |fn fs=>simp [ownF] at h
 theorem solid_enc {c:Cl} (h:solid c.t c.f=true):c.enc≠.hole:=by
  obtain ⟨t,f,x⟩:=c
  cases t with
  |sl row=>
   cases f with
   |sl f fs=>simp [Cl.enc,encT]
   |z=>simp [Cl.enc,encT]
   |nil=>simp [Cl.enc,encT]
   |pt f fs=>simp [Cl.enc,encT]
   |fn fs=>simp [Cl.enc,encT]
  |int k=>simp [Cl.enc,encT]
  |bool=>simp [Cl.enc,encT]
  |str=>simp [Cl.enc,encT]
  |hole=>simp [solid] at h
  |hs c row=>simp [solid] at h
  |pt row=>cases f<;>simp [solid] at h<;>simp [Cl.enc,encT]
  |fn g row=>cases f<;>simp [solid] at h<;>simp [Cl.enc,encT]
 theorem castV_some {t u:ST} {x:V t} {k:V u→Res ρ} (h:castV t u x k=some y):∃ e:t=u,k (e ▸ x)=some y:=by
  unfold castV at h
  split at h
  ·exact ⟨_,h⟩
  ·cases h
 theorem castL_some {r r':List ST} {x:V (.sl r)} {k:V (.sl r')→Res ρ} (h:castL r r' x k=some y):∃ e:r=r',k (e ▸ x)=some y:=by
  unfold castL at h
  split at h
  ·exact ⟨_,h⟩
  ·cases h
 theorem conv_some {t:ST} {f:Fg} {c:Cl} {k:V t→Res ρ} (h:conv t f c k=some y):∃ a,k a=some y∧encT t f a=c.enc:=by
  unfold conv at h
  split at h
  ·rename_i hf
   obtain ⟨e,h⟩:=castV_some h
   refine ⟨_,h,?_⟩
   have hf':=Fg.beq_eq _ _ hf
   subst hf'
   obtain ⟨t0,f0,x0⟩:=c
   simp only at e
   subst e
   rfl
  ·split at h
   ·rename_i h1 h2 h3
    refine ⟨_,h,?_⟩
    obtain ⟨t0,f0,x0⟩:=c
    simp only at h1 h2
    subst h1
    subst h2
    simp [encT,Cl.enc,lnil,lis]
   ·cases h
 theorem mkRow_some:∀ {r:List ST} {fs:List Fg} {cs:List Cl} {k:R r→Res ρ},mkRow r fs cs k=some y→∃ e,k e=some y∧encR r fs e=encs cs
  |[],[],[],k,h=>⟨emptyR,h,by simp [encR,encs]⟩
  |t :: r,f :: fs,c :: cs,k,h=>by
   simp only[mkRow] at h
   obtain ⟨a,h,h1⟩:=conv_some h
   obtain ⟨b,h,h2⟩:=mkRow_some h
   refine ⟨_,h,?_⟩
   rw[encR,head_cons,tail_cons,h1,h2]
   rfl
  |[],_ :: _,_,_,h=>by simp [mkRow,fail] at h
  |[],[],_ :: _,_,h=>by simp [mkRow,fail] at h
  |_ :: _,[],_,_,h=>by simp [mkRow,fail] at h
  |_ :: _,_ :: _,[],_,h=>by simp [mkRow,fail] at h
 theorem toRow_some:∀ {r:List (ST×Fg)} {cs:List Cl} {k:R (cts r)→Res ρ},toRow r cs k=some y→∃ x,k x=some y∧encs (ofRow r x)=encs cs
  |[],[],k,h=>⟨emptyR,h,by simp [ofRow,encs]⟩
  |(t,f) :: r,c :: cs,k,h=>by
   simp only[toRow] at h
   obtain ⟨a,h,h1⟩:=conv_some h
   obtain ⟨b,h,h2⟩:=toRow_some h
   refine ⟨_,h,?_⟩
   have e:headR t (cts r) (consR t (cts r) a b)=a:=head_cons t _ a b
   have e2:tailR t (cts r) (consR t (cts r) a b)=b:=tail_cons t _ a b
   simp only[encs] at h2
   show encs (⟨t,f,headR t (cts r) (consR t (cts r) a b)⟩ :: ofRow r (tailR t (cts r) (consR t (cts r) a b)))=encs (c :: cs)
   rw[e,e2]
   simp only[encs,List.map_cons,h2]
   rw[show (Cl.mk t f a).enc=c.enc from h1]
  |[],_ :: _,_,h=>by simp [toRow,fail] at h
  |_ :: _,[],_,h=>by simp [toRow,fail] at h
 theorem ofRow_cts:∀ (r:List (ST×Fg)) (x:R (cts r)),(ofRow r x).map (fun c=>(c.t,c.f))=r
  |[],_=>rfl
  |(t,f) :: r,x=>by
   rw[ofRow,List.map_cons,ofRow_cts r]
 theorem putAt_some:∀ (r:List (X×Nat)) {cs:List Cl} {c:Nat} {x:Cl} {k:List Cl→Res ρ},putAt cs c r x k=some y→∃ cs',k cs'=some y∧setAt (encs cs) (c :: pthR r) x.enc=some (encs cs')
  |[],cs,c,x,k,h=>by
   simp only[putAt] at h
   split at h
   ·rename_i hc
    rw[Nat.blt_eq] at hc
    refine ⟨_,h,?_⟩
    show setAt (encs cs) [c] x.enc=_
    rw[setAt,if_pos (by simpa [encs] using hc),encs_set]
   ·cases h
  |(i,c') :: r,cs,c,x,k,h=>by
   simp only[putAt] at h
   split at h
   ·rename_i row fs l rest hdr
    unfold lgetN at h
    obtain ⟨e,he,h⟩:=atN_some h
    obtain ⟨cs1,h,h1⟩:=putAt_some r h
    obtain ⟨e',h,h2⟩:=mkRow_some h
    refine ⟨_,h,?_⟩
    have hd:(encs cs).drop c=.sl .own ((lis row l).map fun e=>encR row fs e) :: encs rest:=by
     rw[encs_drop,hdr];rfl
    show setAt (encs cs) (c :: i :: (c' :: pthR r)) x.enc=_
    simp only[setAt,hd]
    have he':((lis row l).map fun e=>encR row fs e)[i]?=some (encR row fs e):=by
     rw[List.getElem?_map,show (lis row l)[i]?=some e from he];rfl
    rw[he']
    simp only
    rw[← encs_cellsOf,h1]
    simp only
    rw[← encs_set]
    congr 2
    show T.sl .own _=T.sl .own _
    rw[← h2,← List.map_set]
    rfl
   ·rename_i c1 row fs v rest hdr
    obtain ⟨hx,h⟩:=ite_some h
    have hx:=xeq_some hx
    unfold lgetN at h
    obtain ⟨e,he,h⟩:=atN_some h
    obtain ⟨cs1,h,h1⟩:=putAt_some r h
    obtain ⟨e',h,h2⟩:=mkRow_some h
    refine ⟨_,h,?_⟩
    have hd:(encs cs).drop c=(Cl.mk (.hs c1 row) (.sl .own fs) v).enc :: encs rest:=by
     rw[encs_drop,hdr];rfl
    rw[hs_enc,← hx] at hd
    show setAt (encs cs) (c :: i :: (c' :: pthR r)) x.enc=_
    simp only[setAt,hd]
    have he':((lis row (hsL c1 row v)).map fun e=>encR row fs e)[i]?=some (encR row fs e):=by
     rw[List.getElem?_map,show (lis row (hsL c1 row v))[i]?=some e from he];rfl
    rw[holeL_get he']
    simp only
    rw[← encs_cellsOf,show (T.hole)=(Cl.mk .hole .z emptyR).enc from rfl,encs_set,h1]
    simp only
    rw[← encs_set]
    congr 2
    show T.sl .own _=T.sl .own _
    unfold holeL
    rw[he']
    simp only
    rw[← h2,List.set_set,← List.map_set]
    rfl
   ·cases h
 end
 end TM
 namespace TM
 open Go
 theorem bytes_eta (s:ByteArray):(⟨s.data.toList.toArray⟩:ByteArray)=s:=by cases s;simp
 theorem rel_const1 {Q:Nm→Pth→Nat→Prop} (v:Value):RelV Q (ofConst1 v) (.t (ofC v)):=by
  unfold ofConst1
  split
  ·simp only[RelV,Cl.enc,encT,ofC,iLit]
  ·simp only[RelV,Cl.enc,encT,ofC,bLit]
  ·simp only[RelV,Cl.enc,encT,ofC,sLit,bytes_eta]
  ·simp only[RelV,Cl.enc,encT,ofC]
  ·simp only[RelV]
 theorem rel_const {Q:Nm→Pth→Nat→Prop} (v:Value):RelV Q (ofConstT v) (ofConst v):=by
  cases v with
  |agg cs=>
   simp only[ofConstT,ofConst]
   cases h:cs.toList.all (·.oneCell') with
   |false=>simp [RelV]
   |true=>
    simp only[if_true,RelV]
    refine ⟨_,rfl,?_⟩
    induction cs.toList with
    |nil=>simp [RelVs]
    |cons x xs ih=>
     simp only[List.map_cons,RelVs]
     exact ⟨rel_const1 x,ih⟩
  |tuple vs=>simp only[ofConstT,ofConst1,RelV]
  |int k n=>exact rel_const1 (Q:=Q) (.int k n)
  |bool x=>exact rel_const1 (Q:=Q) (.bool x)
  |string s=>exact rel_const1 (Q:=Q) (.string s)
  |float k n=>exact rel_const1 (Q:=Q) (.float k n)
  |complex k n m=>exact rel_const1 (Q:=Q) (.complex k n m)
  |pointer a=>exact rel_const1 (Q:=Q) (.pointer a)
  |slice a l c=>exact rel_const1 (Q:=Q) (.slice a l c)
  |map r=>exact rel_const1 (Q:=Q) (.map r)
  |chan r=>exact rel_const1 (Q:=Q) (.chan r)
  |func f a b=>exact rel_const1 (Q:=Q) (.func f a b)
  |nilFunc=>exact rel_const1 (Q:=Q) (.nilFunc)
  |iface t v=>exact rel_const1 (Q:=Q) (.iface t v)
  |nilIface=>exact rel_const1 (Q:=Q) (.nilIface)
 section
 variable {ρ γ:Type} {N:Nat} {vs vs':VS} {st st':St} {y:ρ}
 def Same (vs vs':VS):Prop:=vs'.s=vs.s∧vs'.b=vs.b
 theorem Same.rfl {vs:VS}:Same vs vs:=⟨Eq.refl _,Eq.refl _⟩
 theorem Same.trans {a b c:VS} (h:Same a b) (k:Same b c):Same a c:=⟨k.1.trans h.1,k.2.trans h.2⟩
 theorem evT_ref {x:Operand} {k:TV→Co ρ} {m:LV→M γ} (h:evT x k vs=some y) (R:Rel vs st) :
   ∃ v lv vs',k v vs'=some y∧RelV (Qs st.b) v lv∧Go1 N vs st (ev x m) vs' st (m lv)∧Same vs vs':=by
  cases x with
  |tmp t=>exact ⟨_,_,_,h,R.s t,go_rdS R,⟨rfl,rfl⟩⟩
  |const v=>exact ⟨_,_,_,h,rel_const v,.refl R,.rfl⟩
  |func f=>exact ⟨.fn f [],.fn (.func f) [],vs,h,(show RelV (Qs st.b) (.fn f []) (.fn (.func f) []) from by simp [RelV,RelVs]),.refl R,.rfl⟩
  |global g=>cases h
 theorem evTs_ref:∀ {xs:List Operand} {vs:VS} {k:List TV→Co ρ} {m:List LV→M γ} (_:evTs xs k vs=some y) (_:Rel vs st),
   ∃ v lv vs',k v vs'=some y∧RelVs (Qs st.b) v lv∧Go1 N vs st (evs xs m) vs' st (m lv)∧Same vs vs'
  |[],vs,k,m,h,R=>⟨[],[],vs,h,by simp [RelVs],.refl R,.rfl⟩
  |x :: xs,vs,k,m,h,R=>by
   obtain ⟨v,lv,vs1,h,hv,g1,s1⟩:=evT_ref (N:=N) (m:=fun v=>evs xs fun vs=>m (v :: vs)) h R
   obtain ⟨us,lus,vs2,h,hu,g2,s2⟩:=evTs_ref (m:=fun vs=>m (lv :: vs)) h g1.rel
   exact ⟨_,_,_,h,by simp only[RelVs];exact ⟨hv,hu⟩,g1.trans g2,s1.trans s2⟩
 def RelPs (Q:Nm→Pth→Nat→Prop):List (Nat×TV)→List (Nat×LV)→Prop
  |[],vs=>vs=[]
  |_ :: _,[]=>False
  |(i,x) :: xs,(j,v) :: vs=>i=j∧RelV Q x v∧RelPs Q xs vs
 theorem RelPs.w {b:Nm→Box}:∀ {v:List (Nat×TV)} {lv:List (Nat×LV)},RelPs (Qs b) v lv→RelPs (Qw b) v lv
  |[],lv,h=>by simp only[RelPs] at *;exact h
  |(i,x) :: xs,[],h=>by simp only[RelPs] at h
  |(i,x) :: xs,(j,v) :: vs,h=>by
   simp only[RelPs] at *
   exact ⟨h.1,h.2.1.w,RelPs.w h.2.2⟩
 theorem evPartsT_ref:∀ {xs:List (Nat×Operand)} {vs:VS} {k:List (Nat×TV)→Co ρ} {m:List (Nat×LV)→M γ} (_:evPartsT xs k vs=some y) (_:Rel vs st),
   ∃ v lv vs',k v vs'=some y∧RelPs (Qs st.b) v lv∧Go1 N vs st (evParts xs m) vs' st (m lv)∧Same vs vs'
  |[],vs,k,m,h,R=>⟨[],[],vs,h,by simp [RelPs],.refl R,.rfl⟩
  |(i,x) :: xs,vs,k,m,h,R=>by
   obtain ⟨v,lv,vs1,h,hv,g1,s1⟩:=evT_ref (N:=N) (m:=fun v=>evParts xs fun vs=>m ((i,v) :: vs)) h R
   obtain ⟨us,lus,vs2,h,hu,g2,s2⟩:=evPartsT_ref (m:=fun vs=>m ((i,lv) :: vs)) h g1.rel
   exact ⟨_,_,_,h,by simp only[RelPs];exact ⟨trivial,hv,hu⟩,g1.trans g2,s1.trans s2⟩
 theorem outT_ref {d:Option Nat} {v:TV} {lv:LV} {k:Co ρ} (h:outT N d v k vs=some y) (R:Rel vs st) (hv:RelV (Qs st.b) v lv) :
   ∃ vs' st',k vs'=some y∧Go1 N vs st (out d lv) vs' st' (.ok ()):=by
  cases d with
  |none=>exact ⟨_,_,h,.refl R⟩
  |some t=>
   simp only[outT,wrS] at h
   split at h
   ·rename_i ht
    exact ⟨_,_,h,go_wrS R (by simpa using ht) hv⟩
   ·cases h
 theorem wrS_ref {t:Nat} {v:TV} {lv:LV} {k:Co ρ} {m:M γ} (h:wrS N t v k vs=some y) (R:Rel vs st) (hv:RelV (Qs st.b) v lv) :
   ∃ vs',k vs'=some y∧Go1 N vs st (.wrS t lv m) vs' ⟨fun u=>if u=t then lv else st.s u,st.b⟩ m:=by
  simp only[wrS] at h
  split at h
  ·rename_i ht
   exact ⟨_,h,go_wrS R (by simpa using ht) hv⟩
  ·cases h
 theorem iteC_ref {c:V .bool} {a b:Co ρ} (h:iteC c a b vs=some y):(c=true∧a vs=some y)∨(c=false∧b vs=some y):=by
  unfold iteC ite_ at h
  cases c with
  |true=>exact .inl ⟨rfl,h⟩
  |false=>exact .inr ⟨rfl,h⟩
 theorem rdB_ref {n:Nm} {k:VB→Co ρ} {m:Box→M γ} (h:rdB n k vs=some y) (R:Rel vs st) :
   ∃ x vs',k x vs'=some y∧(st.b n).real=x.real∧(st.b n).cells=encs x.cells∧Go1 N vs st (.rdB n m) vs' st (m (st.b n))∧Same vs vs':=by
  simp only[rdB] at h
  split at h
  ·rename_i x hx
   obtain ⟨h1,h2⟩:=R.b n x hx
   exact ⟨x,_,h,h1,h2,go_rdB R,⟨rfl,rfl⟩⟩
  ·cases h
 theorem rowC_ref {n:Nm} {p:Pth} {k:List Cl→Co ρ} {m:Box→M γ} (h:rowC n p k vs=some y) (R:Rel vs st) :
   ∃ row vs',k row vs'=some y∧rowAt (st.b n).cells (pthL p)=some (encs row)∧Go1 N vs st (.rdB n m) vs' st (m (st.b n))∧Same vs vs':=by
  obtain ⟨x,vs',h,_,h2,g,s⟩:=rdB_ref (N:=N) (m:=m) h R
  obtain ⟨row,h,h3⟩:=getAt_ref _ _ _ h
  exact ⟨row,vs',h,by rw[h2];exact h3,g,s⟩
 theorem Qw_hole {b:Nm→Box} {n:Nm} {c:Nat} {real:Bool} {m:Nm} {q:Pth} {hi:Nat} (h:Qw b m q hi):Qw (fun k=>if k=n then ⟨real,(b n).cells.set c .hole⟩ else b k) m q hi:=by
  intro es r he
  by_cases hm:m=n
  ·subst hm
   simp only[if_true] at he
   obtain ⟨r',h1⟩:=rowAt_hole _ he
   exact h _ _ h1
  ·simp only[hm,if_false] at he
   exact h _ _ he
 def KeepW (b b':Nm→Box):Prop:=∀ n p hi,Qw b n p hi→Qw b' n p hi
 theorem KeepW.rfl {b:Nm→Box}:KeepW b b:=fun _ _ _ h=>h
 theorem KeepW.trans {a b c:Nm→Box} (h:KeepW a b) (k:KeepW b c):KeepW a c:=fun _ _ _ hq=>k _ _ _ (h _ _ _ hq)
 theorem KeepW.v {b b':Nm→Box} (h:KeepW b b') {v:TV} {lv:LV} (hv:RelV (Qw b) v lv):RelV (Qw b') v lv:=RelV.mono h _ _ hv
 theorem KeepW.lst {b b':Nm→Box} (h:KeepW b b') {v:List TV} {lv:List LV} (hv:RelVs (Qw b) v lv):RelVs (Qw b') v lv:=RelVs.mono h _ _ hv
 theorem KeepW.ps {b b':Nm→Box} (h:KeepW b b'):∀ {v:List (Nat×TV)} {lv:List (Nat×LV)},RelPs (Qw b) v lv→RelPs (Qw b') v lv
  |[],lv,hv=>by simp only[RelPs] at *;exact hv
  |(i,x) :: xs,[],hv=>by simp only[RelPs] at hv
  |(i,x) :: xs,(j,v) :: vs,hv=>by
   simp only[RelPs] at *
   exact ⟨hv.1,h.v hv.2.1,h.ps hv.2.2⟩
 theorem close_box {n:Nm} {c hi:Nat} {bx:VB} {row:List ST} {f:Fg} {l:V (.sl row)} {rest:List Cl} {k:Cl→Co ρ} {m:T→M γ}
   (h:wrB n ⟨bx.real,bx.cells.set c ⟨.hole,.z,emptyR⟩⟩ (kill n ⟨c,[]⟩ (k ⟨.sl row,f,l⟩)) vs=some y) (R:Rel vs st) (hre:(st.b n).real=bx.real) (hce:(st.b n).cells=encs bx.cells)
   (hdr:bx.cells.drop c=⟨.sl row,f,l⟩ :: rest) (hf:ownF f=true) (hw:Qw st.b n ⟨c,[]⟩ hi) :
   ∃ vs' st',k ⟨.sl row,f,l⟩ vs'=some y∧Go1 N vs st (match rowAt (st.b n).cells (pthL ⟨c,[]⟩) with
        |some (.sl .own es :: _)=>if hi=es.length∨0<hi then match setAt (st.b n).cells (pthL ⟨c,[]⟩) .hole with
         |some cs=>.wrB n ⟨(st.b n).real,cs⟩ (.kill n (pthL ⟨c,[]⟩) (m (.sl .own (es.take hi))))
         |none=>.no
         else .no
        |_=>.no) vs' st' (m (Cl.mk (.sl row) f l).enc)∧KeepW st.b st'.b:=by
  obtain ⟨es,hes⟩:=ownF_enc (l:=l) hf
  have hrow:rowAt (st.b n).cells (pthL ⟨c,[]⟩)=some (.sl .own es :: encs rest):=by
   rw[hce,← hes]
   show rowAt (encs bx.cells) [c]=_
   simp only[rowAt]
   rw[encs_drop,hdr]
   rfl
  have hlen:=hw _ _ hrow
  have hc:c<bx.cells.length:=by
   rcases Nat.lt_or_ge c bx.cells.length with h | h
   ·exact h
   ·rw[List.drop_eq_nil_of_le h] at hdr;cases hdr
  have hset:setAt (st.b n).cells (pthL ⟨c,[]⟩) .hole=some (encs (bx.cells.set c ⟨.hole,.z,emptyR⟩)):=by
   rw[hce]
   show setAt (encs bx.cells) [c] .hole=_
   rw[setAt,if_pos (by simpa [encs] using hc),← encs_set]
   rfl
  have hsame:SameB ⟨c,[]⟩ (st.b n).cells (encs (bx.cells.set c ⟨.hole,.z,emptyR⟩)):=fun q es' r' hp hr=>rowAt_setAt _ _ hset hp hr
  have g2:=go_Bkill (N:=N) (m:=m (.sl .own es)) (vs:=vs) (x:=⟨bx.real,bx.cells.set c ⟨.hole,.z,emptyR⟩⟩) R hsame
  refine ⟨_,st.kb n (pthL ⟨c,[]⟩) ⟨bx.real,encs (bx.cells.set c ⟨.hole,.z,emptyR⟩)⟩,h,?_,?_⟩
  ·rw[hes,hrow]
   simp only
   rw[if_pos (.inl hlen),hset]
   simp only
   rw[hre,hlen,List.take_length]
   exact g2
  ·intro m' q hi' hq
   have:=Qw_hole (n:=n) (c:=c) (real:=bx.real) hq
   rw[hce,show (T.hole)=(Cl.mk .hole .z emptyR).enc from rfl,encs_set] at this
   exact this
 theorem close_deep {n:Nm} {c i c1 hi:Nat} {bx:VB} {row r1:List ST} {fs:List Fg} {f1:Fg} {l:V (.sl row)} {l1:V (.sl r1)} {e:R row} {rest rest1:List Cl} {k:Cl→Co ρ} {m:T→M γ}
   (h:wrD n ⟨bx.real,bx.cells.set c ⟨.hs c1 row,.sl .own fs,hsMk c1 row l i⟩⟩ (kill n ⟨c,[(i,c1)]⟩ (k ⟨.sl r1,f1,l1⟩)) vs=some y) (R:Rel vs st) (hre:(st.b n).real=bx.real) (hce:(st.b n).cells=encs bx.cells)
   (hdr:bx.cells.drop c=⟨.sl row,.sl .own fs,l⟩ :: rest) (he:(lis row l)[i]?=some e) (hdr1:(cellsOf row fs e).drop c1=⟨.sl r1,f1,l1⟩ :: rest1) (hf:ownF f1=true) (hw:Qw st.b n ⟨c,[(i,c1)]⟩ hi) :
   ∃ vs' st',k ⟨.sl r1,f1,l1⟩ vs'=some y∧Go1 N vs st (match rowAt (st.b n).cells (pthL ⟨c,[(i,c1)]⟩) with
        |some (.sl .own es :: _)=>if hi=es.length∨0<hi then match setAt (st.b n).cells (pthL ⟨c,[(i,c1)]⟩) .hole with
         |some cs=>if (pthL ⟨c,[(i,c1)]⟩).length=1 then .wrB n ⟨(st.b n).real,cs⟩ (.kill n (pthL ⟨c,[(i,c1)]⟩) (m (.sl .own (es.take hi)))) else .hoB n (pthL ⟨c,[(i,c1)]⟩) (.kill n (pthL ⟨c,[(i,c1)]⟩) (m (.sl .own (es.take hi))))
         |none=>.no
         else .no
        |_=>.no) vs' st' (m (Cl.mk (.sl r1) f1 l1).enc)∧KeepW st.b st'.b:=by
  obtain ⟨es,hes⟩:=ownF_enc (l:=l1) hf
  have hd:(encs bx.cells).drop c=.sl .own ((lis row l).map fun e=>encR row fs e) :: encs rest:=by
   rw[encs_drop,hdr];rfl
  have he':((lis row l).map fun e=>encR row fs e)[i]?=some (encR row fs e):=by
   rw[List.getElem?_map,he];rfl
  have hd1:(encR row fs e).drop c1=.sl .own es :: encs rest1:=by
   rw[← encs_cellsOf,encs_drop,hdr1,← hes];rfl
  have hrow:rowAt (st.b n).cells (pthL ⟨c,[(i,c1)]⟩)=some (.sl .own es :: encs rest1):=by
   rw[hce]
   show rowAt (encs bx.cells) [c,i,c1]=_
   simp only[rowAt,hd,he',hd1]
  have hlen:=hw _ _ hrow
  have hc:c<bx.cells.length:=by
   rcases Nat.lt_or_ge c bx.cells.length with h | h
   ·exact h
   ·rw[List.drop_eq_nil_of_le h] at hdr;cases hdr
  have hc1:c1<(encR row fs e).length:=by
   rcases Nat.lt_or_ge c1 (encR row fs e).length with h | h
   ·exact h
   ·rw[List.drop_eq_nil_of_le h] at hd1;cases hd1
  have hset:setAt (st.b n).cells (pthL ⟨c,[(i,c1)]⟩) .hole=some (encs (bx.cells.set c ⟨.hs c1 row,.sl .own fs,hsMk c1 row l i⟩)):=by
   rw[hce]
   show setAt (encs bx.cells) [c,i,c1] .hole=_
   simp only[setAt,hd,he',if_pos hc1]
   rw[← encs_set,hs_enc]
   have e1:holeL c1 i ((lis row l).map fun e=>encR row fs e)=((lis row l).map fun e=>encR row fs e).set i ((encR row fs e).set c1 .hole):=by
    unfold holeL
    rw[he']
   rw[← e1]
   rfl
  have hsame:SameB ⟨c,[(i,c1)]⟩ (st.b n).cells (encs (bx.cells.set c ⟨.hs c1 row,.sl .own fs,hsMk c1 row l i⟩)):=fun q es' r' hp hr=>rowAt_setAt _ _ hset hp hr
  have g2:=go_Dkill (N:=N) (m:=m (.sl .own es)) (vs:=vs) (x:=⟨bx.real,bx.cells.set c ⟨.hs c1 row,.sl .own fs,hsMk c1 row l i⟩⟩) R hsame hset hre (by simp [pthL])
  refine ⟨_,st.kb n (pthL ⟨c,[(i,c1)]⟩) ⟨bx.real,encs (bx.cells.set c ⟨.hs c1 row,.sl .own fs,hsMk c1 row l i⟩)⟩,h,?_,?_⟩
  ·rw[hes,hrow]
   simp only
   rw[if_pos (.inl hlen),hset]
   simp only
   rw[if_neg (by simp [pthL]),hlen,List.take_length]
   exact g2
  ·intro m' q hi' hq es' r' he2
   by_cases hm:m'=n
   ·subst hm
    simp only[St.kb,if_true] at he2
    obtain ⟨es2,r2,q1,q2⟩:=rowAt_holeD _ _ hset he2
    rw[← q2]
    exact hq _ _ q1
   ·simp only[St.kb,hm,if_false] at he2
    exact hq _ _ he2
 theorem close_win {n:Nm} {c hi:Nat} {bx:VB} {row:List ST} {fs:List Fg} {l:V (.sl row)} {rest:List Cl} {k:Cl→Co ρ} {m:T→M γ}
   (h:wrB n ⟨bx.real,bx.cells.set c ⟨.hole,.z,emptyR⟩⟩ (kill n ⟨c,[]⟩ (k ⟨.sl row,.sl .own fs,wtake row l hi⟩)) vs=some y) (R:Rel vs st) (hre:(st.b n).real=bx.real) (hce:(st.b n).cells=encs bx.cells)
   (hdr:bx.cells.drop c=⟨.sl row,.sl .own fs,l⟩ :: rest) (hw:hi=(lis row l).length∨0<hi) :
   ∃ vs' st',k ⟨.sl row,.sl .own fs,wtake row l hi⟩ vs'=some y∧Go1 N vs st (match rowAt (st.b n).cells (pthL ⟨c,[]⟩) with
        |some (.sl .own es :: _)=>if hi=es.length∨0<hi then match setAt (st.b n).cells (pthL ⟨c,[]⟩) .hole with
         |some cs=>.wrB n ⟨(st.b n).real,cs⟩ (.kill n (pthL ⟨c,[]⟩) (m (.sl .own (es.take hi))))
         |none=>.no
         else .no
        |_=>.no) vs' st' (m (Cl.mk (.sl row) (.sl .own fs) (wtake row l hi)).enc)∧KeepW st.b st'.b:=by
  have hes:(Cl.mk (.sl row) (.sl .own fs) l).enc=.sl .own ((lis row l).map fun e=>encR row fs e):=rfl
  have hrow:rowAt (st.b n).cells (pthL ⟨c,[]⟩)=some (.sl .own ((lis row l).map fun e=>encR row fs e) :: encs rest):=by
   rw[hce,← hes]
   show rowAt (encs bx.cells) [c]=_
   simp only[rowAt]
   rw[encs_drop,hdr]
   rfl
  have hc:c<bx.cells.length:=by
   rcases Nat.lt_or_ge c bx.cells.length with h | h
   ·exact h
   ·rw[List.drop_eq_nil_of_le h] at hdr;cases hdr
  have hset:setAt (st.b n).cells (pthL ⟨c,[]⟩) .hole=some (encs (bx.cells.set c ⟨.hole,.z,emptyR⟩)):=by
   rw[hce]
   show setAt (encs bx.cells) [c] .hole=_
   rw[setAt,if_pos (by simpa [encs] using hc),← encs_set]
   rfl
  have hsame:SameB ⟨c,[]⟩ (st.b n).cells (encs (bx.cells.set c ⟨.hole,.z,emptyR⟩)):=fun q es' r' hp hr=>rowAt_setAt _ _ hset hp hr
  have g2:=go_Bkill (N:=N) (m:=m (.sl .own (((lis row l).map fun e=>encR row fs e).take hi))) (vs:=vs) (x:=⟨bx.real,bx.cells.set c ⟨.hole,.z,emptyR⟩⟩) R hsame
  refine ⟨_,st.kb n (pthL ⟨c,[]⟩) ⟨bx.real,encs (bx.cells.set c ⟨.hole,.z,emptyR⟩)⟩,h,?_,?_⟩
  ·rw[hrow]
   simp only
   rw[if_pos (by simpa using hw),hset]
   simp only
   rw[hre]
   have e:(Cl.mk (.sl row) (.sl .own fs) (wtake row l hi)).enc=.sl .own (((lis row l).map fun e=>encR row fs e).take hi):=by
    rw[← List.map_take]
    rfl
   rw[e]
   exact g2
  ·intro m' q hi' hq
   have:=Qw_hole (n:=n) (c:=c) (real:=bx.real) hq
   rw[hce,show (T.hole)=(Cl.mk .hole .z emptyR).enc from rfl,encs_set] at this
   exact this
 theorem wpre_some {row:List ST} {l:V (.sl row)} {x y:X} (h:wpre row l x y=true):x=0∧(y=(lis row l).length∨0<y):=by
  have h:((show Nat from x)==0&&((show Nat from y)==List.length (α:=R row) l || decide (0<(show Nat from y))))=true:=h
  simp only[Bool.and_eq_true,Bool.or_eq_true,beq_iff_eq,decide_eq_true_eq] at h
  exact h
 theorem closeT_ref {v:TV} {lv:LV} {k:Cl→Co ρ} {m:T→M γ} (h:closeT v k vs=some y) (R:Rel vs st) (hv:RelV (Qw st.b) v lv) :
   ∃ c vs' st',k c vs'=some y∧Go1 N vs st (close lv m) vs' st' (m c.enc)∧KeepW st.b st'.b:=by
  cases v with
  |c x=>
   simp only[closeT] at h
   cases hs:solid x.t x.f with
   |false=>rw[hs] at h;cases h
   |true=>
    rw[hs] at h
    simp only[RelV] at hv
    subst hv
    have hne:=solid_enc hs
    refine ⟨x,vs,st,h,?_,.rfl⟩
    have:close (.t x.enc) m=m x.enc:=by
     generalize x.enc=e at hne
     cases e<;>first | rfl | exact absurd rfl hne
    rw[this]
    exact .refl R
  |ref n p sub=>
   obtain ⟨c,r⟩:=p
   cases r with
   |cons a b=>
    cases sub with
    |some s=>cases b<;>cases h
    |none=>
     cases b with
     |cons a2 b2=>cases h
     |nil=>
      obtain ⟨i,c1⟩:=a
      simp only[RelV] at hv
      obtain ⟨hi,rfl,hw⟩:=hv
      simp only[closeT] at h
      obtain ⟨bx,vs1,h,hre,hce,g1,s1⟩:=rdB_ref (N:=N) (m:=fun bx=>match rowAt bx.cells (pthL ⟨c,[(i,c1)]⟩) with
       |some (.sl .own es :: _)=>if hi=es.length∨0<hi then match setAt bx.cells (pthL ⟨c,[(i,c1)]⟩) .hole with
        |some cs=>if (pthL ⟨c,[(i,c1)]⟩).length=1 then .wrB n ⟨bx.real,cs⟩ (.kill n (pthL ⟨c,[(i,c1)]⟩) (m (.sl .own (es.take hi)))) else .hoB n (pthL ⟨c,[(i,c1)]⟩) (.kill n (pthL ⟨c,[(i,c1)]⟩) (m (.sl .own (es.take hi))))
        |none=>.no
        else .no
       |_=>.no) h R
      cases hdr:bx.cells.drop c with
      |nil=>rw[hdr] at h;cases h
      |cons x0 rest=>
       obtain ⟨t0,f0,l⟩:=x0
       rw[hdr] at h
       cases t0<;>first | (cases h;done) | skip
       rename_i row
       cases f0<;>first | (cases h;done) | skip
       rename_i f0 fs
       cases f0<;>first | (cases h;done) | skip
       simp only at h
       unfold lgetN at h
       obtain ⟨e,he,h⟩:=atN_some h
       cases hdr1:(cellsOf row fs e).drop c1 with
       |nil=>rw[hdr1] at h;cases h
       |cons x1 rest1=>
        obtain ⟨t1,f1,l1⟩:=x1
        rw[hdr1] at h
        cases t1<;>first | (cases h;done) | skip
        rename_i r1
        simp only at h
        cases hf:ownF f1 with
        |false=>rw[hf] at h;cases h
        |true=>
         rw[hf] at h
         obtain ⟨vs2,st2,h,g2,k2⟩:=close_deep (N:=N) (m:=m) h g1.rel hre hce hdr he hdr1 hf hw
         exact ⟨_,_,_,h,g1.trans g2,k2⟩
   |nil=>
    cases sub with
    |some s=>
     obtain ⟨lo,hi⟩:=s
     simp only[RelV] at hv
     obtain ⟨rfl,hlo,L,hL,hw⟩:=hv
     simp only[closeT] at h
     simp only[rdB] at h
     cases hbx:lookB vs.b n with
     |none=>rw[hbx] at h;cases h
     |some bx=>
      rw[hbx] at h
      simp only at h
      obtain ⟨hre,hce⟩:=R.b n bx hbx
      cases hdr:bx.cells.drop c with
      |nil=>rw[hdr] at h;cases h
      |cons c1 rest=>
       obtain ⟨t1,f,l⟩:=c1
       rw[hdr] at h
       cases t1<;>first | (cases h;done) | skip
       rename_i row
       cases f<;>first | (cases h;done) | skip
       rename_i f fs
       cases f<;>first | (cases h;done) | skip
       simp only[ownF] at h
       obtain ⟨hp,h3⟩:=ite_some h
       clear h
       obtain ⟨hx0,hq0⟩:=wpre_some hp
       subst hx0
       have g1:=go_rdB (N:=N) (n:=n) (k:=fun bx=>match rowAt bx.cells (pthL ⟨c,[]⟩) with
        |some (.sl .own es :: _)=>if hi=es.length∨0<hi then match setAt bx.cells (pthL ⟨c,[]⟩) .hole with
         |some cs=>.wrB n ⟨bx.real,cs⟩ (.kill n (pthL ⟨c,[]⟩) (m (.sl .own (es.take hi))))
         |none=>.no
         else .no
        |_=>.no) R
       obtain ⟨vs2,st2,h,g2,k2⟩:=close_win (N:=N) (m:=m) h3 g1.rel hre hce hdr hq0
       exact ⟨_,_,_,h,g1.trans g2,k2⟩
    |none=>
     simp only[RelV] at hv
     obtain ⟨hi,rfl,hw⟩:=hv
     simp only[closeT] at h
     obtain ⟨bx,vs1,h,hre,hce,g1,s1⟩:=rdB_ref (N:=N) (m:=fun bx=>match rowAt bx.cells (pthL ⟨c,[]⟩) with
      |some (.sl .own es :: _)=>if hi=es.length∨0<hi then match setAt bx.cells (pthL ⟨c,[]⟩) .hole with
       |some cs=>.wrB n ⟨bx.real,cs⟩ (.kill n (pthL ⟨c,[]⟩) (m (.sl .own (es.take hi))))
       |none=>.no
       else .no
      |_=>.no) h R
     cases hdr:bx.cells.drop c with
     |nil=>rw[hdr] at h;cases h
     |cons c1 rest=>
      obtain ⟨t1,f,l⟩:=c1
      rw[hdr] at h
      cases t1 with
      |int _=>cases h
      |bool=>cases h
      |str=>cases h
      |pt _=>cases h
      |fn _ _=>cases h
      |hole=>cases h
      |hs _ _=>cases h
      |sl row=>
       cases hf:ownF f with
       |false=>simp only[hf] at h;cases h
       |true=>
        simp only[hf] at h
        obtain ⟨vs2,st2,h,g2,k2⟩:=close_box (N:=N) (m:=m) h g1.rel hre hce hdr hf hw
        exact ⟨_,_,_,h,g1.trans g2,k2⟩
  |fn g xs=>
   cases xs with
   |cons x xs=>simp [closeT,no,fail] at h
   |nil=>
    simp only[RelV,RelVs] at hv
    obtain ⟨us,rfl,hu⟩:=hv
    subst hu
    refine ⟨_,vs,st,h,?_,.rfl⟩
    have:close (.fn (.func g) []) m=m (.fn (.func g) []):=rfl
    rw[this]
    exact .refl R
  |addr n p=>simp [closeT,no,fail] at h
  |raddr cs=>simp [closeT,no,fail] at h
  |agg xs=>simp [closeT,no,fail] at h
  |tup xs=>simp [closeT,no,fail] at h
  |va xs=>simp [closeT,no,fail] at h
  |dead=>simp [closeT,no,fail] at h
 theorem closesT_ref:∀ {xs:List TV} {lvs:List LV} {vs:VS} {st:St} {k:List Cl→Co ρ} {m:List T→M γ} (_:closesT xs k vs=some y) (_:Rel vs st) (_:RelVs (Qw st.b) xs lvs),
   ∃ cs vs' st',k cs vs'=some y∧Go1 N vs st (closes lvs m) vs' st' (m (encs cs))∧KeepW st.b st'.b
  |[],lvs,vs,st,k,m,h,R,hv=>by
   simp only[RelVs] at hv
   subst hv
   exact ⟨[],vs,st,h,.refl R,.rfl⟩
  |x :: xs,[],_,_,_,_,h,R,hv=>by simp only[RelVs] at hv
  |x :: xs,lv :: lvs,vs,st,k,m,h,R,hv=>by
   simp only[RelVs] at hv
   obtain ⟨c,vs1,st1,h,g1,k1⟩:=closeT_ref (N:=N) (m:=fun c=>closes lvs fun cs=>m (c :: cs)) h R hv.1
   obtain ⟨cs,vs2,st2,h,g2,k2⟩:=closesT_ref (m:=fun cs=>m (c.enc :: cs)) h g1.rel (k1.lst hv.2)
   exact ⟨c :: cs,vs2,st2,h,g1.trans g2,k1.trans k2⟩
 theorem closeCT_ref {x:TV} {lv:LV} {k:List Cl→Co ρ} {m:List T→M γ} (h:closeCT x k vs=some y) (R:Rel vs st) (hv:RelV (Qw st.b) x lv) :
   ∃ cs vs' st',k cs vs'=some y∧Go1 N vs st (closeC lv m) vs' st' (m (encs cs))∧KeepW st.b st'.b:=by
  have one:closeT x (fun c=>k [c]) vs=some y→(∀ us,lv≠.agg us)→∃ cs vs' st',k cs vs'=some y∧Go1 N vs st (closeC lv m) vs' st' (m (encs cs))∧KeepW st.b st'.b:=by
   intro h hne
   obtain ⟨c,vs1,st1,h,g1,k1⟩:=closeT_ref (N:=N) (m:=fun c=>m [c]) h R hv
   refine ⟨[c],vs1,st1,h,?_,k1⟩
   have:closeC lv m=close lv fun c=>m [c]:=by
    cases lv<;>first | rfl | exact absurd rfl (hne _)
   rw[this]
   exact g1
  cases x with
  |agg xs=>
   simp only[RelV] at hv
   obtain ⟨us,rfl,hv⟩:=hv
   exact closesT_ref (N:=N) h R hv
  |c x=>exact one h (by simp only[RelV] at hv;subst hv;simp)
  |ref n p sub=>cases sub with
   |some s=>
    obtain ⟨lo,hi⟩:=s
    exact one h (by simp only[RelV] at hv;obtain ⟨rfl,_⟩:=hv;simp)
   |none=>exact one h (by simp only[RelV] at hv;obtain ⟨_,rfl,_⟩:=hv;simp)
  |addr n p=>exact one h (by simp only[RelV] at hv;subst hv;simp)
  |raddr cs=>exact one h (by simp only[RelV] at hv;subst hv;simp)
  |tup xs=>exact one h (by simp only[RelV] at hv;obtain ⟨_,rfl,_⟩:=hv;simp)
  |va xs=>exact one h (by simp only[RelV] at hv;obtain ⟨_,rfl,_⟩:=hv;simp)
  |fn g xs=>exact one h (by simp only[RelV] at hv;obtain ⟨_,rfl,_⟩:=hv;simp)
  |dead=>simp [closeCT,closeT,no,fail] at h
 def encPs (cs:List (Nat×List Cl)):List (Nat×List T):=cs.map fun x=>(x.1,encs x.2)
 theorem closePartsT_ref:∀ {xs:List (Nat×TV)} {lvs:List (Nat×LV)} {vs:VS} {st:St} {k:List (Nat×List Cl)→Co ρ} {m:List (Nat×List T)→M γ} (_:closePartsT xs k vs=some y) (_:Rel vs st) (_:RelPs (Qw st.b) xs lvs),
   ∃ cs vs' st',k cs vs'=some y∧Go1 N vs st (closeParts lvs m) vs' st' (m (encPs cs))∧KeepW st.b st'.b
  |[],lvs,vs,st,k,m,h,R,hv=>by
   simp only[RelPs] at hv
   subst hv
   exact ⟨[],vs,st,h,.refl R,.rfl⟩
  |(i,x) :: xs,[],_,_,_,_,h,R,hv=>by simp only[RelPs] at hv
  |(i,x) :: xs,(j,lv) :: lvs,vs,st,k,m,h,R,hv=>by
   simp only[RelPs] at hv
   obtain ⟨rfl,hv1,hv2⟩:=hv
   obtain ⟨c,vs1,st1,h,g1,k1⟩:=closeCT_ref (N:=N) (m:=fun c=>closeParts lvs fun cs=>m ((i,c) :: cs)) h R hv1
   obtain ⟨cs,vs2,st2,h,g2,k2⟩:=closePartsT_ref (m:=fun cs=>m ((i,encs c) :: cs)) h g1.rel (k1.ps hv2)
   exact ⟨(i,c) :: cs,vs2,st2,h,g1.trans g2,k1.trans k2⟩
 theorem pthL_add (o:Nat) (p:Pth):pthL (p.add o)=bump o (pthL p):=by
  obtain ⟨c0,r⟩:=p
  have key:∀ (r:List (X×Nat)),r≠[]→∀ c,c :: pthR (Pth.add.go o r)=bump o (c :: pthR r):=by
   intro r
   induction r with
   |nil=>intro h;exact absurd rfl h
   |cons x r ih=>
    intro _ c
    obtain ⟨i,c'⟩:=x
    cases r with
    |nil=>rfl
    |cons x2 r2=>
     have:=ih (by simp) c'
     show c :: i :: c' :: pthR (Pth.add.go o (x2 :: r2))=c :: i :: bump o (c' :: pthR (x2 :: r2))
     rw[← this]
  cases r with
  |nil=>rfl
  |cons x r=>exact key (x :: r) (by simp) c0
 theorem seenT_rel {b:Nm→Box} {n:Nm} {p:Pth} {c:Cl} {row:List T} (h:rowAt (b n).cells (pthL p)=some (c.enc :: row)):RelV (Qs b) (seenT n p c) (seen n (pthL p) c.enc):=by
  cases ho:c.own with
  |true=>
   obtain ⟨es,hes⟩:=own_enc ho
   rw[hes] at h ⊢
   simp only[seenT,ho,seen,RelV]
   exact ⟨_,rfl,_,_,h,rfl⟩
  |false=>
   simp only[seenT,ho]
   obtain ⟨t,f,x⟩:=c
   cases t with
   |hs _ _=>simp only[RelV]
   |int k=>simp only[seen,Cl.enc,encT,RelV]
   |bool=>simp only[seen,Cl.enc,encT,RelV]
   |str=>simp only[seen,Cl.enc,encT,RelV]
   |hole=>simp only[RelV]
   |sl row'=>
    simp only[RelV]
    cases f with
    |sl f fs=>
     cases f with
     |own=>simp [Cl.own] at ho
     |nw=>rfl
     |fz=>rfl
    |_=>simp [Cl.own] at ho
   |pt row'=>
    cases f with
    |pt f fs=>
     cases f with
     |own=>simp only[RelV]
     |nw=>simp only[seen,Cl.enc,encT,RelV];exact congrArg _ (encs_cellsOf row' fs x).symm
     |fz=>simp only[seen,Cl.enc,encT,RelV];exact congrArg _ (encs_cellsOf row' fs x).symm
    |_=>simp only[RelV]
   |fn g caps=>
    cases caps with
    |nil=>cases f<;>simp only[RelV,Cl.enc,encT,encR,seen]
    |cons t ts=>simp only[RelV]
 theorem seensT_rel {b:Nm→Box} {n:Nm} {p:Pth}:∀ (cs:List Cl) (j:Nat) {row:List T},rowAt (b n).cells (pthL (p.add j))=some (encs cs++row)→RelVs (Qs b) (seensT n p j cs) (seens n (pthL p) j (encs cs))
  |[],j,row,_=>by simp only[seensT,encs,List.map_nil,seens,RelVs]
  |c :: cs,j,row,h=>by
   simp only[seensT,encs,List.map_cons,seens,RelVs]
   rw[← pthL_add]
   refine ⟨seenT_rel h,seensT_rel cs (j+1) (row:=row) ?_⟩
   rw[pthL_add] at h ⊢
   have:=rowAt_bump 1 _ h
   rw[bump_bump] at this
   exact this
 end
 end TM
 namespace TM
 open Go
 section
 variable {ρ γ:Type} {N:Nat} {vs vs':VS} {st st':St} {y:ρ}
 theorem storesT_ref {n:Nm} {p:Pth}:∀ (xs:List Cl) {j:Nat} {vs:VS} {st:St} {k:Co ρ} {m:M γ},storesT n p j xs k vs=some y→Rel vs st →
   ∃ vs' st',k vs'=some y∧Go1 N vs st (stores n (pthL p) j (encs xs) m) vs' st' m
  |[],j,vs,st,k,m,h,R=>⟨vs,st,h,.refl R⟩
  |x :: xs,j,vs,st,k,m,h,R=>by
   simp only[storesT] at h
   obtain ⟨bx,vs1,h,hre,hce,g1,s1⟩:=rdB_ref (N:=N) (m:=fun bx=>match rowAt bx.cells (bump j (pthL p)),setAt bx.cells (bump j (pthL p)) x.enc with
    |some (old :: _),some cs=>
     let next:=M.wrB n ⟨bx.real,cs⟩ (stores n (pthL p) (j+1) (encs xs) m)
     match old with
     |.sl .own _=>M.kill n (bump j (pthL p)) next
     |_=>next
    |_,_=>.no) h R
   obtain ⟨row,h,hrow⟩:=getAt_ref _ _ _ h
   cases row with
   |nil=>cases h
   |cons old rest=>
    simp only at h
    obtain ⟨cs,h,hset⟩:=putAt_some _ h
    have hrow':rowAt (st.b n).cells (bump j (pthL p))=some (old.enc :: encs rest):=by
     rw[hce,← pthL_add];exact hrow
    have hset':setAt (st.b n).cells (bump j (pthL p)) x.enc=some (encs cs):=by
     rw[hce,← pthL_add];exact hset
    have hsame:SameB (p.add j) (st.b n).cells (encs cs):=fun q es' r' hp hr=>by
     refine rowAt_setAt _ _ ?_ hp hr (x:=x.enc)
     rw[pthL_add];exact hset'
    have e:stores n (pthL p) j (encs (x :: xs)) m=.rdB n (fun bx=>match rowAt bx.cells (bump j (pthL p)),setAt bx.cells (bump j (pthL p)) x.enc with
     |some (old :: _),some cs=>
      let next:=M.wrB n ⟨bx.real,cs⟩ (stores n (pthL p) (j+1) (encs xs) m)
      match old with
      |.sl .own _=>M.kill n (bump j (pthL p)) next
      |_=>next
     |_,_=>.no):=rfl
    rw[e]
    have e2:(match rowAt (st.b n).cells (bump j (pthL p)),setAt (st.b n).cells (bump j (pthL p)) x.enc with
     |some (old :: _),some cs=>
      let next:=M.wrB n ⟨(st.b n).real,cs⟩ (stores n (pthL p) (j+1) (encs xs) m)
      match old with
      |.sl .own _=>M.kill n (bump j (pthL p)) next
      |_=>next
     |_,_=>.no)=(match old.enc with
      |.sl .own _=>M.kill n (bump j (pthL p)) (M.wrB n ⟨bx.real,encs cs⟩ (stores n (pthL p) (j+1) (encs xs) m))
      |_=>M.wrB n ⟨bx.real,encs cs⟩ (stores n (pthL p) (j+1) (encs xs) m)):=by
     rw[hrow',hset',hre]
    cases ho:old.ownH with
    |true=>
     rw[ho] at h
     obtain ⟨es,hes⟩:=ownH_enc.1 ho
     have g2:=go_killB (N:=N) (m:=stores n (pthL p) (j+1) (encs xs) m) (x:=⟨bx.real,cs⟩) g1.rel hsame
     obtain ⟨vs2,st2,h,g3⟩:=storesT_ref xs (m:=m) h g2.rel
     refine ⟨vs2,st2,h,g1.trans ?_⟩
     show Go1 N vs1 st (match rowAt (st.b n).cells (bump j (pthL p)),setAt (st.b n).cells (bump j (pthL p)) x.enc with
     |some (old :: _),some cs=>
      let next:=M.wrB n ⟨(st.b n).real,cs⟩ (stores n (pthL p) (j+1) (encs xs) m)
      match old with
      |.sl .own _=>M.kill n (bump j (pthL p)) next
      |_=>next
     |_,_=>.no) _ _ _
     rw[e2,hes]
     simp only
     rw[← pthL_add]
     exact g2.trans g3
    |false=>
     rw[ho] at h
     have hne:∀ es,old.enc≠.sl .own es:=fun es he=>by
      rw[ownH_enc.2 ⟨es,he⟩] at ho
      cases ho
     have g2:=go_wrB (N:=N) (m:=stores n (pthL p) (j+1) (encs xs) m) (x:=⟨bx.real,cs⟩) (p:=p.add j) (n:=n) g1.rel (by rw[pthL_add];exact hrow') hne hsame
     obtain ⟨vs2,st2,h,g3⟩:=storesT_ref xs (m:=m) h g2.rel
     refine ⟨vs2,st2,h,g1.trans ?_⟩
     show Go1 N vs1 st (match rowAt (st.b n).cells (bump j (pthL p)),setAt (st.b n).cells (bump j (pthL p)) x.enc with
     |some (old :: _),some cs=>
      let next:=M.wrB n ⟨(st.b n).real,cs⟩ (stores n (pthL p) (j+1) (encs xs) m)
      match old with
      |.sl .own _=>M.kill n (bump j (pthL p)) next
      |_=>next
     |_,_=>.no) _ _ _
     have e3:(match old.enc with
      |.sl .own _=>M.kill n (bump j (pthL p)) (M.wrB n ⟨bx.real,encs cs⟩ (stores n (pthL p) (j+1) (encs xs) m))
      |_=>M.wrB n ⟨bx.real,encs cs⟩ (stores n (pthL p) (j+1) (encs xs) m))=M.wrB n ⟨bx.real,encs cs⟩ (stores n (pthL p) (j+1) (encs xs) m):=by
      split
      ·rename_i es' h'
       exact absurd h' (hne _)
      ·rfl
     rw[e2,e3]
     exact g2.trans g3
 theorem zeroC_enc {t:ST} {c:Cl} {x:T} (h:zeroC t=some c) (hz:zeroOk t x=true):c.enc=x:=by
  unfold zeroOk at hz
  split at hz
  ·rename_i k l n
   simp only[zeroC,Option.some.injEq] at h
   subst h
   simp only[Bool.and_eq_true,decide_eq_true_eq] at hz
   obtain ⟨rfl,rfl⟩:=hz
   rfl
  ·simp only[zeroC,Option.some.injEq] at h
   subst h
   rfl
  ·rename_i s
   simp only[zeroC,Option.some.injEq] at h
   subst h
   have:s.data.toList=[]:=by simpa using hz
   show T.v (.string ⟨List.toArray []⟩)=_
   rw[← this,bytes_eta]
  ·simp only[zeroC,Option.some.injEq] at h
   subst h
   rfl
  ·cases hz
 theorem zeroCs_enc:∀ {ts:List ST} {cs:List Cl} {xs:List T},zeroCs ts=some cs→zeroOks ts xs=true→encs cs=xs
  |[],cs,[],h,_=>by simp only[zeroCs,Option.some.injEq] at h;subst h;rfl
  |[],cs,_ :: _,_,hz=>by simp [zeroOks] at hz
  |_ :: _,cs,[],_,hz=>by simp [zeroOks] at hz
  |t :: ts,cs,x :: xs,h,hz=>by
   simp only[zeroCs] at h
   simp only[zeroOks,Bool.and_eq_true] at hz
   split at h
   ·rename_i c cs' h1 h2
    cases h
    show c.enc :: encs cs'=_
    rw[zeroC_enc h1 hz.1,zeroCs_enc h2 hz.2]
   ·cases h
 theorem zerosT_some {P:Program} {t:TypeId} {cs:List Cl} (h:zerosT P t=some cs):zeroT P t=some (encs cs):=by
  unfold zerosT at h
  split at h
  ·rename_i z r h1 h2
   split at h
   ·rename_i hz
    rw[h1,zeroCs_enc h hz]
   ·cases h
  ·cases h
 theorem zeroOks_len:∀ {ts:List ST} {xs:List T},zeroOks ts xs=true→ts.length=xs.length
  |[],[],_=>rfl
  |[],_ :: _,h=>by simp [zeroOks] at h
  |_ :: _,[],h=>by simp [zeroOks] at h
  |t :: ts,x :: xs,h=>by
   simp only[zeroOks,Bool.and_eq_true] at h
   simp [zeroOks_len h.2]
 theorem rowT_some {P:Program} {t:TypeId} {r:List (ST×Fg)} (h:rowT P t=some r):∃ z e,rowInfo P t=some z∧P.underlying t=some (.slice e)∧zeroOks (cts r) z=true∧z.length=r.length:=by
  unfold rowT at h
  split at h
  ·rename_i z e h1 h2
   split at h
   ·rename_i r' h3
    split at h
    ·rename_i hz
     cases h
     refine ⟨z,e,h1,h2,hz,?_⟩
     rw[← zeroOks_len hz]
     simp [cts]
    ·cases h
   ·cases h
  ·cases h
 theorem encR_length:∀ {r:List ST} {fs:List Fg} (x:R r),fs.length=r.length→(encR r fs x).length=r.length
  |[],_,_,_=>by simp [encR]
  |t :: r,f :: fs,x,h=>by
   simp only[encR,List.length_cons]
   rw[encR_length (tailR t r x) (by simpa using h)]
  |_ :: _,[],_,h=>by simp at h
 theorem mkRow_len:∀ {r:List ST} {fs:List Fg} {cs:List Cl} {k:R r→Res ρ},mkRow r fs cs k=some y→cs.length=r.length∧fs.length=r.length
  |[],[],[],k,h=>⟨rfl,rfl⟩
  |t :: r,f :: fs,c :: cs,k,h=>by
   simp only[mkRow] at h
   obtain ⟨a,h,h1⟩:=conv_some h
   obtain ⟨h2,h3⟩:=mkRow_len h
   simp [h2,h3]
  |[],_ :: _,_,_,h=>by simp [mkRow,fail] at h
  |[],[],_ :: _,_,h=>by simp [mkRow,fail] at h
  |_ :: _,[],_,_,h=>by simp [mkRow,fail] at h
  |_ :: _,_ :: _,[],_,h=>by simp [mkRow,fail] at h
 theorem fillET_some {r:List ST} {fs:List Fg}:∀ {cs:List (Nat×List Cl)} {s:Nat} {k:V (.sl r)→Res ρ},fillET r fs s cs k=some y →
   ∃ l,k l=some y∧fillE r.length s (encPs cs)=some ((lis r l).map fun e=>encR r fs e)
  |[],s,k,h=>⟨_,h,rfl⟩
  |(i,c) :: rest,s,k,h=>by
   simp only[fillET] at h
   split at h
   ·rename_i hi
    have hl:=mkRow_len h
    obtain ⟨e,h,h1⟩:=mkRow_some h
    obtain ⟨l,h,h2⟩:=fillET_some h
    refine ⟨_,h,?_⟩
    show (if (encs c).length=r.length∧i=s then (fillE r.length (s+1) (encPs rest)).map (encs c :: ·) else none)=_
    rw[if_pos ⟨by simpa [encs] using hl.1,Nat.eq_of_beq_eq_true hi⟩,h2,← h1]
    rfl
   ·cases h
 theorem RelVs.length {Q:Nm→Pth→Nat→Prop}:∀ {xs:List TV} {vs:List LV},RelVs Q xs vs→xs.length=vs.length
  |[],vs,h=>by simp only[RelVs] at h;subst h;rfl
  |x :: xs,[],h=>by simp only[RelVs] at h
  |x :: xs,v :: vs,h=>by
   simp only[RelVs] at h
   simp [RelVs.length h.2]
 theorem RelVs.append {Q:Nm→Pth→Nat→Prop}:∀ {xs:List TV} {vs:List LV} {ys:List TV} {us:List LV},RelVs Q xs vs→RelVs Q ys us→RelVs Q (xs++ys) (vs++us)
  |[],vs,ys,us,h,k=>by simp only[RelVs] at h;subst h;exact k
  |x :: xs,[],ys,us,h,k=>by simp only[RelVs] at h
  |x :: xs,v :: vs,ys,us,h,k=>by
   simp only[RelVs] at h
   simp only[List.cons_append,RelVs]
   exact ⟨h.1,RelVs.append h.2 k⟩
 theorem RelVs.take {Q:Nm→Pth→Nat→Prop}:∀ {xs:List TV} {vs:List LV} (n:Nat),RelVs Q xs vs→RelVs Q (xs.take n) (vs.take n)
  |[],vs,n,h=>by simp only[RelVs] at h;subst h;simp [RelVs]
  |x :: xs,[],n,h=>by simp only[RelVs] at h
  |x :: xs,v :: vs,0,h=>by simp [RelVs]
  |x :: xs,v :: vs,n+1,h=>by
   simp only[RelVs] at h
   simp only[List.take_succ_cons,RelVs]
   exact ⟨h.1,RelVs.take n h.2⟩
 theorem RelVs.drop {Q:Nm→Pth→Nat→Prop}:∀ {xs:List TV} {vs:List LV} (n:Nat),RelVs Q xs vs→RelVs Q (xs.drop n) (vs.drop n)
  |[],vs,n,h=>by simp only[RelVs] at h;subst h;simp [RelVs]
  |x :: xs,[],n,h=>by simp only[RelVs] at h
  |x :: xs,v :: vs,0,h=>h
  |x :: xs,v :: vs,n+1,h=>by
   simp only[RelVs] at h
   simp only[List.drop_succ_cons]
   exact RelVs.drop n h.2
 theorem rel_cells {Q:Nm→Pth→Nat→Prop}:∀ (cs:List Cl),RelVs Q (cs.map .c) ((encs cs).map .t)
  |[]=>by simp [encs,RelVs]
  |c :: cs=>by
   have:=rel_cells (Q:=Q) cs
   simp only[encs,List.map_cons,RelVs,RelV] at this ⊢
   exact ⟨trivial,this⟩
 theorem fillLT_some {Q:Nm→Pth→Nat→Prop} {fs:List (Nat×Nat)}:∀ {ps:List (Nat×TV)} {lps:List (Nat×LV)} {cs xs:List TV} {lcs:List LV},fillLT fs cs ps=some xs→RelVs Q cs lcs→RelPs Q ps lps →
   ∃ lxs,fillL fs lcs lps=some lxs∧RelVs Q xs lxs
  |[],lps,cs,xs,lcs,h,hc,hp=>by
   simp only[RelPs] at hp
   subst hp
   simp only[fillLT,Option.some.injEq] at h
   subst h
   exact ⟨lcs,rfl,hc⟩
  |(i,x) :: ps,[],cs,xs,lcs,h,hc,hp=>by simp only[RelPs] at hp
  |(i,x) :: ps,(j,v) :: lps,cs,xs,lcs,h,hc,hp=>by
   simp only[RelPs] at hp
   obtain ⟨rfl,hx,hp⟩:=hp
   simp only[fillLT] at h
   split at h
   ·rename_i o sz hfs
    have key:RelVs Q (cellsTV x) v.cells∧(deadT x=false→v.isDead=false):=by
     cases x with
     |agg ys=>
      simp only[RelV] at hx
      obtain ⟨us,rfl,hu⟩:=hx
      exact ⟨hu,fun _=>rfl⟩
     |c x=>simp only[RelV] at hx;subst hx;exact ⟨by simp only[LV.cells,cellsTV,RelVs,RelV];trivial,fun _=>rfl⟩
     |ref n p sub=>cases sub with
      |some s=>have hx':=hx;simp only[RelV] at hx;obtain ⟨rfl,_⟩:=hx;exact ⟨by simp only[LV.cells,cellsTV,RelVs];exact ⟨hx',trivial⟩,fun _=>rfl⟩
      |none=>have hx':=hx;simp only[RelV] at hx;obtain ⟨_,rfl,_⟩:=hx;exact ⟨by simp only[LV.cells,cellsTV,RelVs];exact ⟨hx',trivial⟩,fun _=>rfl⟩
     |addr n p=>simp only[RelV] at hx;subst hx;exact ⟨by simp only[LV.cells,cellsTV,RelVs,RelV];trivial,fun _=>rfl⟩
     |raddr cs=>have hx':=hx;simp only[RelV] at hx;subst hx;exact ⟨by simp only[LV.cells,cellsTV,RelVs];exact ⟨hx',trivial⟩,fun _=>rfl⟩
     |tup xs=>have hx':=hx;simp only[RelV] at hx;obtain ⟨_,rfl,_⟩:=hx;exact ⟨by simp only[LV.cells,cellsTV,RelVs];exact ⟨hx',trivial⟩,fun _=>rfl⟩
     |va xs=>have hx':=hx;simp only[RelV] at hx;obtain ⟨_,rfl,_⟩:=hx;exact ⟨by simp only[LV.cells,cellsTV,RelVs];exact ⟨hx',trivial⟩,fun _=>rfl⟩
     |fn g xs=>have hx':=hx;simp only[RelV] at hx;obtain ⟨_,rfl,_⟩:=hx;exact ⟨by simp only[LV.cells,cellsTV,RelVs];exact ⟨hx',trivial⟩,fun _=>rfl⟩
     |dead=>
      exfalso
      split at h
      ·rename_i hb
       simp [deadT] at hb
      ·cases h
    obtain ⟨hyv,hd⟩:=key
    split at h
    ·rename_i hb
     simp only[Bool.and_eq_true,Bool.not_eq_true'] at hb
     obtain ⟨h1,h2,h3⟩:=hb
     have h1:=Nat.eq_of_beq_eq_true h1
     have h2:=Nat.le_of_ble_eq_true h2
     rw[RelVs.length hyv] at h1
     rw[RelVs.length hc] at h2
     obtain ⟨lxs,k1,k2⟩:=fillLT_some h (((hc.take o).append hyv).append (hc.drop (o+sz))) hp
     refine ⟨lxs,?_,k2⟩
     simp only[fillL,hfs]
     rw[if_pos ⟨h1,h2,hd h3⟩]
     exact k1
    ·cases h
   ·cases h
 end
 end TM
 namespace TM
 open Go
 section
 variable {ρ:Type} {N:Nat} {vs vs':VS} {st st':St} {y:ρ} {P:Program}
 abbrev Law (N:Nat) (vs:VS) (st:St) (k:Co ρ) (y:ρ) (m:M Unit):Prop:=∃ vs' st',k vs'=some y∧Go1 N vs st m vs' st' (.ok ())
 theorem Law.of {vs1:VS} {st1:St} {k:Co ρ} {m m1:M Unit} (g:Go1 N vs st m vs1 st1 m1) (h:Law N vs1 st1 k y m1):Law N vs st k y m:=by
  obtain ⟨vs',st',h1,h2⟩:=h
  exact ⟨vs',st',h1,g.trans h2⟩
 theorem tv_move {d:Option Nat} {x:Operand} {k:Co ρ} (R:Rel vs st):evT x (fun v=>outT N d v k) vs=some y →
   Law N vs st k y (ev x fun v=>out d v):=by
  intro h
  obtain ⟨v,lv,vs1,h,hv,g1,_⟩:=evT_ref (N:=N) (m:=fun v=>out d v) h R
  exact .of g1 (outT_ref h g1.rel hv)
 theorem boolV {Q:Nm→Pth→Nat→Prop} {f:Fg} {r:V .bool} {lv:LV} (h:RelV Q (.c ⟨.bool,f,r⟩) lv):lv=.t (.v (.bool r)):=by simp only[RelV] at h;exact h
 theorem intV {Q:Nm→Pth→Nat→Prop} {f:Fg} {k:IntKind} {r:V (.int k)} {lv:LV} (h:RelV Q (.c ⟨.int k,f,r⟩) lv):lv=.t (.v (.int k r)):=by simp only[RelV] at h;exact h
 theorem strV {Q:Nm→Pth→Nat→Prop} {f:Fg} {r:V .str} {lv:LV} (h:RelV Q (.c ⟨.str,f,r⟩) lv):lv=.t (.v (.string ⟨List.toArray (α:=UInt8) r⟩)):=by simp only[RelV] at h;exact h
 theorem addrV {Q:Nm→Pth→Nat→Prop} {n:Nm} {p:Pth} {lv:LV} (h:RelV Q (.addr n p) lv):lv=.addr n (pthL p):=by simp only[RelV] at h;exact h
 theorem boolCase {v:TV} {K:V .bool→Co ρ} {n:Nat} (h:(match v with
   |.c ⟨.bool,_,r⟩=>K r
   |_=>no n) vs=some y):∃ f r,v=.c ⟨.bool,f,r⟩∧K r vs=some y:=by
  cases v with
  |c x=>
   obtain ⟨t,f,x⟩:=x
   cases t<;>first | exact ⟨f,x,rfl,h⟩ | cases h
  |_=>cases h
 theorem tv_pick {d:Option Nat} {c a b:Operand} {k:Co ρ} (R:Rel vs st):evT c (fun vc=>evT a fun va=>evT b fun vb=>match vc with
   |.c ⟨.bool,_,r⟩=>iteC r (outT N d va k) (outT N d vb k)
   |_=>no 30) vs=some y →
   Law N vs st k y (ev c fun vc=>ev a fun va=>ev b fun vb=>match vc with
   |.t (.v (.bool r))=>out d (if r=true then va else vb)
   |_=>.no):=by
  intro h
  obtain ⟨v,lv,vs1,h,hv,g1,_⟩:=evT_ref (N:=N) (m:=fun vc=>ev a fun va=>ev b fun vb=>match vc with
   |.t (.v (.bool r))=>out d (if r=true then va else vb)
   |_=>.no) h R
  refine .of g1 ?_
  obtain ⟨v1,lv1,vs2,h,hv1,g2,_⟩:=evT_ref (N:=N) (m:=fun va=>ev b fun vb=>match lv with
   |.t (.v (.bool r))=>out d (if r=true then va else vb)
   |_=>.no) h g1.rel
  refine .of g2 ?_
  obtain ⟨v2,lv2,vs3,h,hv2,g3,_⟩:=evT_ref (N:=N) (m:=fun vb=>match lv with
   |.t (.v (.bool r))=>out d (if r=true then lv1 else vb)
   |_=>.no) h g2.rel
  refine .of g3 ?_
  obtain ⟨f,r,rfl,h⟩:=boolCase h
  rw[boolV hv]
  simp only
  rcases iteC_ref h with ⟨hr,h⟩ | ⟨hr,h⟩
  ·rw[show r=true from hr,if_pos rfl]
   exact outT_ref h g3.rel hv1
  ·rw[show r=false from hr,if_neg (by simp)]
   exact outT_ref h g3.rel hv2
 theorem tv_alloc {d:Option Nat} {t:TypeId} {k:Co ρ} (R:Rel vs st):(match d,zerosT P t with
   |some d,some cs=>freshT d ⟨true,cs⟩ (wrS N d (.addr (d,0) ⟨0,[]⟩) k)
   |_,_=>no 31) vs=some y →
   Law N vs st k y (match d,zeroT P t with
   |some d,some cs=>fresh d ⟨true,cs⟩ (.wrS d (.addr (d,0) [0]) (.ok ()))
   |_,_=>.no):=by
  intro h
  cases d with
  |none=>cases h
  |some d=>
   cases hz:zerosT P t with
   |none=>rw[hz] at h;cases h
   |some cs=>
    rw[hz] at h
    rw[zerosT_some hz]
    simp only at h ⊢
    obtain ⟨vs1,h,g1⟩:=go_fresh (N:=N) (m:=.wrS d (.addr (d,0) [0]) (.ok ())) R h
    obtain ⟨vs2,h,g2⟩:=wrS_ref (m:=.ok ()) h g1.rel (lv:=.addr (d,0) [0]) (by simp [RelV,pthL])
    exact ⟨_,_,h,g1.trans g2⟩
 theorem tv_box {d:Option Nat} {x:Operand} {k:Co ρ} (R:Rel vs st):(match d with
   |some d=>evT x fun v=>closeCT v fun cs=>freshT d ⟨true,cs⟩ (wrS N d (.addr (d,0) ⟨0,[]⟩) k)
   |none=>no 32) vs=some y →
   Law N vs st k y (match d with
   |some d=>ev x fun v=>closeC v fun cs=>fresh d ⟨true,cs⟩ (.wrS d (.addr (d,0) [0]) (.ok ()))
   |none=>.no):=by
  intro h
  cases d with
  |none=>cases h
  |some d=>
   simp only at h ⊢
   obtain ⟨v,lv,vs1,h,hv,g1,_⟩:=evT_ref (N:=N) (m:=fun v=>closeC v fun cs=>fresh d ⟨true,cs⟩ (.wrS d (.addr (d,0) [0]) (.ok ()))) h R
   refine .of g1 ?_
   obtain ⟨cs,vs2,st2,h,g2,_⟩:=closeCT_ref (N:=N) (m:=fun cs=>fresh d ⟨true,cs⟩ (.wrS d (.addr (d,0) [0]) (.ok ()))) h g1.rel hv.w
   refine .of g2 ?_
   obtain ⟨vs3,h,g3⟩:=go_fresh (N:=N) (m:=.wrS d (.addr (d,0) [0]) (.ok ())) g2.rel h
   obtain ⟨vs4,h,g4⟩:=wrS_ref (m:=.ok ()) h g3.rel (lv:=.addr (d,0) [0]) (by simp [RelV,pthL])
   exact ⟨_,_,h,g3.trans g4⟩
 theorem tv_build {d:Option Nat} {t:TypeId} {parts:List (Nat×Operand)} {k:Co ρ} (R:Rel vs st):(match buildInfo P t,zerosT P t with
   |some (_,fs),some cs=>evPartsT parts fun vs=>match fillLT fs (cs.map .c) vs with
    |some xs=>outT N d (.agg xs) k
    |none=>no 33
   |_,_=>no 34) vs=some y →
   Law N vs st k y (match buildInfo P t with
   |some (cs,fs)=>evParts parts fun vs=>match fillL fs (cs.map .t) vs with
    |some xs=>out d (.agg xs)
    |none=>.no
   |none=>.no):=by
  intro h
  cases hb:buildInfo P t with
  |none=>rw[hb] at h;cases h
  |some bf=>
   obtain ⟨z,fs⟩:=bf
   rw[hb] at h
   cases hz:zerosT P t with
   |none=>rw[hz] at h;cases h
   |some cs=>
    rw[hz] at h
    simp only at h ⊢
    have hzc:z=encs cs:=by
     have h1:=zerosT_some hz
     unfold buildInfo at hb
     rw[h1] at hb
     split at hb
     ·rename_i z' fs' h2 h3
      cases h2
      obtain ⟨l,_,h4⟩:=Option.map_eq_some_iff.1 hb
      cases h4
      rfl
     ·cases hb
    subst hzc
    obtain ⟨ps,lps,vs1,h,hp,g1,_⟩:=evPartsT_ref (N:=N) (m:=fun vs=>match fillL fs ((encs cs).map .t) vs with
     |some xs=>out d (.agg xs)
     |none=>.no) h R
    refine .of g1 ?_
    cases hx:fillLT fs (cs.map .c) ps with
    |none=>rw[hx] at h;cases h
    |some xs=>
     rw[hx] at h
     obtain ⟨lxs,h1,h2⟩:=fillLT_some hx (rel_cells cs) hp
     rw[h1]
     exact outT_ref h g1.rel (by simp only[RelV];exact ⟨_,rfl,h2⟩)
 theorem fillE_len {wd:Nat}:∀ {cs:List (Nat×List T)} {s:Nat} {es:List (List T)},fillE wd s cs=some es→es.length=cs.length
  |[],s,es,h=>by simp only[fillE,Option.some.injEq] at h;subst h;rfl
  |(i,c) :: rest,s,es,h=>by
   simp only[fillE] at h
   split at h
   ·obtain ⟨l,h1,rfl⟩:=Option.map_eq_some_iff.1 h
    simp [fillE_len h1]
   ·cases h
 theorem fresh_ref {d:Nat} {c:Cl} {es:List (List T)} {k:Co ρ} {hi:Nat} (h:freshT d ⟨false,[c]⟩ (wrS N d (.ref (d,0) ⟨0,[]⟩ none) k) vs=some y) (R:Rel vs st) (hc:c.enc=.sl .own es) (hh:hi=es.length) :
   Law N vs st k y (fresh d ⟨false,[.sl .own es]⟩ (.wrS d (.ref (d,0) [0] 0 hi) (.ok ()))):=by
  obtain ⟨vs1,h,g1⟩:=go_fresh (N:=N) (m:=.wrS d (.ref (d,0) [0] 0 hi) (.ok ())) R h
  have e:(⟨false,encs [c]⟩:Box)=⟨false,[.sl .own es]⟩:=by simp [encs,hc]
  rw[e] at g1
  obtain ⟨vs2,h,g2⟩:=wrS_ref (m:=.ok ()) h g1.rel (lv:=.ref (d,0) [0] 0 hi) (by
   simp only[RelV]
   refine ⟨hi,rfl,es,[],?_,hh⟩
   simp [pthL,rowAt])
  exact ⟨_,_,h,g1.trans g2⟩
 theorem tv_buildSlice {d:Option Nat} {t:TypeId} {len:Nat} {parts:List (Nat×Operand)} {k:Co ρ} (R:Rel vs st):(match d,rowT P t with
   |some d,some r=>match Nat.ble (len * r.length) 16777216 with
    |true=>evPartsT parts fun vs=>closePartsT vs fun cs=>match Nat.beq cs.length len with
     |true=>fun st=>fillET (cts r) (partF r cs) 0 cs fun l=>freshT d ⟨false,[⟨.sl (cts r),partN r cs,l⟩]⟩ (wrS N d (.ref (d,0) ⟨0,[]⟩ none) k) st
     |false=>no 35
    |false=>no 35
   |_,_=>no 36) vs=some y →
   Law N vs st k y (match d,rowInfo P t with
   |some d,some z=>if len * z.length≤16777216 then evParts parts fun vs=>closeParts vs fun cs=>match fillE z.length 0 cs with
     |some es=>if es.length=len then fresh d ⟨false,[.sl .own es]⟩ (.wrS d (.ref (d,0) [0] 0 len) (.ok ())) else .no
     |none=>.no
    else .no
   |_,_=>.no):=by
  intro h
  cases d with
  |none=>cases h
  |some d=>
   cases hr:rowT P t with
   |none=>rw[hr] at h;cases h
   |some r=>
    rw[hr] at h
    obtain ⟨z,e,h1,h2,h3,h4⟩:=rowT_some hr
    rw[h1]
    simp only at h ⊢
    cases hc:Nat.ble (len * r.length) 16777216 with
    |false=>rw[hc] at h;cases h
    |true=>
     rw[hc] at h
     have hc1:=Nat.le_of_ble_eq_true hc
     rw[h4,if_pos hc1]
     simp only at h
     obtain ⟨ps,lps,vs1,h,hp,g1,_⟩:=evPartsT_ref (N:=N) (m:=fun vs=>closeParts vs fun cs=>match fillE r.length 0 cs with
      |some es=>if es.length=len then fresh d ⟨false,[.sl .own es]⟩ (.wrS d (.ref (d,0) [0] 0 len) (.ok ())) else .no
      |none=>.no) h R
     refine .of g1 ?_
     obtain ⟨cs,vs2,st2,h,g2,_⟩:=closePartsT_ref (N:=N) (m:=fun cs=>match fillE r.length 0 cs with
      |some es=>if es.length=len then fresh d ⟨false,[.sl .own es]⟩ (.wrS d (.ref (d,0) [0] 0 len) (.ok ())) else .no
      |none=>.no) h g1.rel hp.w
     refine .of g2 ?_
     cases hl:Nat.beq cs.length len with
     |false=>rw[hl] at h;cases h
     |true=>
      rw[hl] at h
      have hlen:=Nat.eq_of_beq_eq_true hl
      simp only at h
      obtain ⟨l,h,h5⟩:=fillET_some h
      have h6:(cts r).length=r.length:=by simp [cts]
      rw[h6] at h5
      have hel:=fillE_len h5
      rw[show (encPs cs).length=cs.length by simp [encPs],hlen] at hel
      rw[h5]
      simp only
      rw[if_pos hel]
      refine fresh_ref h g2.rel ?_ hel.symm
      cases cs with
      |nil=>
       have:lis (cts r) l=[]:=by
        have:((lis (cts r) l).map fun e=>encR (cts r) (partF r []) e).length=0:=by rw[hel,← hlen];rfl
        rw[List.length_map] at this
        exact List.length_eq_zero_iff.1 this
       rw[this]
       rfl
      |cons c cs=>rfl
 end
 end TM
 namespace TM
 open Go
 section
 variable {ρ:Type} {N:Nat} {vs vs':VS} {st st':St} {y:ρ} {P:Program}
 abbrev binL (N:Nat) (P:Program) (t:TypeId) (op:BinOp) (d:Option Nat) (vs:VS) (st:St) (k:Co ρ) (y:ρ) (lv lu:LV):Prop:=Law N vs st k y (match binV P t op lv lu with
    |some r=>out d (.t (.v r))
    |none=>.no)
 theorem out_law {d:Option Nat} {c:Cl} {x:Value} {k:Co ρ} (R:Rel vs st) (hc:c.enc=.v x) (h:outT N d (.c c) k vs=some y):Law N vs st k y (out d (.t (.v x))):=
  outT_ref h R (by simp only[RelV];rw[hc])
 theorem div_zero {l:IntKind} {b:V (.int l)} {d:Option Nat} {c:Cl} {k:Co ρ} (h:iteC (ieq l b (iLit l 0)) (no 17) (outT N d (.c c) k) vs=some y):(show Int from b)≠0∧outT N d (.c c) k vs=some y:=by
  rcases iteC_ref h with ⟨_,h⟩ | ⟨hb,h⟩
  ·cases h
  ·refine ⟨fun hb0=>?_,h⟩
   have:((show Int from b)==(0:Int))=false:=hb
   rw[hb0] at this
   cases this
 theorem bin_int {t:TypeId} {op:BinOp} {d:Option Nat} {l m:IntKind} {a:V (.int l)} {b:V (.int m)} {f1 f2:Fg} {k:Co ρ} (R:Rel vs st) :
   binT N P t op d (.c ⟨.int l,f1,a⟩) (.c ⟨.int m,f2,b⟩) k vs=some y→binL N P t op d vs st k y (.t (.v (.int l a))) (.t (.v (.int m b))):=by
  intro h
  have hs:∀ r:V (.int l),shI l op a b=some r→iteC (ilt m b (iLit m 0)) (no 17) (outT N d (.c ⟨.int l,.z,r⟩) k) vs=some y→binL N P t op d vs st k y (.t (.v (.int l a))) (.t (.v (.int m b))):=by
   intro r hr h
   rcases iteC_ref h with ⟨_,h⟩ | ⟨hb,h⟩
   ·cases h
   ·have hb':¬ (show Int from b)<0:=of_decide_eq_false hb
    unfold binL
    simp only[binV,intB,hr]
    rw[if_neg hb']
    exact out_law R (c:=⟨.int l,.z,r⟩) rfl h
  by_cases h1:op=.shl
  ·subst h1;exact hs _ rfl h
  by_cases h2:op=.shr
  ·subst h2;exact hs _ rfl h
  have hn:shI l op a b=none:=by cases op<;>first | rfl | exact absurd rfl h1 | exact absurd rfl h2
  have h:(match decide (l=m) with
    |true=>intT N op d l a (icast l m b) k
    |false=>no 18) vs=some y:=by
   simp only[binT] at h
   cases op<;>first | exact h | exact absurd rfl h1 | exact absurd rfl h2
  cases hd:decide (l=m) with
  |false=>rw[hd] at h;cases h
  |true=>
   rw[hd] at h
   have hlm:=of_decide_eq_true hd
   subst hlm
   unfold binL
   simp only[binV,intB,hn,if_true]
   have h:intT N op d l a b k vs=some y:=h
   cases op with
   |add=>exact out_law R (c:=⟨.int l,.z,iadd l a b⟩) rfl h
   |sub=>exact out_law R (c:=⟨.int l,.z,isub l a b⟩) rfl h
   |mul=>exact out_law R (c:=⟨.int l,.z,imul l a b⟩) rfl h
   |quo=>
    obtain ⟨h0,h⟩:=div_zero h
    simp only[ariI]
    rw[if_neg h0]
    exact out_law R (c:=⟨.int l,.z,iquo l a b⟩) rfl h
   |rem=>
    obtain ⟨h0,h⟩:=div_zero h
    simp only[ariI]
    rw[if_neg h0]
    exact out_law R (c:=⟨.int l,.z,irem l a b⟩) rfl h
   |and=>exact out_law R (c:=⟨.int l,.z,iand l a b⟩) rfl h
   |or=>exact out_law R (c:=⟨.int l,.z,ior l a b⟩) rfl h
   |xor=>exact out_law R (c:=⟨.int l,.z,ixor l a b⟩) rfl h
   |eql=>exact out_law R (c:=⟨.bool,.z,ieq l a b⟩) rfl h
   |neq=>exact out_law R (c:=⟨.bool,.z,bnot (ieq l a b)⟩) rfl h
   |lss=>exact out_law R (c:=⟨.bool,.z,ilt l a b⟩) rfl h
   |leq=>exact out_law R (c:=⟨.bool,.z,ile l a b⟩) rfl h
   |gtr=>exact out_law R (c:=⟨.bool,.z,ilt l b a⟩) rfl h
   |geq=>exact out_law R (c:=⟨.bool,.z,ile l b a⟩) rfl h
   |_=>first | cases h | exact absurd rfl h1 | exact absurd rfl h2
 theorem str_cat (a b:List UInt8):ByteArray.mk a.toArray++ByteArray.mk b.toArray=ByteArray.mk (a++b).toArray:=by
  have:(ByteArray.mk a.toArray++ByteArray.mk b.toArray).data=(a++b).toArray:=by simp
  cases hx:(ByteArray.mk a.toArray++ByteArray.mk b.toArray) with
  |mk dd=>rw[hx] at this;simp only at this;rw[this]
 theorem bin_str {t:TypeId} {op:BinOp} {d:Option Nat} {a b:List UInt8} {f1 f2:Fg} {k:Co ρ} (R:Rel vs st) :
   binT N P t op d (.c ⟨.str,f1,a⟩) (.c ⟨.str,f2,b⟩) k vs=some y→binL N P t op d vs st k y (.t (.v (.string ⟨a.toArray⟩))) (.t (.v (.string ⟨b.toArray⟩))):=by
  intro h
  cases op with
  |eql=>exact out_law R (c:=⟨.bool,.z,seqv a b⟩) rfl h
  |neq=>exact out_law R (c:=⟨.bool,.z,bnot (seqv a b)⟩) rfl h
  |lss=>exact out_law R (c:=⟨.bool,.z,sltv a b⟩) rfl h
  |geq=>exact out_law R (c:=⟨.bool,.z,bnot (sltv a b)⟩) rfl h
  |add=>
   simp only[binT,scat,catS] at h
   split at h
   ·rename_i hlen
    have hs:(ByteArray.mk a.toArray).size+(ByteArray.mk b.toArray).size≤small:=hlen
    unfold binL
    rw[show binV P t .add (.t (.v (.string ⟨a.toArray⟩))) (.t (.v (.string ⟨b.toArray⟩)))=if (ByteArray.mk a.toArray).size+(ByteArray.mk b.toArray).size≤small then some (.string (ByteArray.mk a.toArray++ByteArray.mk b.toArray)) else none from rfl,if_pos hs,str_cat]
    exact out_law R (c:=⟨.str,.z,a++b⟩) rfl h
   ·cases h
  |_=>cases h
 theorem bin_bool {t:TypeId} {op:BinOp} {d:Option Nat} {a b:Bool} {f1 f2:Fg} {k:Co ρ} (R:Rel vs st) :
   binT N P t op d (.c ⟨.bool,f1,a⟩) (.c ⟨.bool,f2,b⟩) k vs=some y→binL N P t op d vs st k y (.t (.v (.bool a))) (.t (.v (.bool b))):=by
  intro h
  simp only[binT] at h
  unfold binL
  simp only[binV]
  cases hu:P.underlying t with
  |none=>rw[hu] at h;cases h
  |some ds=>
   rw[hu] at h
   cases ds with
   |bool=>
    cases op with
    |eql=>exact out_law R (c:=⟨.bool,.z,beqv a b⟩) rfl h
    |neq=>exact out_law R (c:=⟨.bool,.z,bnot (beqv a b)⟩) rfl h
    |_=>cases h
   |_=>cases h
 theorem nthT_rel {Q:Nm→Pth→Nat→Prop}:∀ {xs:List TV} {lxs:List LV} {n:Nat} {v:TV},RelVs Q xs lxs→nthT xs n=some v→∃ lv,lxs[n]?=some lv∧RelV Q v lv
  |[],_,_,_,_,h=>by simp [nthT] at h
  |x :: xs,[],_,_,hr,_=>by simp only[RelVs] at hr
  |x :: xs,l :: ls,0,v,hr,h=>by
   simp only[RelVs] at hr
   simp only[nthT,Option.some.injEq] at h
   subst h
   exact ⟨l,by simp,hr.1⟩
  |x :: xs,l :: ls,n+1,v,hr,h=>by
   simp only[RelVs] at hr
   simp only[nthT] at h
   obtain ⟨lv,h1,h2⟩:=nthT_rel hr.2 h
   exact ⟨lv,by simpa using h1,h2⟩
 theorem flat1T_rel {Q:Nm→Pth→Nat→Prop} {d:Option TypeDesc} {x y:TV} {lx ly:LV} {r:V .bool} (h:flat1T d x y=some r) (hx:RelV Q x lx) (hy:RelV Q y ly):flat1 d lx ly=some r:=by
  unfold flat1T at h
  split at h
  ·rw[boolV hx,boolV hy];cases h;rfl
  ·rename_i k _ a l _ b
   rw[intV hx,intV hy]
   cases hk:decide (k=l) with
   |false=>rw[hk] at h;cases h
   |true=>
    rw[hk] at h
    cases h
    have:=of_decide_eq_true hk
    simp only[flat1,if_pos this]
    rfl
  ·rw[strV hx,strV hy]
   cases h
   simp only[flat1]
   rfl
  ·cases h
 theorem eqFT_rel {Q:Nm→Pth→Nat→Prop} {xs ys:List TV} {lxs lys:List LV} (hx:RelVs Q xs lxs) (hy:RelVs Q ys lys):∀ (fs:List Field) {r:V .bool},eqFT P fs xs ys=some r→eqFs P fs lxs lys=some r
  |[],r,h=>by simp only[eqFT,Option.some.injEq] at h;subst h;rfl
  |f :: fs,r,h=>by
   simp only[eqFT] at h
   cases hn:(f.name== "_") with
   |true=>rw[hn] at h;cases h
   |false=>
    rw[hn] at h
    cases h1:nthT xs f.offset with
    |none=>rw[h1] at h;cases h
    |some x=>
     rw[h1] at h
     cases h2:nthT ys f.offset with
     |none=>rw[h2] at h;cases h
     |some z=>
      rw[h2] at h
      simp only at h
      cases h3:flat1T (P.underlying f.type) x z with
      |none=>rw[h3] at h;cases fs<;>cases h
      |some r1=>
       rw[h3] at h
       cases h4:eqFT P fs xs ys with
       |none=>rw[h4] at h;cases fs<;>cases h
       |some r2=>
        rw[h4] at h
        have h:r=Bool.and r1 r2:=by
         cases fs with
         |nil=>
          simp only[eqFT,Option.some.injEq] at h4
          cases h
          rw[← h4]
          exact (Bool.and_true r).symm
         |cons _ _=>cases h;rfl
        subst h
        obtain ⟨lx,k1,k2⟩:=nthT_rel hx h1
        obtain ⟨ly,k3,k4⟩:=nthT_rel hy h2
        simp only[eqFs,hn,k1,k3,flat1T_rel h3 k2 k4,eqFT_rel hx hy fs h4]
        rfl
 theorem bin_agg {t:TypeId} {op:BinOp} {d:Option Nat} {xs ys:List TV} {lv lu:LV} {k:Co ρ} (R:Rel vs st) (hv:RelV (Qs st.b) (.agg xs) lv) (hu:RelV (Qs st.b) (.agg ys) lu) :
   binT N P t op d (.agg xs) (.agg ys) k vs=some y→binL N P t op d vs st k y lv lu:=by
  intro h
  simp only[RelV] at hv hu
  obtain ⟨lxs,rfl,hx⟩:=hv
  obtain ⟨lys,rfl,hy⟩:=hu
  simp only[binT] at h
  unfold eqST at h
  unfold binL
  simp only[binV]
  cases hp:P.underlying t with
  |none=>rw[hp] at h;cases h
  |some u=>
   rw[hp] at h
   cases u with
   |struct fs=>
    simp only at h ⊢
    cases hs:(P.stoodInHeld t || P.eqGuardType P.depth t) with
    |true=>rw[hs] at h;cases h
    |false=>
     rw[hs] at h
     simp only[Bool.or_eq_false_iff] at hs
     rw[if_pos hs]
     simp only at h
     cases he:eqFT P fs.toList xs ys with
     |none=>rw[he] at h;cases h
     |some r=>
      rw[he] at h
      rw[eqFT_rel hx hy _ he]
      cases op with
      |eql=>exact out_law R (x:=.bool r) rfl h
      |neq=>exact out_law R (x:=.bool (!r)) rfl h
      |_=>cases h
   |_=>cases h
 theorem binT_ref {t:TypeId} {op:BinOp} {d:Option Nat} {v u:TV} {lv lu:LV} {k:Co ρ} (R:Rel vs st) (hv:RelV (Qs st.b) v lv) (hu:RelV (Qs st.b) u lu) :
   binT N P t op d v u k vs=some y→binL N P t op d vs st k y lv lu:=by
  intro h
  cases v with
  |c x=>
   cases u with
   |c z=>
    obtain ⟨t1,f1,a⟩:=x
    obtain ⟨t2,f2,b⟩:=z
    simp only[RelV] at hv hu
    subst hv
    subst hu
    cases t1 with
    |int k1=>
     cases t2 with
     |int k2=>
      exact bin_int R h
     |_=>cases h
    |str=>cases t2<;>first | exact bin_str R h | cases h
    |bool=>cases t2<;>first | exact bin_bool R h | cases h
    |_=>cases h
   |_=>
    obtain ⟨t1,f1,a⟩:=x
    cases t1 with
    |_=>cases h
  |agg xs=>
   cases u with
   |agg ys=>exact bin_agg R hv hu h
   |_=>cases h
  |_=>cases h
 end
 end TM
 namespace TM
 open Go
 section
 variable {ρ:Type} {N:Nat} {vs vs':VS} {st st':St} {y:ρ} {P:Program}
 theorem at_some {α:Type} {l:List α} {i:Int} {k:Nat→α→Option ρ} (h:at_ l i k=some y):∃ e,0≤i∧l[i.toNat]?=some e∧k i.toNat e=some y:=by
  unfold at_ at h
  split at h
  ·rename_i e he
   split at he
   ·exact ⟨e,by assumption,he,h⟩
   ·cases he
  ·cases h
 theorem atW_some {α:Type} {l:List α} {x y:Nat} {j:Int} {k:Nat→α→Option ρ} {z:ρ} (h:atW l x y j k=some z):∃ e,(0≤j∧j<((y-x:Nat):Int))∧l[x+j.toNat]?=some e∧k (x+j.toNat) e=some z:=by
  unfold atW at h
  split at h
  ·rename_i e he
   split at he
   ·exact ⟨e,by assumption,he,h⟩
   ·cases he
  ·cases h
 theorem loadR_ref {d:Option Nat} {t:TypeId} {n:Nm} {p:Pth} {k:Co ρ} (R:Rel vs st) (h:loadR N P t d n p k vs=some y):Law N vs st k y (loadB P t d n (pthL p)):=by
  unfold loadR at h
  obtain ⟨row,vs2,h,hrow,g2,_⟩:=rowC_ref (N:=N) (m:=fun bx=>match rowAt bx.cells (pthL p) with
    |some row=>match isAgg P t with
     |some true=>if P.cellsOf t≤row.length then out d (.agg (seens n (pthL p) 0 (row.take (P.cellsOf t)))) else .no
     |some false=>match row with
      |y :: _=>out d (seen n (bump 0 (pthL p)) y)
      |[]=>.no
     |none=>.no
    |none=>.no) h R
  refine .of g2 ?_
  rw[hrow]
  simp only
  have hrow0:rowAt (st.b n).cells (pthL (p.add 0))=some (encs row):=by rw[pthL_add,bump_zero];exact hrow
  cases ha:isAgg P t with
  |none=>rw[ha] at h;cases h
  |some b=>
   rw[ha] at h
   cases b with
   |true=>
    simp only at h ⊢
    cases hc:Nat.ble (P.cellsOf t) row.length with
    |false=>rw[hc] at h;cases h
    |true=>
     rw[hc] at h
     rw[if_pos (by simpa [encs] using Nat.le_of_ble_eq_true hc)]
     refine outT_ref h g2.rel ?_
     simp only[RelV]
     refine ⟨_,rfl,?_⟩
     rw[encs_take]
     refine seensT_rel _ 0 (row:=encs (row.drop (P.cellsOf t))) ?_
     rw[hrow0]
     simp only[encs,← List.map_append,List.take_append_drop]
   |false=>
    cases row with
    |nil=>cases h
    |cons z rest=>
     simp only[encs,List.map_cons] at h ⊢
     refine outT_ref h g2.rel ?_
     rw[← pthL_add]
     exact seenT_rel hrow0
 theorem go_rdH {γ:Type} {n:Nm} {c:Nat} {k:Option Nat→M γ} (h:Rel vs st):Go1 N vs st (.rdH n c k) ⟨vs.s,vs.b,.rH n :: vs.lg⟩ st (k (hdrLen (st.b n).cells c)):=
  ⟨⟨h.s,h.b⟩,[.rH n c (hdrLen (st.b n).cells c)],by simp only[M.runT];cases (k (hdrLen (st.b n).cells c)).runT N st<;>rfl,.one (f:=.rH n) rfl⟩
 theorem loadT_ref {d:Option Nat} {t:TypeId} {n:Nm} {p:Pth} {k:Co ρ} (R:Rel vs st) (h:loadT N P t d n p k vs=some y):Law N vs st k y (loadM P t d n (pthL p)):=by
  obtain ⟨c,r⟩:=p
  by_cases hc:r=[]∧isAgg P t=some false
  ·obtain ⟨rfl,ha⟩:=hc
   have h:hdr1 n c (outT N d (.ref n ⟨c,[]⟩ none) k) (loadR N P t d n ⟨c,[]⟩ k) vs=some y:=by
    unfold loadT at h
    rw[ha] at h
    exact h
   unfold hdr1 at h
   cases hb:lookB vs.b n with
   |none=>rw[hb] at h;cases h
   |some bx=>
    rw[hb] at h
    simp only at h
    obtain ⟨b1,b2⟩:=R.b n bx hb
    cases hd:bx.cells.drop c with
    |nil=>rw[hd] at h;cases h
    |cons x rest=>
     rw[hd] at h
     simp only at h
     have hm:loadM P t d n (pthL ⟨c,[]⟩)=.rdH n c fun o=>match o with
       |some hi=>out d (.ref n [c] 0 hi)
       |none=>loadB P t d n [c]:=by
      show loadM P t d n [c]=_
      unfold loadM
      rw[ha]
      rfl
     have hdr:(st.b n).cells.drop c=x.enc :: encs rest:=by rw[b2,encs_drop,hd];rfl
     rw[hm]
     refine .of (go_rdH R) ?_
     cases ho:x.ownH with
     |true=>
      rw[ho] at h
      obtain ⟨es,hes⟩:=ownH_enc.1 ho
      have hl:hdrLen (st.b n).cells c=some es.length:=by
       unfold hdrLen
       rw[hdr,hes]
      rw[hl]
      refine outT_ref h (R.lg _) ?_
      simp only[RelV]
      exact ⟨_,rfl,es,encs rest,by show rowAt _ [c]=_;simp only[rowAt];rw[hdr,hes],rfl⟩
     |false=>
      rw[ho] at h
      have hne:∀ es,x.enc≠.sl .own es:=fun es he=>by
       rw[ownH_enc.2 ⟨es,he⟩] at ho
       cases ho
      have hl:hdrLen (st.b n).cells c=none:=by
       unfold hdrLen
       rw[hdr]
       split
       ·rename_i es r heq
        simp only[List.cons.injEq] at heq
        exact absurd heq.1 (hne es)
       ·rfl
      rw[hl]
      exact loadR_ref (R.lg _) h
  ·have hm:loadM P t d n (pthL ⟨c,r⟩)=loadB P t d n (pthL ⟨c,r⟩):=by
    cases r with
    |nil=>
     show loadM P t d n [c]=loadB P t d n [c]
     unfold loadM
     cases ha:isAgg P t with
     |none=>rfl
     |some b=>
      cases b with
      |true=>rfl
      |false=>exact absurd ⟨rfl,ha⟩ hc
    |cons x r=>rfl
   rw[hm]
   have h:loadR N P t d n ⟨c,r⟩ k vs=some y:=by
    unfold loadT at h
    cases r with
    |nil=>
     cases ha:isAgg P t with
     |none=>rw[ha] at h;exact h
     |some b=>
      cases b with
      |true=>rw[ha] at h;exact h
      |false=>exact absurd ⟨rfl,ha⟩ hc
    |cons x r=>exact h
   exact loadR_ref R h
 theorem tv_load {d:Option Nat} {t:TypeId} {x:Operand} {k:Co ρ} (R:Rel vs st):(evT x fun v=>match v with
   |.addr n p=>loadT N P t d n p k
   |.raddr cs=>match isAgg P t with
    |some true=>match Nat.ble (P.cellsOf t) cs.length with
     |true=>outT N d (.agg ((cs.take (P.cellsOf t)).map .c)) k
     |false=>no 43
    |some false=>match cs with
     |y :: _=>outT N d (.c y) k
     |[]=>no 44
    |none=>no 45
   |.va xs=>match isAgg P t with
    |some true=>match Nat.ble (P.cellsOf t) xs.length with
     |true=>outT N d (.agg (xs.take (P.cellsOf t))) k
     |false=>no 43
    |some false=>match xs with
     |y :: _=>outT N d y k
     |[]=>no 44
    |none=>no 45
   |_=>no 46) vs=some y→Law N vs st k y (ev x fun v=>match v with
   |.addr n p=>loadM P t d n p
   |.raddr cs=>match isAgg P t with
    |some true=>if P.cellsOf t≤cs.length then out d (.agg ((cs.take (P.cellsOf t)).map .t)) else .no
    |some false=>match cs with
     |y :: _=>out d (.t y)
     |[]=>.no
    |none=>.no
   |.va xs=>match isAgg P t with
    |some true=>if P.cellsOf t≤xs.length then out d (.agg (xs.take (P.cellsOf t))) else .no
    |some false=>match xs with
     |y :: _=>out d y
     |[]=>.no
    |none=>.no
   |_=>.no):=by
  intro h
  obtain ⟨v,lv,vs1,h,hv,g1,_⟩:=evT_ref (N:=N) (m:=fun v=>match v with
   |.addr n p=>loadM P t d n p
   |.raddr cs=>match isAgg P t with
    |some true=>if P.cellsOf t≤cs.length then out d (.agg ((cs.take (P.cellsOf t)).map .t)) else .no
    |some false=>match cs with
     |y :: _=>out d (.t y)
     |[]=>.no
    |none=>.no
   |.va xs=>match isAgg P t with
    |some true=>if P.cellsOf t≤xs.length then out d (.agg (xs.take (P.cellsOf t))) else .no
    |some false=>match xs with
     |y :: _=>out d y
     |[]=>.no
    |none=>.no
   |_=>.no) h R
  refine .of g1 ?_
  cases v with
  |addr n p=>
   rw[addrV hv]
   exact loadT_ref g1.rel h
  |raddr cs=>
   simp only[RelV] at hv
   subst hv
   simp only
   cases ha:isAgg P t with
   |none=>simp only[ha] at h;cases h
   |some b=>
    simp only[ha] at h
    cases b with
    |true=>
     simp only at h ⊢
     cases hc:Nat.ble (P.cellsOf t) cs.length with
     |false=>rw[hc] at h;cases h
     |true=>
      rw[hc] at h
      have hle:=Nat.le_of_ble_eq_true hc
      have hl:(encs cs).length=cs.length:=by simp [encs]
      rw[if_pos (by omega),encs_take]
      exact outT_ref h g1.rel (by simp only[RelV];exact ⟨_,rfl,rel_cells _⟩)
    |false=>
     cases cs with
     |nil=>cases h
     |cons z cs=>exact outT_ref h g1.rel (by simp only[RelV])
  |va xs=>
   simp only[RelV] at hv
   obtain ⟨us,rfl,hu⟩:=hv
   simp only
   cases ha:isAgg P t with
   |none=>simp only[ha] at h;cases h
   |some b=>
    simp only[ha] at h
    cases b with
    |true=>
     simp only at h ⊢
     cases hc:Nat.ble (P.cellsOf t) xs.length with
     |false=>rw[hc] at h;cases h
     |true=>
      rw[hc] at h
      have hle:=Nat.le_of_ble_eq_true hc
      rw[if_pos (by rw[← RelVs.length hu];exact hle)]
      exact outT_ref h g1.rel (by simp only[RelV];exact ⟨_,rfl,hu.take _⟩)
    |false=>
     cases xs with
     |nil=>cases h
     |cons z xs=>
      cases us with
      |nil=>simp only[RelVs] at hu
      |cons u us=>
       simp only[RelVs] at hu
       exact outT_ref h g1.rel hu.1
  |_=>cases h
 theorem tv_store {d:Option Nat} {t:TypeId} {x z:Operand} {k:Co ρ} (R:Rel vs st):(evT x fun v=>match v with
   |.addr n p=>evT z fun u=>closeCT u fun cs=>match Nat.beq (P.cellsOf t) cs.length&&Nat.blt 0 cs.length with
    |true=>storesT n p 0 cs (outT N d .dead k)
    |false=>no 47
   |_=>no 48) vs=some y→Law N vs st k y (ev x fun v=>match v with
   |.addr n p=>ev z fun u=>closeC u fun cs=>if P.cellsOf t=cs.length∧0<cs.length then stores n p 0 cs (out d .dead) else .no
   |_=>.no):=by
  intro h
  obtain ⟨v,lv,vs1,h,hv,g1,_⟩:=evT_ref (N:=N) (m:=fun v=>match v with
   |.addr n p=>ev z fun u=>closeC u fun cs=>if P.cellsOf t=cs.length∧0<cs.length then stores n p 0 cs (out d .dead) else .no
   |_=>.no) h R
  refine .of g1 ?_
  cases v with
  |addr n p=>
   rw[addrV hv]
   obtain ⟨u,lu,vs2,h,hu,g2,_⟩:=evT_ref (N:=N) (m:=fun u=>closeC u fun cs=>if P.cellsOf t=cs.length∧0<cs.length then stores n (pthL p) 0 cs (out d .dead) else .no) h g1.rel
   refine .of g2 ?_
   obtain ⟨cs,vs3,st3,h,g3,_⟩:=closeCT_ref (N:=N) (m:=fun cs=>if P.cellsOf t=cs.length∧0<cs.length then stores n (pthL p) 0 cs (out d .dead) else .no) h g2.rel hu.w
   refine .of g3 ?_
   cases hc:(Nat.beq (P.cellsOf t) cs.length&&Nat.blt 0 cs.length) with
   |false=>rw[hc] at h;cases h
   |true=>
    rw[hc] at h
    simp only[Bool.and_eq_true] at hc
    have h1:=Nat.eq_of_beq_eq_true hc.1
    have h2:0<cs.length:=by simpa using hc.2
    rw[if_pos (by simpa [encs] using ⟨h1,h2⟩)]
    obtain ⟨vs4,st4,h,g4⟩:=storesT_ref (N:=N) (m:=out d .dead) cs h g3.rel
    exact .of g4 (outT_ref h g4.rel (by simp only[RelV]))
  |_=>cases h
 theorem tv_nilCheck {d:Option Nat} {x:Operand} {k:Co ρ} (R:Rel vs st):(evT x fun v=>match v with
   |.addr n p=>outT N d (.addr n p) k
   |.raddr cs=>outT N d (.raddr cs) k
   |_=>no 49) vs=some y→Law N vs st k y (ev x fun v=>match v with
   |.addr n p=>out d (.addr n p)
   |.raddr cs=>out d (.raddr cs)
   |_=>.no):=by
  intro h
  obtain ⟨v,lv,vs1,h,hv,g1,_⟩:=evT_ref (N:=N) (m:=fun v=>match v with
   |.addr n p=>out d (.addr n p)
   |.raddr cs=>out d (.raddr cs)
   |_=>.no) h R
  refine .of g1 ?_
  cases v with
  |addr n p=>rw[addrV hv];exact outT_ref h g1.rel (by simp only[RelV])
  |raddr cs=>
   have hv':=hv
   simp only[RelV] at hv
   subst hv
   exact outT_ref h g1.rel hv'
  |_=>cases h
 theorem tv_unOp {op:UnOp} {d:Option Nat} {x:Operand} {k:Co ρ} (R:Rel vs st):(evT x fun v=>match op,v with
   |.not,.c ⟨.bool,_,r⟩=>outT N d (.c ⟨.bool,.z,bnot r⟩) k
   |.neg,.c ⟨.int .i64,_,n⟩=>outT N d (.c ⟨.int .i64,.z,ineg .i64 n⟩) k
   |_,_=>no 50) vs=some y→Law N vs st k y (ev x fun v=>match op,v with
   |.not,.t (.v (.bool b))=>out d (.t (.v (.bool (!b))))
   |.neg,.t (.v (.int .i64 n))=>out d (.t (.v (.int .i64 (IntKind.i64.wrap (-n)))))
   |_,_=>.no):=by
  intro h
  obtain ⟨v,lv,vs1,h,hv,g1,_⟩:=evT_ref (N:=N) (m:=fun v=>match op,v with
   |.not,.t (.v (.bool b))=>out d (.t (.v (.bool (!b))))
   |.neg,.t (.v (.int .i64 n))=>out d (.t (.v (.int .i64 (IntKind.i64.wrap (-n)))))
   |_,_=>.no) h R
  refine .of g1 ?_
  cases v with
  |c x=>
   obtain ⟨t,f,a⟩:=x
   cases op with
   |not=>
    cases t with
    |bool=>rw[boolV hv];exact out_law g1.rel (c:=⟨.bool,.z,bnot a⟩) rfl h
    |_=>cases h
   |neg=>
    cases t with
    |int k0=>
     cases k0 with
     |i64=>rw[intV hv];exact out_law g1.rel (c:=⟨.int .i64,.z,ineg .i64 a⟩) rfl h
     |_=>cases h
    |_=>cases h
   |_=>cases h
  |_=>cases op<;>cases h
 theorem tv_fieldAddr {d:Option Nat} {s:TypeId} {x:Operand} {f:Nat} {k:Co ρ} (R:Rel vs st):(match fieldAt P s f with
   |some fl=>match Nat.blt 0 (P.cellsOf fl.type) with
    |true=>evT x fun v=>match v with
     |.addr n p=>outT N d (.addr n (p.add fl.offset)) k
     |.raddr cs=>outT N d (.raddr (cs.drop fl.offset)) k
     |.va xs=>outT N d (.va (xs.drop fl.offset)) k
     |_=>no 51
    |false=>no 52
   |none=>no 53) vs=some y→Law N vs st k y (match fieldAt P s f with
   |some fl=>if 0<P.cellsOf fl.type then ev x fun v=>match v with
    |.addr n p=>out d (.addr n (bump fl.offset p))
    |.raddr cs=>out d (.raddr (cs.drop fl.offset))
    |.va xs=>out d (.va (xs.drop fl.offset))
    |_=>.no
    else .no
   |none=>.no):=by
  intro h
  cases hf:fieldAt P s f with
  |none=>rw[hf] at h;cases h
  |some fl=>
   rw[hf] at h
   simp only at h ⊢
   cases hc:Nat.blt 0 (P.cellsOf fl.type) with
   |false=>rw[hc] at h;cases h
   |true=>
    rw[hc] at h
    rw[if_pos (by simpa using hc)]
    simp only at h
    obtain ⟨v,lv,vs1,h,hv,g1,_⟩:=evT_ref (N:=N) (m:=fun v=>match v with
     |.addr n p=>out d (.addr n (bump fl.offset p))
     |.raddr cs=>out d (.raddr (cs.drop fl.offset))
     |.va xs=>out d (.va (xs.drop fl.offset))
     |_=>.no) h R
    refine .of g1 ?_
    cases v with
    |addr n p=>rw[addrV hv];exact outT_ref h g1.rel (by simp only[RelV,pthL_add])
    |raddr cs=>
     simp only[RelV] at hv
     subst hv
     refine outT_ref h g1.rel ?_
     simp only[RelV,encs_drop]
    |va xs=>
     simp only[RelV] at hv
     obtain ⟨us,rfl,hu⟩:=hv
     refine outT_ref h g1.rel ?_
     simp only[RelV]
     exact ⟨_,rfl,hu.drop _⟩
    |_=>cases h
 theorem tv_field {d:Option Nat} {s:TypeId} {x:Operand} {f:Nat} {k:Co ρ} (R:Rel vs st):(match fieldAt P s f with
   |some fl=>evT x fun v=>match v with
    |.agg xs=>match isAgg P fl.type with
     |some true=>match Nat.ble (fl.offset+P.cellsOf fl.type) xs.length with
      |true=>outT N d (.agg ((xs.drop fl.offset).take (P.cellsOf fl.type))) k
      |false=>no 54
     |some false=>match xs.drop fl.offset with
      |y :: _=>outT N d y k
      |[]=>no 55
     |none=>no 56
    |_=>no 57
   |none=>no 58) vs=some y→Law N vs st k y (match fieldAt P s f with
   |some fl=>ev x fun v=>match v with
    |.agg xs=>match isAgg P fl.type with
     |some true=>if fl.offset+P.cellsOf fl.type≤xs.length then out d (.agg ((xs.drop fl.offset).take (P.cellsOf fl.type))) else .no
     |some false=>match xs[fl.offset]? with
      |some y=>out d y
      |none=>.no
     |none=>.no
    |_=>.no
   |none=>.no):=by
  intro h
  cases hf:fieldAt P s f with
  |none=>rw[hf] at h;cases h
  |some fl=>
   rw[hf] at h
   simp only at h ⊢
   obtain ⟨v,lv,vs1,h,hv,g1,_⟩:=evT_ref (N:=N) (m:=fun v=>match v with
    |.agg xs=>match isAgg P fl.type with
     |some true=>if fl.offset+P.cellsOf fl.type≤xs.length then out d (.agg ((xs.drop fl.offset).take (P.cellsOf fl.type))) else .no
     |some false=>match xs[fl.offset]? with
      |some y=>out d y
      |none=>.no
     |none=>.no
    |_=>.no) h R
   refine .of g1 ?_
   cases v with
   |agg xs=>
    simp only[RelV] at hv
    obtain ⟨us,rfl,hu⟩:=hv
    simp only
    cases ha:isAgg P fl.type with
    |none=>simp only[ha] at h;cases h
    |some b=>
     simp only[ha] at h
     cases b with
     |true=>
      simp only at h ⊢
      cases hc:Nat.ble (fl.offset+P.cellsOf fl.type) xs.length with
      |false=>rw[hc] at h;cases h
      |true=>
       rw[hc] at h
       rw[if_pos (by rw[← RelVs.length hu];exact Nat.le_of_ble_eq_true hc)]
       exact outT_ref h g1.rel (by simp only[RelV];exact ⟨_,rfl,(hu.drop _).take _⟩)
     |false=>
      simp only at h ⊢
      have hd:=hu.drop fl.offset
      cases hx:xs.drop fl.offset with
      |nil=>rw[hx] at h;cases h
      |cons z rest=>
       rw[hx] at h hd
       cases hux:us.drop fl.offset with
       |nil=>rw[hux] at hd;simp only[RelVs] at hd
       |cons w rest'=>
        rw[hux] at hd
        simp only[RelVs] at hd
        rw[drop_head hux]
        exact outT_ref h g1.rel hd.1
   |_=>cases h
 theorem pthL_snoc (p:Pth) (m:Nat):pthL ⟨p.c0,p.r++[(m,0)]⟩=pthL p++[m,0]:=by simp [pthL]
 theorem tv_indexAddr {d:Option Nat} {t:TypeId} {x i:Operand} {k:Co ρ} (R:Rel vs st):(match P.underlying t with
   |some (.slice el)=>evT x fun v=>evT i fun w=>match v,w with
    |.c ⟨.sl r,.sl f fs,l⟩,.c ⟨.int .i64,_,j⟩=>match f.low&&(Nat.beq r.length (P.cellsOf el)&&Nat.beq fs.length r.length) with
     |true=>fun st=>lget r l j fun _ e=>outT N d (.raddr (cellsOf r fs e)) k st
     |false=>no 59
    |.ref n p none,.c ⟨.int .i64,_,j⟩=>rowC n p fun row=>match row with
     |⟨.sl r,.sl .own fs,l⟩ :: _=>match Nat.beq r.length (P.cellsOf el)&&Nat.beq fs.length r.length with
      |true=>fun st=>lget r l j fun m _=>outT N d (.addr n ⟨p.c0,p.r++[(m,0)]⟩) k st
      |false=>no 60
     |⟨.hs c1 r,.sl .own fs,v⟩ :: _=>match Nat.beq r.length (P.cellsOf el)&&Nat.beq fs.length r.length with
      |true=>fun st=>lget r (hsL c1 r v) j fun m _=>outT N d (.addr n ⟨p.c0,p.r++[(m,0)]⟩) k st
      |false=>no 60
     |_=>no 61
    |.ref n p (some (x,y)),.c ⟨.int .i64,_,j⟩=>rowC n p fun row=>match row with
     |⟨.sl r,.sl .own fs,l⟩ :: _=>match Nat.beq r.length (P.cellsOf el)&&Nat.beq fs.length r.length with
      |true=>fun st=>lgetW r l x y j fun m _=>outT N d (.addr n ⟨p.c0,p.r++[(m,0)]⟩) k st
      |false=>no 60
     |_=>no 61
    |_,_=>no 62
   |_=>no 63) vs=some y→Law N vs st k y (match P.underlying t with
   |some (.slice el)=>ev x fun v=>ev i fun w=>match v,w with
    |.t (.sl f es),.t (.v (.int .i64 k))=>if 0≤k then (match es[k.toNat]? with
     |some e=>if f=.own∨e.length≠P.cellsOf el then .no else out d (.raddr e)
     |none=>.no) else .no
    |.ref n p lo hi,.t (.v (.int .i64 k))=>.rdB n fun bx=>match rowAt bx.cells p with
     |some (.sl .own es :: _)=>match es[lo+k.toNat]? with
      |some e=>if 0≤k∧k<(hi:Int)-lo∧e.length=P.cellsOf el then out d (.addr n (p++[lo+k.toNat,0])) else .no
      |none=>.no
     |_=>.no
    |_,_=>.no
   |_=>.no):=by
  intro h
  cases hu:P.underlying t with
  |none=>rw[hu] at h;cases h
  |some ds=>
   rw[hu] at h
   cases ds with
   |slice el=>
    simp only at h ⊢
    obtain ⟨v,lv,vs1,h,hv,g1,_⟩:=evT_ref (N:=N) (m:=fun v=>ev i fun w=>match v,w with
     |.t (.sl f es),.t (.v (.int .i64 k))=>if 0≤k then (match es[k.toNat]? with
      |some e=>if f=.own∨e.length≠P.cellsOf el then .no else out d (.raddr e)
      |none=>.no) else .no
     |.ref n p lo hi,.t (.v (.int .i64 k))=>.rdB n fun bx=>match rowAt bx.cells p with
      |some (.sl .own es :: _)=>match es[lo+k.toNat]? with
       |some e=>if 0≤k∧k<(hi:Int)-lo∧e.length=P.cellsOf el then out d (.addr n (p++[lo+k.toNat,0])) else .no
       |none=>.no
      |_=>.no
     |_,_=>.no) h R
    refine .of g1 ?_
    obtain ⟨w,lw,vs2,h,hw,g2,_⟩:=evT_ref (N:=N) (m:=fun w=>match lv,w with
     |.t (.sl f es),.t (.v (.int .i64 k))=>if 0≤k then (match es[k.toNat]? with
      |some e=>if f=.own∨e.length≠P.cellsOf el then .no else out d (.raddr e)
      |none=>.no) else .no
     |.ref n p lo hi,.t (.v (.int .i64 k))=>.rdB n fun bx=>match rowAt bx.cells p with
      |some (.sl .own es :: _)=>match es[lo+k.toNat]? with
       |some e=>if 0≤k∧k<(hi:Int)-lo∧e.length=P.cellsOf el then out d (.addr n (p++[lo+k.toNat,0])) else .no
       |none=>.no
      |_=>.no
     |_,_=>.no) h g1.rel
    refine .of g2 ?_
    have hint:∀ {K:V (.int .i64)→Co ρ} {nn:Nat},(match w with
      |.c ⟨.int .i64,_,j⟩=>K j
      |_=>no nn) vs2=some y→∃ j:Int,lw=.t (.v (.int .i64 j))∧K j vs2=some y:=by
     intro K nn hh
     cases w with
     |c z=>
      obtain ⟨t2,f2,j⟩:=z
      cases t2 with
      |int k2=>
       cases k2 with
       |i64=>exact ⟨j,intV hw,hh⟩
       |_=>cases hh
      |_=>cases hh
     |_=>cases hh
    cases v with
    |c z=>
     obtain ⟨t1,f1,l⟩:=z
     cases t1 with
     |sl r=>
      cases f1 with
      |sl f fs=>
       obtain ⟨j,hj,h⟩:=hint (K:=fun j=>match f.low&&(Nat.beq r.length (P.cellsOf el)&&Nat.beq fs.length r.length) with
        |true=>fun st=>lget r l j fun _ e=>outT N d (.raddr (cellsOf r fs e)) k st
        |false=>no 59) (nn:=62) (by
         cases w with
         |c z=>
          obtain ⟨t2,f2,j⟩:=z
          cases t2 with
          |int k2=>cases k2<;>exact h
          |_=>exact h
         |_=>exact h)
       simp only[RelV] at hv
       subst hv
       subst hj
       cases hc:(f.low&&(Nat.beq r.length (P.cellsOf el)&&Nat.beq fs.length r.length)) with
       |false=>rw[hc] at h;cases h
       |true=>
        rw[hc] at h
        simp only[Bool.and_eq_true] at hc
        obtain ⟨hc0,hc1,hc2⟩:=hc
        obtain ⟨e,h0,he,h⟩:=at_some h
        rw[enc_sl]
        simp only
        have he':((lis r l).map fun e=>encR r fs e)[j.toNat]?=some (encR r fs e):=by
         rw[List.getElem?_map,show (lis r l)[j.toNat]?=some e from he];rfl
        rw[if_pos h0,he']
        simp only
        have hl:=encR_length e (Nat.eq_of_beq_eq_true hc2)
        rw[if_neg (by
         rintro (h1 | h1)
         ·subst h1;cases hc0
         ·exact h1 (by rw[hl,Nat.eq_of_beq_eq_true hc1]))]
        refine outT_ref h g2.rel ?_
        simp only[RelV,encs_cellsOf]
      |_=>cases h
     |_=>cases h
    |ref n p sub=>
     cases sub with
     |some s=>
      obtain ⟨lo,hi⟩:=s
      obtain ⟨j,hj,h⟩:=hint (K:=fun j=>rowC n p fun row=>match row with
       |⟨.sl r,.sl .own fs,l⟩ :: _=>match Nat.beq r.length (P.cellsOf el)&&Nat.beq fs.length r.length with
        |true=>fun st=>lgetW r l lo hi j fun m _=>outT N d (.addr n ⟨p.c0,p.r++[(m,0)]⟩) k st
        |false=>no 60
       |_=>no 61) (nn:=62) (by
        cases w with
        |c z=>
         obtain ⟨t2,f2,j⟩:=z
         cases t2 with
         |int k2=>cases k2<;>exact h
         |_=>exact h
        |_=>exact h)
      simp only[RelV] at hv
      obtain ⟨rfl,hlo,L,hL,es,r0,hes,hhi⟩:=hv
      subst hj
      simp only
      obtain ⟨row,vs3,h,hrow,g3,_⟩:=rowC_ref (N:=N) (m:=fun bx=>match rowAt bx.cells (pthL p) with
       |some (.sl .own es :: _)=>match es[lo+j.toNat]? with
        |some e=>if 0≤j∧j<(hi:Int)-(lo:Nat)∧e.length=P.cellsOf el then out d (.addr n (pthL p++[lo+j.toNat,0])) else .no
        |none=>.no
       |_=>.no) h g2.rel
      refine .of g3 ?_
      cases row with
      |nil=>cases h
      |cons z rest=>
       obtain ⟨t1,f1,l⟩:=z
       cases t1 with
       |sl r=>
        cases f1 with
        |sl f fs=>
         cases f with
         |own=>
          simp only at h
          cases hc:(Nat.beq r.length (P.cellsOf el)&&Nat.beq fs.length r.length) with
          |false=>rw[hc] at h;cases h
          |true=>
           rw[hc] at h
           simp only[Bool.and_eq_true] at hc
           obtain ⟨hc1,hc2⟩:=hc
           obtain ⟨e,⟨h0,h9⟩,he,h⟩:=atW_some h
           rw[hrow]
           have e1:encs (⟨.sl r,.sl .own fs,l⟩ :: rest)=.sl .own ((lis r l).map fun e=>encR r fs e) :: encs rest:=rfl
           rw[e1]
           simp only
           have he':((lis r l).map fun e=>encR r fs e)[lo+j.toNat]?=some (encR r fs e):=by
            rw[List.getElem?_map,show (lis r l)[lo+j.toNat]?=some e from he];rfl
           rw[he']
           simp only
           rw[if_pos ⟨h0,by omega,by rw[encR_length e (Nat.eq_of_beq_eq_true hc2),Nat.eq_of_beq_eq_true hc1]⟩]
           exact outT_ref h g3.rel (by simp only[RelV,pthL_snoc])
         |_=>cases h
        |_=>cases h
       |_=>cases h
     |none=>
      obtain ⟨j,hj,h⟩:=hint (K:=fun j=>rowC n p fun row=>match row with
       |⟨.sl r,.sl .own fs,l⟩ :: _=>match Nat.beq r.length (P.cellsOf el)&&Nat.beq fs.length r.length with
        |true=>fun st=>lget r l j fun m _=>outT N d (.addr n ⟨p.c0,p.r++[(m,0)]⟩) k st
        |false=>no 60
       |⟨.hs c1 r,.sl .own fs,v⟩ :: _=>match Nat.beq r.length (P.cellsOf el)&&Nat.beq fs.length r.length with
        |true=>fun st=>lget r (hsL c1 r v) j fun m _=>outT N d (.addr n ⟨p.c0,p.r++[(m,0)]⟩) k st
        |false=>no 60
       |_=>no 61) (nn:=62) (by
        cases w with
        |c z=>
         obtain ⟨t2,f2,j⟩:=z
         cases t2 with
         |int k2=>cases k2<;>exact h
         |_=>exact h
        |_=>exact h)
      simp only[RelV] at hv
      obtain ⟨hi,rfl,es,r0,hes,hhi⟩:=hv
      subst hj
      simp only
      obtain ⟨row,vs3,h,hrow,g3,_⟩:=rowC_ref (N:=N) (m:=fun bx=>match rowAt bx.cells (pthL p) with
       |some (.sl .own es :: _)=>match es[0+j.toNat]? with
        |some e=>if 0≤j∧j<(hi:Int)-(0:Nat)∧e.length=P.cellsOf el then out d (.addr n (pthL p++[0+j.toNat,0])) else .no
        |none=>.no
       |_=>.no) h g2.rel
      refine .of g3 ?_
      cases row with
      |nil=>cases h
      |cons z rest=>
       obtain ⟨t1,f1,l⟩:=z
       cases t1 with
       |sl r=>
        cases f1 with
        |sl f fs=>
         cases f with
         |own=>
          simp only at h
          cases hc:(Nat.beq r.length (P.cellsOf el)&&Nat.beq fs.length r.length) with
          |false=>rw[hc] at h;cases h
          |true=>
           rw[hc] at h
           simp only[Bool.and_eq_true] at hc
           obtain ⟨hc1,hc2⟩:=hc
           obtain ⟨e,h0,he,h⟩:=at_some h
           rw[hrow]
           have e1:encs (⟨.sl r,.sl .own fs,l⟩ :: rest)=.sl .own ((lis r l).map fun e=>encR r fs e) :: encs rest:=rfl
           rw[hrow,e1] at hes
           rw[e1]
           simp only[Option.some.injEq,List.cons.injEq,T.sl.injEq,true_and] at hes
           simp only[Nat.zero_add]
           have he':((lis r l).map fun e=>encR r fs e)[j.toNat]?=some (encR r fs e):=by
            rw[List.getElem?_map,show (lis r l)[j.toNat]?=some e from he];rfl
           rw[he']
           simp only
           have hlt:j.toNat<es.length:=by
            rw[← hes.1]
            exact (List.getElem?_eq_some_iff.1 he').1
           rw[if_pos ⟨h0,by rw[hhi];omega,by rw[encR_length e (Nat.eq_of_beq_eq_true hc2),Nat.eq_of_beq_eq_true hc1]⟩]
           exact outT_ref h g3.rel (by simp only[RelV,pthL_snoc])
         |_=>cases h
        |_=>cases h
       |hs c1 r=>
        cases f1 with
        |sl f fs=>
         cases f with
         |own=>
          simp only at h
          cases hc:(Nat.beq r.length (P.cellsOf el)&&Nat.beq fs.length r.length) with
          |false=>rw[hc] at h;cases h
          |true=>
           rw[hc] at h
           simp only[Bool.and_eq_true] at hc
           obtain ⟨hc1,hc2⟩:=hc
           obtain ⟨e,h0,he,h⟩:=at_some h
           rw[hrow]
           have e1:encs (⟨.hs c1 r,.sl .own fs,l⟩ :: rest)=.sl .own (holeL c1 (hsI c1 r l) ((lis r (hsL c1 r l)).map fun e=>encR r fs e)) :: encs rest:=by
            rw[← hs_enc]
            rfl
           rw[hrow,e1] at hes
           rw[e1]
           simp only[Option.some.injEq,List.cons.injEq,T.sl.injEq,true_and] at hes
           simp only[Nat.zero_add]
           have he0:((lis r (hsL c1 r l)).map fun e=>encR r fs e)[j.toNat]?=some (encR r fs e):=by
            rw[List.getElem?_map,show (lis r (hsL c1 r l))[j.toNat]?=some e from he];rfl
           obtain ⟨e',he',hl'⟩:=holeL_at (c:=c1) (i:=hsI c1 r l) he0
           rw[he']
           simp only
           have hlt:j.toNat<es.length:=by
            rw[← hes.1]
            exact (List.getElem?_eq_some_iff.1 he').1
           rw[if_pos ⟨h0,by rw[hhi];omega,by rw[hl',encR_length e (Nat.eq_of_beq_eq_true hc2),Nat.eq_of_beq_eq_true hc1]⟩]
           exact outT_ref h g3.rel (by simp only[RelV,pthL_snoc])
         |_=>cases h
        |_=>cases h
       |_=>cases h
    |_=>cases h
   |_=>cases h
 end
 end TM
