/- Part 5 of a machine that runs the functions of a program over plain values, and of the proof that its runs are runs of the program. No condition. -/
import Derived.Test.YtkjkeabihljjhacGreatMA3
import Derived.Carry
import Derived.RowKit
import Derived.ShutString
import Derived.SizedLaws
import Derived.OpenShut
import Derived.ChangeOld
import Derived.ProofKit
namespace Go.Proofs.YtkjkeabihljjhacGreat
namespace TM
open Go
section
variable {C:Ctx} {G:Gh} {st st1 st':St} {a:Act} {w:World}
theorem Sim.box1 (s:Sim C G st [] a w) {vs:List LV} {us:List Value} {xs:List T} (hv:RepVs C G w st.b vs us) (hc:st.closesS vs=some (xs,st1)) (m:Nm) (hm:m.2≠1) :
  ∃ G',Sim C G' ⟨fun u=>killV m [] (st1.s u),fun k=>if k=m then ⟨false,xs⟩ else st1.b k⟩ [] a w∧(∀ b,G.Zn b→G'.Zn b) ∧
    ∀ i es u,xs[i]?=some (.sl .own es)→us[i]?=some u→RepV C G' w (fun k=>if k=m then ⟨false,xs⟩ else st1.b k) (.ref m [i] 0 es.length) u:=by
 obtain ⟨G1,s1,z1,k1⟩:=closes_step _ s hv hc
 have hlx:=closesS_length _ hc
 have hlu:=hv.length
 have hcell:∀ i y,xs[i]?=some y→∃ u,us[i]?=some u∧RepC (C.Z G1) w (boxLab m (rowG xs.length fun j=>[j]) none G1.L) (.box m,[i]) y u:=by
  intro i y hy
  have hlt:i<us.length:=by
   have:=(List.getElem?_eq_some_iff.1 hy).1
   omega
  refine ⟨us[i],by simp,?_⟩
  have hij:=(List.getElem?_eq_some_iff.1 hy).1
  exact held_moved s1 (w':=w) (D:=m) (g:=rowG xs.length fun j=>[j]) (nb:=none) (j:=i) (x:=y) (u:=us[i]) (pl:=[i])
   (by rw[List.nil_append,List.getElem?_zip_eq_some];exact ⟨hy,by simp⟩) (fun r=>if_pos hij)
   (fun B q0 r e e2=>by cases e) (fun b _ hb=>rfl) (fun B q0 e e2=>by cases e)
 obtain ⟨G',s',z',l',v1,v2⟩:=s1.freshBox (w':=w) m hm ⟨false,xs⟩ us none (rowG xs.length fun j=>[j])
  (rowG_inj (k:=1) (fun _=>rfl) (fun j j' e=>by simpa using e)) (fun B q0 e j r e2=>by cases e)
  (fun B q e=>by cases e) (fun b _ hb=>rfl) (Nat.le_refl _) ⟨rfl,rfl,rfl⟩
  (RepL.of_get fun i y hy=>by
   obtain ⟨u,h1,h2⟩:=hcell i y hy
   refine ⟨u,h1,?_⟩
   rw[Nat.zero_add]
   exact h2) (by show us.length=xs.length;omega) (fun h=>by cases h)
 refine ⟨G',s',fun b hb=>by rw[z',z1];exact hb,fun i es u hi hu=>?_⟩
 obtain ⟨u',h1,h2⟩:=hcell i _ hi
 rw[hu] at h1
 cases h1
 rw[RepC] at h2
 obtain ⟨ad,cap,hu',g1,g2,g3⟩:=h2
 rw[RepV]
 refine ⟨es,xs.drop (i+1),ad,cap,by simp only[if_true,rowAt];rw[head_drop hi],Nat.zero_le _,Nat.le_refl _,?_,ad,by rw[hu'];simp,?_⟩
 ·refine ⟨g1,g2,?_⟩
  rcases g3 with ⟨h3,h4⟩ | ⟨b,off,cs,ty,fr,wd,ha,hwd,hh,hsz,hes,ho,hz,hr⟩
  ·exact .inl ⟨h3,h4 rfl⟩
  ·obtain ⟨o1,o2,o3,o4⟩:=ho rfl
   subst o2
   subst o3
   exact .inr ⟨b,cs,ty,wd,ha,⟨hwd.1,hwd.2 rfl⟩,by rw[l'];exact o1,hh,o4,hes⟩
 ·intro _
  unfold shift
  cases es with
  |nil=>rfl
  |cons e es=>cases ad<;>simp [Addr.add]
end
def refLs {α:Type}:List VP→List α→List α
 |.ref _ _ :: xs,v :: vs=>v :: refLs xs vs
 |_ :: xs,_ :: vs=>refLs xs vs
 |_,_=>[]
def fillLs (m:Nm):Nat→List VP→List LV→List T→List LV
 |k,.ref _ _ :: xs,_ :: vs,.sl .own es :: ts=>.ref m [k] 0 es.length :: fillLs m (k+1) xs vs ts
 |k,.ref _ _ :: xs,_ :: vs,_ :: ts=>.dead :: fillLs m (k+1) xs vs ts
 |k,_ :: xs,v :: vs,ts=>v :: fillLs m k xs vs ts
 |_,_,_,_=>[]
theorem refTs_eq:∀ (xs:List VP) (vs:List TV),refTs xs vs=refLs xs vs
 |[],vs=>by cases vs<;>rfl
 |x :: xs,[]=>by cases x<;>rfl
 |x :: xs,v :: vs=>by cases x<;>simp only[refTs,refLs,refTs_eq xs vs]
theorem refLs_rel {Q:Nm→Pth→Nat→Prop}:∀ (xs:List VP) {vs:List TV} {lvs:List LV},RelVs Q vs lvs→RelVs Q (refLs xs vs) (refLs xs lvs)
 |[],vs,lvs,h=>by cases vs<;>cases lvs<;>simp [refLs,RelVs]
 |x :: xs,[],lvs,h=>by simp only[RelVs] at h;subst h;cases x<;>simp [refLs,RelVs]
 |x :: xs,v :: vs,[],h=>by simp only[RelVs] at h
 |x :: xs,v :: vs,l :: lvs,h=>by
  simp only[RelVs] at h
  cases x<;>simp only[refLs,RelVs]<;>first | exact ⟨h.1,refLs_rel xs h.2⟩ | exact refLs_rel xs h.2
theorem refLs_rep {C:Ctx} {G:Gh} {w:World} {b:Nm→Box}:∀ (xs:List VP) {lvs:List LV} {us:List Value},RepVs C G w b lvs us→RepVs C G w b (refLs xs lvs) (refLs xs us)
 |[],lvs,us,h=>by cases lvs<;>cases us<;>simp [refLs,RepVs]
 |x :: xs,[],us,h=>by rw[RepVs] at h;subst h;cases x<;>simp [refLs,RepVs]
 |x :: xs,v :: vs,[],h=>by rw[RepVs] at h;exact h.elim
 |x :: xs,v :: vs,l :: lvs,h=>by
  rw[RepVs] at h
  cases x<;>simp only[refLs]<;>first | exact refLs_rep xs h.2 | (rw[RepVs];exact ⟨h.1,refLs_rep xs h.2⟩)
theorem RepC.zn {C:Ctx} {G G':Gh} {w:World} {x:T} {u:Value} (hz:∀ b,G.Zn b→G'.Zn b) (h:RepC (C.Z G) w noLab noWhere x u):RepC (C.Z G') w noLab noWhere x u:=
 RepC.move (fun f b hb=>⟨by
  cases f
  ·exact hb.elim
  ·exact hz b hb
  ·exact hb.imp id (hz b),rfl⟩) x noLab_under h
theorem fillLs_rep {C:Ctx} {G G':Gh} {w:World} {b b':Nm→Box} {m:Nm} {full:List T} {fus:List Value} (hz:∀ b,G.Zn b→G'.Zn b)
  (hb:∀ i es u,full[i]?=some (.sl .own es)→fus[i]?=some u→RepV C G' w b' (.ref m [i] 0 es.length) u):∀ (xs:List VP) (k:Nat) {vs:List TV} {lvs:List LV} {us:List Value} {Q:Nm→Pth→Nat→Prop},keepT xs vs=true→RelVs Q vs lvs→RepVs C G w b lvs us →
   (∀ i,fus[k+i]?=(refLs xs us)[i]?)→(refLs xs us).length≤(full.drop k).length→RepVs C G' w b' (fillLs m k xs lvs (full.drop k)) us
 |[],k,vs,lvs,us,Q,hk,hr,h,_,_=>by
  cases vs with
  |nil=>simp only[RelVs] at hr;subst hr;rw[RepVs] at h;subst h;simp [fillLs,RepVs]
  |cons _ _=>simp [keepT] at hk
 |x :: xs,k,[],lvs,us,Q,hk,hr,h,_,_=>by cases x<;>simp [keepT] at hk
 |x :: xs,k,v :: vs,[],us,Q,hk,hr,h,_,_=>by simp only[RelVs] at hr
 |x :: xs,k,v :: vs,l :: lvs,[],Q,hk,hr,h,_,_=>by rw[RepVs] at h;exact h.elim
 |x :: xs,k,v :: vs,l :: lvs,u :: us,Q,hk,hr,h,hf,hl=>by
  simp only[RelVs] at hr
  rw[RepVs] at h
  have plain:∀ c,v=.c c→RepV C G' w b' l u:=by
   intro c hc
   subst hc
   have:=hr.1
   simp only[RelV] at this
   subst this
   have h1:=h.1
   rw[RepV] at h1 ⊢
   exact RepC.zn hz h1
  cases x with
  |ref n c0=>
   simp only[keepT] at hk
   simp only[refLs] at hf hl
   cases hd:full.drop k with
   |nil=>rw[hd] at hl;simp at hl
   |cons t ts=>
    have hk0:=drop_head hd
    have hdr:full.drop (k+1)=ts:=by rw[← List.drop_drop,hd];rfl
    have ih:=fillLs_rep hz hb xs (k+1) hk hr.2 h.2 (fun i=>by
     have:=hf (i+1)
     rw[show k+1+i=k+(i+1) by omega,this]
     rfl) (by rw[hdr];rw[hd] at hl;simpa using hl)
    rw[hdr] at ih
    have h0:=hf 0
    simp only[Nat.add_zero,List.getElem?_cons_zero] at h0
    cases t with
    |sl f es=>
     cases f with
     |own=>simp only[fillLs];rw[RepVs];exact ⟨hb k es u hk0 h0,ih⟩
     |nw=>simp only[fillLs];rw[RepVs,RepV];exact ⟨trivial,ih⟩
     |fz=>simp only[fillLs];rw[RepVs,RepV];exact ⟨trivial,ih⟩
    |_=>simp only[fillLs];rw[RepVs,RepV];exact ⟨trivial,ih⟩
  |_=>
   cases v with
   |c c=>simp only[keepT] at hk;simp only[refLs] at hf hl;simp only[fillLs];rw[RepVs];exact ⟨plain c rfl,fillLs_rep hz hb xs k hk hr.2 h.2 hf hl⟩
   |_=>simp [keepT] at hk
theorem fillTs_rel {b':Nm→Box} {m:Nm} {full:List Cl} (hb:(b' m).cells=encs full) (ho:allOwn full=true):∀ (xs:List VP) (k:Nat) {vs:List TV} {lvs:List LV} {Q:Nm→Pth→Nat→Prop},keepT xs vs=true→RelVs Q vs lvs →
   (refLs xs vs).length≤(full.drop k).length→RelVs (Qs b') (fillTs m k xs vs) (fillLs m k xs lvs (encs (full.drop k)))
 |[],k,vs,lvs,Q,hk,hr,_=>by
  cases vs with
  |nil=>simp only[RelVs] at hr;subst hr;simp [fillTs,fillLs,RelVs]
  |cons _ _=>simp [keepT] at hk
 |x :: xs,k,[],lvs,Q,hk,hr,_=>by cases x<;>simp [keepT] at hk
 |x :: xs,k,v :: vs,[],Q,hk,hr,_=>by simp only[RelVs] at hr
 |x :: xs,k,v :: vs,l :: lvs,Q,hk,hr,hl=>by
  simp only[RelVs] at hr
  have own_mem:∀ (l:List Cl),allOwn l=true→∀ c∈l,c.own=true:=by
   intro l
   induction l with
   |nil=>intro _ c hc;simp at hc
   |cons a l ih=>
    intro h c hc
    simp only[allOwn,Bool.and_eq_true] at h
    rcases List.mem_cons.1 hc with rfl | hc
    ·exact h.1
    ·exact ih h.2 c hc
  cases x with
  |ref n c0=>
   simp only[keepT] at hk
   simp only[refLs] at hl
   cases hd:full.drop k with
   |nil=>rw[hd] at hl;simp at hl
   |cons c cs=>
    have hdr:full.drop (k+1)=cs:=by rw[← List.drop_drop,hd];rfl
    have ih:=fillTs_rel hb ho xs (k+1) hk hr.2 (by rw[hdr];rw[hd] at hl;simpa using hl)
    rw[hdr] at ih
    obtain ⟨es,hes⟩:=own_enc (own_mem _ ho c (List.mem_of_mem_drop (i:=k) (by rw[hd];simp)))
    simp only[fillTs,encs,List.map_cons,hes,fillLs,RelVs]
    refine ⟨?_,ih⟩
    simp only[RelV]
    refine ⟨es.length,rfl,es,encs cs,?_,rfl⟩
    rw[hb]
    show rowAt (encs full) [k]=_
    simp only[rowAt]
    rw[encs_drop,hd,← hes]
    rfl
  |_=>
   cases v with
   |c c=>simp only[keepT] at hk;simp only[refLs] at hl;simp only[fillTs,fillLs,RelVs];exact ⟨by have:=hr.1;simp only[RelV] at this ⊢;exact this,fillTs_rel hb ho xs k hk hr.2 hl⟩
   |_=>simp [keepT] at hk
end TM
namespace TM
open Go
section
variable {C:Ctx} {f:FuncId} {Q:Value→World→Prop} {K:List It} {ρ:Type} {y:ρ} {E:En} {rec:Rec} {st:St} {vs:VS}
theorem canonOne_good {N t:Nat} {x:VP} {k:Co ρ} (hk:∀ vs st,k vs=some y→Rel vs st→Good C f Q K st) (h:canonOne N t x k vs=some y) (R:Rel vs st):Good C f Q K st:=by
 unfold canonOne at h
 cases hm:firstRef (cellsVP x) with
 |none=>rw[hm] at h;exact hk vs st h R
 |some m=>
  rw[hm] at h
  simp only[rdS] at h
  have hR:=R.s t
  generalize hl:lookS vs.s t=v at h hR
  cases htk:takeV x v with
  |some cs=>rw[htk] at h;exact hk _ _ h (R.lg _)
  |none=>
   rw[htk] at h
   simp only at h
   cases hc:(keepT (cellsVP x) (cellsTV v)&&(isAggP x==isAggT v)&&Nat.beq m.2 0) with
   |false=>rw[hc] at h;cases h
   |true=>
    rw[hc] at h
    simp only[Bool.and_eq_true] at hc
    obtain ⟨⟨c1,c2⟩,c3⟩:=hc
    have hm1:m.2≠1:=by have:=Nat.eq_of_beq_eq_true c3;omega
    simp only at h
    obtain ⟨lvs,hlv,hparts⟩:∃ lvs:List LV,RelVs (Qs st.b) (cellsTV v) lvs∧((isAggT v=true∧st.s t=.agg lvs)∨(isAggT v=false∧lvs=[st.s t])):=by
     cases v with
     |agg xs=>
      simp only[RelV] at hR
      obtain ⟨lvs,e,hr⟩:=hR
      exact ⟨lvs,hr,.inl ⟨rfl,e⟩⟩
     |_=>exact ⟨[st.s t],by simp only[cellsTV,RelVs];exact ⟨hR,trivial⟩,.inr ⟨rfl,rfl⟩⟩
    rw[refTs_eq] at h
    obtain ⟨cs,vs2,st2,h,R2,hcl⟩:=closes_run (N:=0) h (R.lg _) (refLs_rel (cellsVP x) hlv).w
    cases ho:allOwn cs with
    |false=>rw[ho] at h;cases h
    |true=>
     rw[ho] at h
     simp only[killBox,wrB,wrS] at h
     cases ht:Nat.blt t N with
     |false=>rw[ht] at h;cases h
     |true=>
      rw[ht] at h
      simp only at h
      have hlen:(refLs (cellsVP x) lvs).length=cs.length:=by
       have:=closesS_length _ hcl
       simp only[encs,List.length_map] at this
       exact this.symm
      have hlen2:(refLs (cellsVP x) (cellsTV v)).length≤(cs.drop 0).length:=by
       rw[RelVs.length (refLs_rel (cellsVP x) hlv),hlen]
       simp
      have R3:=rel_newbox R2 m ⟨false,cs⟩ vs2.lg
      have hfill:=fillTs_rel (b':=fun k=>if k=m then ⟨false,encs cs⟩ else st2.b k) (m:=m) (full:=cs) (by simp) ho (cellsVP x) 0 c1 hlv hlen2
      rw[List.drop_zero] at hfill
      obtain ⟨lv',hlv',hsim⟩:∃ lv',RelV (Qs fun k=>if k=m then ⟨false,encs cs⟩ else st2.b k) (aggIf (isAggT v) (fillTs m 0 (cellsVP x) (cellsTV v))) lv' ∧
        ∀ G a w,Sim C G st [] a w→∃ G',Sim C G' ⟨fun u=>if u=t then lv' else killV m [] (st2.s u),fun k=>if k=m then ⟨false,encs cs⟩ else st2.b k⟩ [] a w:=by
       have rep:∀ G a w (us:List Value),Sim C G st [] a w→RepVs C G w st.b lvs us→∃ G',Sim C G' ⟨fun u=>killV m [] (st2.s u),fun k=>if k=m then ⟨false,encs cs⟩ else st2.b k⟩ [] a w ∧
         RepVs C G' w (fun k=>if k=m then ⟨false,encs cs⟩ else st2.b k) (fillLs m 0 (cellsVP x) lvs (encs cs)) us:=by
        intro G a w us s hus
        obtain ⟨G',s',hz,hb⟩:=s.box1 (refLs_rep (cellsVP x) hus) hcl m hm1
        refine ⟨G',s',?_⟩
        have:=fillLs_rep (b:=st.b) (full:=encs cs) (fus:=refLs (cellsVP x) us) hz hb (cellsVP x) 0 c1 hlv hus (fun i=>by rw[Nat.zero_add]) (by
         have h1:=(refLs_rep (cellsVP x) hus).length
         simp only[List.drop_zero,encs,List.length_map]
         omega)
        rw[List.drop_zero] at this
        exact this
       rcases hparts with ⟨ha,hs⟩ | ⟨ha,hs⟩
       ·refine ⟨.agg (fillLs m 0 (cellsVP x) lvs (encs cs)),?_,fun G a w s=>?_⟩
        ·rw[ha]
         simp only[aggIf,RelV]
         exact ⟨_,rfl,hfill⟩
        ·have hst:=s.slot t
         rw[hs,RepV] at hst
         obtain ⟨us,hu,hus⟩:=hst
         obtain ⟨G',s',hr⟩:=rep G a w us.toList s hus
         refine ⟨G',s'.slotAs ?_⟩
         rw[hu,RepV]
         exact ⟨us,rfl,hr⟩
       ·have hone:∃ v1,cellsTV v=[v1]:=by
         have:=RelVs.length hlv
         rw[hs] at this
         exact List.length_eq_one_iff.1 this
        have hfl:=RelVs.length hfill
        cases hfx:fillTs m 0 (cellsVP x) (cellsTV v) with
        |nil=>
         refine ⟨.dead,?_,fun G a w s=>?_⟩
         ·rw[ha];simp only[aggIf,RelV]
         ·obtain ⟨G',s',hr⟩:=rep G a w [a.tmps.getD t Go.undef] s (by rw[hs,RepVs,RepVs];exact ⟨s.slot t,rfl⟩)
          exact ⟨G',s'.slotAs (by rw[RepV];trivial)⟩
        |cons z zs=>
         cases zs with
         |cons _ _=>
          refine ⟨.dead,?_,fun G a w s=>?_⟩
          ·rw[ha];simp only[aggIf,RelV]
          ·obtain ⟨G',s',hr⟩:=rep G a w [a.tmps.getD t Go.undef] s (by rw[hs,RepVs,RepVs];exact ⟨s.slot t,rfl⟩)
           exact ⟨G',s'.slotAs (by rw[RepV];trivial)⟩
         |nil=>
          rw[hfx] at hfill
          cases hfy:fillLs m 0 (cellsVP x) lvs (encs cs) with
          |nil=>rw[hfy] at hfill;simp only[RelVs] at hfill
          |cons l' ls'=>
           rw[hfy] at hfill
           simp only[RelVs] at hfill
           refine ⟨l',?_,fun G a w s=>?_⟩
           ·rw[ha]
            exact hfill.1
           ·obtain ⟨G',s',hr⟩:=rep G a w [a.tmps.getD t Go.undef] s (by rw[hs,RepVs,RepVs];exact ⟨s.slot t,rfl⟩)
            rw[hfy,RepVs] at hr
            exact ⟨G',s'.slotAs hr.1⟩
      refine good_ghost hsim (hk _ _ h ⟨fun u=>?_,R3.b⟩)
      simp only[lookS]
      cases hb:Nat.beq t u with
      |true=>
       have:=Nat.eq_of_beq_eq_true hb
       subst this
       simp only[if_true]
       exact hlv'
      |false=>
       have hne:u≠t:=by
        rintro rfl
        rw[Nat.beq_refl] at hb
        cases hb
       simp only[if_neg hne]
       exact R3.s u
theorem canonS_good {N:Nat} {k:Co ρ} (hk:∀ vs st,k vs=some y→Rel vs st→Good C f Q K st):∀ (xs:List (Nat×VP)) {vs:VS} {st:St},canonS N xs k vs=some y→Rel vs st→Good C f Q K st
 |[],vs,st,h,R=>hk vs st h R
 |(_t,_x) :: xs,_vs,_st,h,R=>canonOne_good (fun _vs _st h R=>canonS_good hk xs h R) h R
end
end TM
namespace TM
open Go
mutual
theorem fill_rel {Q:Nm→Pth→Nat→Prop}:∀ (x:VP) {v:TV} {a:List Cl} {lv:LV} {cs:List Cl},takeV x v=some a→RelV Q v lv→encs (cs.take a.length)=encs a→RelV Q (x.fill cs) lv∧a.length=x.cts.length
 |.c t f,v,a,lv,cs,h,hv,he=>by
  cases v with
  |c z=>
   simp only[takeV,Option.some.injEq] at h
   subst h
   cases cs with
   |nil=>simp [encs] at he
   |cons c cs=>
    simp only[List.length_cons,List.length_nil,Nat.zero_add,List.take_succ_cons,List.take_zero,encs,List.map_cons,List.map_nil,List.cons.injEq,and_true] at he
    simp only[RelV] at hv
    simp only[VP.fill,RelV,VP.cts]
    exact ⟨by rw[hv,he],rfl⟩
  |_=>cases h
 |.ref n c0,v,a,lv,cs,h,hv,he=>by
  cases v with
  |ref m p sub=>
   obtain ⟨c,r⟩:=p
   cases r with
   |cons _ _=>cases h
   |nil=>
    cases sub with
    |some _=>cases h
    |none=>
     simp only[takeV] at h
     split at h
     ·rename_i hc
      simp only[Bool.and_eq_true] at hc
      have e1:=nm_eq.1 hc.1
      have e2:=Nat.eq_of_beq_eq_true hc.2
      subst e1
      subst e2
      cases h
      exact ⟨hv,rfl⟩
     ·cases h
  |_=>cases h
 |.win n c0,v,a,lv,cs,h,hv,he=>by
  cases v with
  |ref m p sub=>
   obtain ⟨c,r⟩:=p
   cases r with
   |cons _ _=>cases h
   |nil=>
    cases sub with
    |none=>cases h
    |some s=>
     obtain ⟨x,y⟩:=s
     simp only[takeV] at h
     split at h
     ·rename_i hc
      simp only[Bool.and_eq_true] at hc
      have e1:=nm_eq.1 hc.1
      have e2:=Nat.eq_of_beq_eq_true hc.2
      subst e1
      subst e2
      cases h
      refine ⟨?_,rfl⟩
      simp only[VP.fill]
      split
      ·rename_i f1 x1 f2 y1 rest
       simp only[List.length_cons,List.length_nil,Nat.zero_add,List.take_succ_cons,List.take_zero,encs,List.map_cons,List.map_nil,List.cons.injEq,and_true,Cl.enc,encT,T.v.injEq] at he
       have k1:intx x1=x:=by
        have e:x1=xint x:=by have:=he.1;injection this
        rw[e]
        exact Int.toNat_natCast x
       have k2:intx y1=y:=by
        have e:y1=xint y:=by have:=he.2;injection this
        rw[e]
        exact Int.toNat_natCast y
       rw[k1,k2]
       exact hv
      ·simp only[RelV]
     ·cases h
  |_=>cases h
 |.addr n c0,v,a,lv,cs,h,hv,he=>by
  cases v with
  |addr m p=>
   obtain ⟨c,r⟩:=p
   cases r with
   |cons _ _=>cases h
   |nil=>
    simp only[takeV] at h
    split at h
    ·rename_i hc
     simp only[Bool.and_eq_true] at hc
     have e1:=nm_eq.1 hc.1
     have e2:=Nat.eq_of_beq_eq_true hc.2
     subst e1
     subst e2
     cases h
     exact ⟨hv,rfl⟩
    ·cases h
  |_=>cases h
 |.raddr r,v,a,lv,cs,h,hv,he=>by
  cases v with
  |raddr zs=>
   simp only[takeV] at h
   split at h
   ·rename_i hc
    have e:=Nat.eq_of_beq_eq_true hc
    cases h
    simp only[RelV] at hv
    simp only[VP.fill,RelV,VP.cts]
    exact ⟨by rw[hv,e,he],e.symm⟩
   ·cases h
  |_=>cases h
 |.agg xs,v,a,lv,cs,h,hv,he=>by
  cases v with
  |agg vs=>
   simp only[takeV] at h
   simp only[RelV] at hv
   obtain ⟨us,rfl,hu⟩:=hv
   obtain ⟨h1,h2⟩:=fills_rel xs h hu he
   simp only[VP.fill,RelV,VP.cts]
   exact ⟨⟨_,rfl,h1⟩,h2⟩
  |_=>cases h
 |.tup xs,v,a,lv,cs,h,hv,he=>by
  cases v with
  |tup vs=>
   simp only[takeV] at h
   simp only[RelV] at hv
   obtain ⟨us,rfl,hu⟩:=hv
   obtain ⟨h1,h2⟩:=fills_rel xs h hu he
   simp only[VP.fill,RelV,VP.cts]
   exact ⟨⟨_,rfl,h1⟩,h2⟩
  |_=>cases h
 |.fn g xs,v,a,lv,cs,h,hv,he=>by
  cases v with
  |fn g' vs=>
   simp only[takeV] at h
   split at h
   ·rename_i hc
    have e:=Nat.eq_of_beq_eq_true hc
    subst e
    simp only[RelV] at hv
    obtain ⟨us,rfl,hu⟩:=hv
    obtain ⟨h1,h2⟩:=fills_rel xs h hu he
    simp only[VP.fill,RelV,VP.cts]
    exact ⟨⟨_,rfl,h1⟩,h2⟩
   ·cases h
  |_=>cases h
theorem fills_rel {Q:Nm→Pth→Nat→Prop}:∀ (xs:List VP) {vs:List TV} {a:List Cl} {lvs:List LV} {cs:List Cl},takeVs xs vs=some a→RelVs Q vs lvs→encs (cs.take a.length)=encs a→RelVs Q (VP.fills xs cs) lvs∧a.length=(VP.ctss xs).length
 |[],vs,a,lvs,cs,h,hv,he=>by
  cases vs with
  |nil=>
   simp only[takeVs,Option.some.injEq] at h
   subst h
   simp only[RelVs] at hv
   subst hv
   simp [VP.fills,RelVs,VP.ctss]
  |cons _ _=>cases h
 |x :: xs,[],a,lvs,cs,h,hv,he=>by cases h
 |x :: xs,v :: vs,a,[],cs,h,hv,he=>by simp only[RelVs] at hv
 |x :: xs,v :: vs,a,l :: lvs,cs,h,hv,he=>by
  simp only[takeVs] at h
  simp only[RelVs] at hv
  split at h
  ·rename_i a1 a2 h1 h2
   cases h
   have hlen:(cs.take (a1++a2).length).length=(a1++a2).length:=by
    have:=congrArg List.length he
    simpa [encs] using this
   have hle:a1.length+a2.length≤cs.length:=by
    rw[List.length_take,List.length_append] at hlen
    omega
   have he1:encs (cs.take a1.length)=encs a1:=by
    have:=congrArg (List.take a1.length) he
    rw[encs_take,List.take_take] at this
    simp only[encs,List.map_append,List.length_append] at this ⊢
    rw[Nat.min_eq_left (by omega)] at this
    rw[this,List.take_append_of_le_length (by simp),List.take_of_length_le (by simp)]
   have he2:encs ((cs.drop a1.length).take a2.length)=encs a2:=by
    have:=congrArg (List.drop a1.length) he
    rw[encs_drop,List.drop_take] at this
    simp only[encs,List.map_append,List.length_append] at this ⊢
    rw[show a1.length+a2.length-a1.length=a2.length by omega] at this
    rw[this,List.drop_append_of_le_length (by simp),List.drop_of_length_le (by simp)]
    simp
   obtain ⟨k1,k2⟩:=fill_rel x h1 hv.1 he1
   obtain ⟨k3,k4⟩:=fills_rel xs h2 hv.2 he2
   simp only[VP.fills,RelVs,VP.ctss,List.length_append]
   rw[← k2]
   exact ⟨⟨k1,k3⟩,by rw[k4]⟩
  ·cases h
end
theorem part_take {cs a b:List Cl} (h:encs cs=encs (a++b)):encs (cs.take a.length)=encs a∧encs (cs.drop a.length)=encs b:=by
 constructor
 ·rw[← encs_take,h]
  simp [encs]
 ·rw[← encs_drop,h]
  simp [encs]
theorem cutS_rel {Q:Nm→Pth→Nat→Prop} {s:List (Nat×TV)} {ls:Nat→LV} (hs:∀ t,RelV Q (lookS s t) (ls t)):∀ (slots:List (Nat×VP)) {a cs:List Cl},takeVs (slots.map (·.2)) (slots.map fun x=>lookS s x.1)=some a→encs (cs.take a.length)=encs a →
  (∀ t,RelV Q (lookS (cutS slots cs) t) (ls t))∧a.length=(VP.ctss (slots.map (·.2))).length
 |[],a,cs,h,he=>by
  simp only[List.map_nil,takeVs,Option.some.injEq] at h
  subst h
  exact ⟨fun t=>by simp only[cutS,lookS,RelV],rfl⟩
 |(u,x) :: slots,a,cs,h,he=>by
  simp only[List.map_cons,takeVs] at h
  split at h
  ·rename_i a1 a2 h1 h2
   cases h
   have hlen:(cs.take (a1++a2).length).length=(a1++a2).length:=by
    have:=congrArg List.length he
    simpa [encs] using this
   have hle:a1.length+a2.length≤cs.length:=by
    rw[List.length_take,List.length_append] at hlen
    omega
   have he1:encs (cs.take a1.length)=encs a1:=by
    have:=congrArg (List.take a1.length) he
    rw[encs_take,List.take_take] at this
    simp only[encs,List.map_append,List.length_append] at this ⊢
    rw[Nat.min_eq_left (by omega)] at this
    rw[this,List.take_append_of_le_length (by simp),List.take_of_length_le (by simp)]
   have he2:encs ((cs.drop a1.length).take a2.length)=encs a2:=by
    have:=congrArg (List.drop a1.length) he
    rw[encs_drop,List.drop_take] at this
    simp only[encs,List.map_append,List.length_append] at this ⊢
    rw[show a1.length+a2.length-a1.length=a2.length by omega] at this
    rw[this,List.drop_append_of_le_length (by simp),List.drop_of_length_le (by simp)]
    simp
   obtain ⟨k1,k2⟩:=fill_rel x h1 (hs u) he1
   obtain ⟨k3,k4⟩:=cutS_rel hs slots h2 he2
   refine ⟨fun t=>?_,by simp only[List.map_cons,VP.ctss,List.length_append,k2,k4]⟩
   simp only[cutS,lookS]
   cases hb:Nat.beq u t with
   |true=>rw[Nat.eq_of_beq_eq_true hb] at k1;exact k1
   |false=>
    simp only
    rw[← k2]
    exact k3 t
  ·cases h
theorem cutB_rel {vs:VS} {st:St} (R:Rel vs st):∀ (boxes:List (Nm×Bool×List (ST×Fg))) {b cs:List Cl},takeB boxes vs=some b→encs (cs.take b.length)=encs b →
  ∀ n x,lookB (cutB boxes cs) n=some x→(st.b n).real=x.real∧(st.b n).cells=encs x.cells
 |[],b,cs,h,he,n,x,hx=>by cases hx
 |(m,real,r) :: boxes,b,cs,h,he,n,x,hx=>by
  simp only[takeB] at h
  split at h
  ·rename_i z b2 h1 h2
   split at h
   ·rename_i hc
    cases h
    simp only[Bool.and_eq_true,beq_iff_eq] at hc
    have hr:=Nat.eq_of_beq_eq_true hc.1
    have hlen:(cs.take (z.cells++b2).length).length=(z.cells++b2).length:=by
     have:=congrArg List.length he
     simpa [encs] using this
    have hle:z.cells.length+b2.length≤cs.length:=by
     rw[List.length_take,List.length_append] at hlen
     omega
    have he1:encs (cs.take z.cells.length)=encs z.cells:=by
     have:=congrArg (List.take z.cells.length) he
     rw[encs_take,List.take_take] at this
     simp only[encs,List.map_append,List.length_append] at this ⊢
     rw[Nat.min_eq_left (by omega)] at this
     rw[this,List.take_append_of_le_length (by simp),List.take_of_length_le (by simp)]
    have he2:encs ((cs.drop z.cells.length).take b2.length)=encs b2:=by
     have:=congrArg (List.drop z.cells.length) he
     rw[encs_drop,List.drop_take] at this
     simp only[encs,List.map_append,List.length_append] at this ⊢
     rw[show z.cells.length+b2.length-z.cells.length=b2.length by omega] at this
     rw[this,List.drop_append_of_le_length (by simp),List.drop_of_length_le (by simp)]
     simp
    simp only[cutB,lookB] at hx
    cases hn:nmEq m n with
    |true=>
     rw[hn] at hx
     cases hx
     have:=nm_eq.1 hn
     subst this
     obtain ⟨q1,q2⟩:=R.b m z h1
     exact ⟨by rw[q1,hc.2],by rw[q2,← hr,he1]⟩
    |false=>
     rw[hn] at hx
     rw[← hr] at hx
     exact cutB_rel R boxes h2 he2 n x hx
   ·cases h
  ·cases h
theorem pathEq_eq:∀ {p q:List Nat},pathEq p q=true→p=q
 |[],[],_=>rfl
 |[],_ :: _,h=>by cases h
 |_ :: _,[],h=>by cases h
 |x :: p,z :: q,h=>by
  simp only[pathEq,Bool.and_eq_true] at h
  rw[Nat.eq_of_beq_eq_true h.1,pathEq_eq h.2]
theorem pickQ_some {f i:Nat} {q:List Nat} {vs:VS}:∀ {ls:List Lb} {l:Lb},pickQ f i q vs ls=some l→l.q=some q∧l.f=f
 |[],_,h=>by cases h
 |l0 :: ls,l,h=>by
  simp only[pickQ] at h
  split at h
  ·rename_i p hp
   split at h
   ·rename_i hc
    cases h
    simp only[Bool.and_eq_true] at hc
    exact ⟨by rw[hp,pathEq_eq hc.2.1],Nat.eq_of_beq_eq_true hc.1.2⟩
   ·exact pickQ_some h
  ·exact pickQ_some h
theorem tail_some {rec:Rec} {l:Lb} {x:R l.inS} {r:List ST} {z:R r} (h:tail_ rec l x r=some z):∃ (e:l.outS=r) (z':R l.outS),rec l x=some z'∧z=e ▸ z':=by
 unfold tail_ at h
 split at h
 ·rename_i hb
  have e:=ST.beqs_eq _ _ hb
  subst e
  exact ⟨rfl,z,h,rfl⟩
 ·cases h
theorem same_res {l m:Lb} (h1:l.outs=m.outs) (h2:l.res=m.res) (e:l.outS=m.outS) (z:R l.outS):l.outsT (l.cells z)=m.outsT (m.cells (e ▸ z))∧l.resT (l.cells z)=m.resT (m.cells (e ▸ z)):=by
 obtain ⟨f,i,q,args,slots,boxes,outs,res⟩:=l
 obtain ⟨f',i',q',args',slots',boxes',outs',res'⟩:=m
 simp only at h1 h2
 subst h1
 subst h2
 exact ⟨rfl,rfl⟩
section
variable {C:Ctx} {E:En} {rec:Rec} {fn:Func}
theorem jump_good {q:List Nat} {node:Code} {vs:VS} {st:St} {z:R E.me.outS} (hJ:Right E.P rec) (hP:C.P=E.P) (hN:C.N=E.N) (hf:E.P.funcs[E.f]?=some fn) (hb:fn.body=some E.body) (hEN:E.N=fn.ntmps)
  (hnode:codeAt E.body q.reverse=some node) (h:jump E rec q vs=some z) (R:Rel vs st):Good C E.f (Post C (E.me.outsT (E.me.cells z)) (E.me.resT (E.me.cells z))) (.c node :: stk E.body q) st:=by
 unfold jump at h
 cases hp:pickQ E.f E.me.i q vs (E.tb E.f) with
 |none=>rw[hp] at h;cases h
 |some l=>
  rw[hp] at h
  simp only at h
  obtain ⟨hq,hlf⟩:=pickQ_some hp
  refine canonS_good (fun vs' st' h R'=>?_) l.slots h R
  cases htk:takeC l vs' with
  |none=>rw[htk] at h;cases h
  |some cs=>
   rw[htk] at h
   cases hr:apsBeq l.res E.me.res with
   |false=>rw[hr] at h;cases h
   |true=>
    cases ho:ctssBeq l.outs E.me.outs with
    |false=>rw[hr,ho] at h;cases h
    |true=>
     rw[hr,ho] at h
     change (match fitK l.inT cs with
      |true=>toRow l.inT cs fun x=>tail_ rec l x E.me.outS
      |false=>needQ q vs)=some z at h
     cases hk:fitK l.inT cs with
     |false=>rw[hk] at h;cases h
     |true=>
      rw[hk] at h
      obtain ⟨x,h,hx⟩:=toRow_some h
      obtain ⟨e,z',hz,rfl⟩:=tail_some h
      obtain ⟨e1,e2⟩:=same_res (ctssBeq_eq ho) (apsBeq_eq hr) e z'
      rw[← e1,← e2]
      have hj:=hJ l x z' hz
      unfold J at hj
      rw[hq] at hj
      simp only at hj
      rw[hlf] at hj
      refine hj C fn E.body node st' hf hb hnode hP (by rw[hN,hEN]) ?_
      unfold takeC at htk
      split at htk
      ·rename_i a b h1 h2
       cases htk
       obtain ⟨p1,p2⟩:=part_take hx
       obtain ⟨k1,k2⟩:=cutS_rel R'.s l.slots h1 p1
       unfold Lb.start
       rw[hq]
       have hcb:=cutB_rel R' l.boxes h2 (cs:=(ofRow l.inT x).drop a.length) (by
        rw[List.take_of_length_le]
        ·exact p2
        ·have:=congrArg List.length p2
         simp only[encs,List.length_map] at this
         omega)
       rw[k2] at hcb
       exact ⟨k1,hcb⟩
      ·cases htk
end
end TM
namespace TM
open Go
theorem finTs_ref {ρ:Type} {P:Program} {st:St} {y:ρ}:∀ {rs:List ResultVar} {vs:VS} {k:List TV→Co ρ},finTs P rs k vs=some y→Rel vs st →
  ∃ us lus vs',k us vs'=some y∧RelVs (Qs st.b) us lus∧st.finLVs P rs=some lus∧Same vs vs'
 |[],vs,k,h,R=>⟨[],[],vs,h,by simp only[RelVs],rfl,.rfl⟩
 |r :: rs,vs,k,h,R=>by
  simp only[finTs] at h
  have one:∃ u lu vs1,finTs P rs (fun us=>k (u :: us)) vs1=some y∧RelV (Qs st.b) u lu∧st.finLV P r=some lu∧Same vs vs1:=by
   cases r with
   |tmp t=>exact ⟨_,_,_,h,R.s t,rfl,⟨rfl,rfl⟩⟩
   |cell a t=>
    simp only[finT,rdS] at h
    have hR:=R.s a
    generalize hl:lookS vs.s a=v at h hR
    cases v with
    |addr n p=>
     simp only at h
     obtain ⟨row,vs2,h,hrow,g2,s2⟩:=rowC_ref (N:=0) (m:=fun _=>(M.no:M Unit)) h (R.lg _)
     have hrow0:rowAt (st.b n).cells (pthL (p.add 0))=some (encs row):=by rw[pthL_add,bump_zero];exact hrow
     have hs:st.s a=.addr n (pthL p):=addrV hR
     cases ha:isAgg P t with
     |none=>rw[ha] at h;cases h
     |some b=>
      rw[ha] at h
      cases b with
      |true=>
       simp only at h
       cases hc:Nat.ble (P.cellsOf t) row.length with
       |false=>rw[hc] at h;cases h
       |true=>
        rw[hc] at h
        refine ⟨_,.agg (seens n (pthL p) 0 ((encs row).take (P.cellsOf t))),_,h,?_,?_,s2⟩
        ·simp only[RelV]
         refine ⟨_,rfl,?_⟩
         rw[encs_take]
         refine seensT_rel _ 0 (row:=encs (row.drop (P.cellsOf t))) ?_
         rw[hrow0]
         simp only[encs,← List.map_append,List.take_append_drop]
        ·simp only[St.finLV,hs,hrow,ha]
         rw[if_pos (by simpa [encs] using Nat.le_of_ble_eq_true hc)]
      |false=>
       cases row with
       |nil=>cases h
       |cons z rest=>
        refine ⟨_,seen n (bump 0 (pthL p)) z.enc,_,h,?_,?_,s2⟩
        ·rw[← pthL_add]
         exact seenT_rel hrow0
        ·simp only[St.finLV,hs,hrow,ha,encs,List.map_cons]
    |_=>cases h
  obtain ⟨u,lu,vs1,h,h1,h2,s1⟩:=one
  have R1:Rel vs1 st:=by
   have:=R.lg vs1.lg
   rw[← s1.1,← s1.2] at this
   exact this
  obtain ⟨us,lus,vs2,h,h3,h4,s2⟩:=finTs_ref h R1
  exact ⟨u :: us,lu :: lus,vs2,h,by simp only[RelVs];exact ⟨h1,h3⟩,by simp only[St.finLVs,h2,h4],s1.trans s2⟩
theorem cellsTV_rel {Q:Nm→Pth→Nat→Prop} {x:TV} {v:LV} (hd:deadT x=false) (hx:RelV Q x v):RelVs Q (cellsTV x) v.cells:=by
 cases x with
 |agg ys=>
  simp only[RelV] at hx
  obtain ⟨us,rfl,hu⟩:=hx
  exact hu
 |c x=>simp only[RelV] at hx;subst hx;simp only[LV.cells,cellsTV,RelVs,RelV];trivial
 |ref n p sub=>cases sub with
  |some s=>have hx':=hx;simp only[RelV] at hx;obtain ⟨rfl,_⟩:=hx;simp only[LV.cells,cellsTV,RelVs];exact ⟨hx',trivial⟩
  |none=>have hx':=hx;simp only[RelV] at hx;obtain ⟨_,rfl,_⟩:=hx;simp only[LV.cells,cellsTV,RelVs];exact ⟨hx',trivial⟩
 |addr n p=>simp only[RelV] at hx;subst hx;simp only[LV.cells,cellsTV,RelVs,RelV];trivial
 |raddr cs=>have hx':=hx;simp only[RelV] at hx;subst hx;simp only[LV.cells,cellsTV,RelVs];exact ⟨hx',trivial⟩
 |tup xs=>have hx':=hx;simp only[RelV] at hx;obtain ⟨_,rfl,_⟩:=hx;simp only[LV.cells,cellsTV,RelVs];exact ⟨hx',trivial⟩
 |va xs=>have hx':=hx;simp only[RelV] at hx;obtain ⟨_,rfl,_⟩:=hx;simp only[LV.cells,cellsTV,RelVs];exact ⟨hx',trivial⟩
 |fn g xs=>have hx':=hx;simp only[RelV] at hx;obtain ⟨_,rfl,_⟩:=hx;simp only[LV.cells,cellsTV,RelVs];exact ⟨hx',trivial⟩
 |dead=>cases hd
theorem fitRes_ok {Q:Nm→Pth→Nat→Prop}:∀ {us:List TV} {as:List AP} {lus:List LV},fitRes us as=true→RelVs Q us lus →
  RelVs Q (us.flatMap cellsTV) (lus.flatMap LV.cells)∧∀ ts:List T,ts.length=(lus.flatMap LV.cells).length→resArgs lus ts=argsL as ts
 |[],[],lus,_,hr=>by simp only[RelVs] at hr;subst hr;exact ⟨by simp [RelVs],fun ts _=>by simp [resArgs,argsL]⟩
 |[],_ :: _,lus,h,_=>by simp [fitRes] at h
 |u :: us,as,[],h,hr=>by simp only[RelVs] at hr
 |u :: us,as,l :: lus,h,hr=>by
  simp only[RelVs] at hr
  have agg:∀ xs r as',u=.agg xs→as=.agg r :: as'→fitRes us as'=true→xs.length=r.length→RelVs Q ((u :: us).flatMap cellsTV) ((l :: lus).flatMap LV.cells)∧∀ ts:List T,ts.length=((l :: lus).flatMap LV.cells).length→resArgs (l :: lus) ts=argsL as ts:=by
   intro xs r as' hu has hf hlen
   subst hu
   subst has
   have h1:=hr.1
   simp only[RelV] at h1
   obtain ⟨ls,rfl,h2⟩:=h1
   obtain ⟨k1,k2⟩:=fitRes_ok hf hr.2
   refine ⟨by simp only[List.flatMap_cons];exact h2.append k1,fun ts ht=>?_⟩
   simp only[resArgs,argsL,AP.arg,AP.len]
   rw[← RelVs.length h2,hlen]
   congr 1
   refine k2 _ ?_
   rw[List.flatMap_cons,List.length_append] at ht
   simp only[LV.cells] at ht
   rw[List.length_drop,ht,← RelVs.length h2,hlen]
   omega
  have one:∀ t f as',as=.one t f :: as'→fitRes us as'=true→deadT u=false→(∀ xs,u≠.agg xs)→RelVs Q ((u :: us).flatMap cellsTV) ((l :: lus).flatMap LV.cells)∧∀ ts:List T,ts.length=((l :: lus).flatMap LV.cells).length→resArgs (l :: lus) ts=argsL as ts:=by
   intro t f as' has hf hd hne
   subst has
   obtain ⟨k1,k2⟩:=fitRes_ok hf hr.2
   have hc:=cellsTV_rel hd hr.1
   have hl1:l.cells=[l]:=by
    cases u with
    |agg xs=>exact absurd rfl (hne xs)
    |c x=>have:=hr.1;simp only[RelV] at this;subst this;rfl
    |ref n p sub=>cases sub with
     |some s=>have:=hr.1;simp only[RelV] at this;obtain ⟨rfl,_⟩:=this;rfl
     |none=>have:=hr.1;simp only[RelV] at this;obtain ⟨_,rfl,_⟩:=this;rfl
    |addr n p=>have:=hr.1;simp only[RelV] at this;subst this;rfl
    |raddr cs=>have:=hr.1;simp only[RelV] at this;subst this;rfl
    |tup xs=>have:=hr.1;simp only[RelV] at this;obtain ⟨_,rfl,_⟩:=this;rfl
    |va xs=>have:=hr.1;simp only[RelV] at this;obtain ⟨_,rfl,_⟩:=this;rfl
    |fn g xs=>have:=hr.1;simp only[RelV] at this;obtain ⟨_,rfl,_⟩:=this;rfl
    |dead=>cases hd
   refine ⟨by simp only[List.flatMap_cons];exact hc.append k1,fun ts ht=>?_⟩
   rw[List.flatMap_cons,hl1] at ht
   cases ts with
   |nil=>simp at ht
   |cons t0 ts=>
    have e:resArgs (l :: lus) (t0 :: ts)=.one t0 :: resArgs lus ts:=by
     cases l with
     |agg xs=>
      cases u with
      |agg xs=>exact absurd rfl (hne xs)
      |dead=>cases hd
      |ref n p sub=>cases sub with
       |some s=>have:=hr.1;simp only[RelV] at this;obtain ⟨h,_⟩:=this;cases h
       |none=>have:=hr.1;simp only[RelV] at this;obtain ⟨_,h,_⟩:=this;cases h
      |_=>have:=hr.1;simp [RelV] at this
     |_=>rfl
    rw[e,k2 ts (by simpa using ht)]
    simp [argsL,AP.arg,AP.len]
  cases u with
  |agg xs=>
   cases as with
   |nil=>simp [fitRes] at h
   |cons a as=>
    cases a with
    |agg r=>
     simp only[fitRes,Bool.and_eq_true] at h
     exact agg xs r as rfl rfl h.2 (Nat.eq_of_beq_eq_true h.1)
    |_=>simp [fitRes] at h
  |dead=>cases as<;>simp [fitRes] at h
  |_=>
   cases as with
   |nil=>simp [fitRes] at h
   |cons a as=>
    cases a with
    |one t f=>simp only[fitRes] at h;exact one t f as rfl h rfl (by simp)
    |_=>simp [fitRes] at h
theorem outsC_ok {vs:VS} {st:St} (R:Rel vs st):∀ {outs:List (List (ST×Fg))} {i:Nat} {os:List Cl},outsC vs.b i outs=some os→OutsOK st i (outsL outs (encs os))∧os.length=(outs.flatMap id).length
 |[],i,os,h=>by simp only[outsC,Option.some.injEq] at h;subst h;exact ⟨trivial,rfl⟩
 |o :: outs,i,os,h=>by
  simp only[outsC] at h
  split at h
  ·rename_i x b h1 h2
   split at h
   ·rename_i hc
    cases h
    have hl:=Nat.eq_of_beq_eq_true hc
    obtain ⟨k1,k2⟩:=outsC_ok R h2
    have e1:(encs (x.cells++b)).take o.length=encs x.cells:=by simp [encs,← hl]
    have e2:(encs (x.cells++b)).drop o.length=encs b:=by simp [encs,← hl]
    simp only[outsL,e1,e2,OutsOK,List.length_append,List.flatMap_cons,id_eq]
    exact ⟨⟨(R.b _ _ h1).2,k1⟩,by rw[k2,hl]⟩
   ·cases h
  ·cases h
theorem endL_fin {E:En} {vs:VS} {st:St} {us:List TV} {lus:List LV} {z:R E.me.outS} (hfin:st.finLVs E.P E.rs=some lus) (hu:RelVs (Qs st.b) us lus) (h:endL E us vs=some z) (R1:Rel vs st):Fin E.P E.rs (E.me.outsT (E.me.cells z)) (E.me.resT (E.me.cells z)) st:=by
 unfold endL at h
 cases hf:fitRes us E.me.res with
 |false=>rw[hf] at h;cases h
 |true=>
  rw[hf] at h
  simp only at h
  obtain ⟨k1,k2⟩:=fitRes_ok hf hu
  obtain ⟨cs,vs2,st2,h,R2,hcl⟩:=closes_run (N:=0) h R1 k1.w
  cases ho:outsC vs2.b 0 E.me.outs with
  |none=>rw[ho] at h;cases h
  |some os=>
   rw[ho] at h
   simp only[endR] at h
   obtain ⟨x,h,hx⟩:=toRow_some h
   obtain ⟨o1,o2⟩:=outsC_ok R2 ho
   cases h
   obtain ⟨p1,p2⟩:=part_take hx
   unfold Fin finish
   rw[hfin]
   simp only[hcl]
   have hlen:=closesS_length _ hcl
   rw[k2 _ hlen]
   unfold Lb.outsT Lb.resT outLen Lb.cells
   rw[← o2]
   rw[p1,p2]
   exact .inl ⟨rfl,o1⟩
theorem endP_fin {E:En} {vs:VS} {st:St} {n:Nm} {z:R E.me.outS} (hp:ptrRes E.me.res=true) (hfin:st.finLVs E.P E.rs=some [.addr n [0]]) (h:endP E n vs=some z) (R1:Rel vs st):Fin E.P E.rs (E.me.outsT (E.me.cells z)) (E.me.resT (E.me.cells z)) st:=by
 unfold endP at h
 simp only[rdB] at h
 cases hb:lookB vs.b n with
 |none=>rw[hb] at h;cases h
 |some bx=>
  rw[hb] at h
  obtain ⟨b1,b2⟩:=R1.b n bx hb
  simp only at h
  cases hc:bx.real&&!Nat.beq n.2 1 with
  |false=>rw[hc] at h;cases h
  |true=>
   rw[hc] at h
   simp only[Bool.and_eq_true] at hc
   cases ho:outsC vs.b 0 E.me.outs with
   |none=>rw[ho] at h;cases h
   |some os=>
    rw[ho] at h
    simp only[endR] at h
    obtain ⟨x,h,hx⟩:=toRow_some h
    obtain ⟨o1,o2⟩:=outsC_ok R1 ho
    cases h
    obtain ⟨p1,p2⟩:=part_take hx
    refine .inr ⟨n,hfin,fun e=>?_,by rw[b1];exact hc.1,?_,?_⟩
    ·have h2:=hc.2
     rw[e] at h2
     simp at h2
    ·unfold Lb.resT outLen Lb.cells
     rw[← o2,p2]
     cases hr:E.me.res with
     |nil=>rw[hr] at hp;cases hp
     |cons a as=>
      rw[hr] at hp
      cases as with
      |cons _ _=>cases a<;>cases hp
      |nil=>
       cases a with
       |ptr r=>
        simp only[argsL,AP.arg]
        have hl:bx.cells.length=r.length:=by
         have h3:=ofRow_cts E.me.outT z
         have h4:=congrArg List.length h3
         have h5:=congrArg List.length hx
         simp only[encs,List.length_map,List.length_append] at h4 h5
         have h6:E.me.outT.length=(E.me.outs.flatMap id).length+r.length:=by
          unfold Lb.outT
          rw[hr]
          simp [AP.cts]
         omega
        rw[b2,AP.len,List.take_of_length_le (by simp [encs,hl])]
       |_=>cases hp
    ·unfold Lb.outsT outLen Lb.cells
     rw[← o2,p1]
     exact o1
theorem endC_fin {E:En} {C:Ctx} {f:FuncId} {Q:Value→World→Prop} {K:List It} {vs:VS} {st:St} {z:R E.me.outS} (hk:∀ st,Fin E.P E.rs (E.me.outsT (E.me.cells z)) (E.me.resT (E.me.cells z)) st→Good C f Q K st)
  (h:endC E vs=some z) (R:Rel vs st):Good C f Q K st:=by
 unfold endC at h
 refine fixL_good (fun vs st h R=>hk st ?_) _ h R
 obtain ⟨us,lus,vs1,h,hu,hfin,s1⟩:=finTs_ref h R
 have R1:Rel vs1 st:=by
  have:=R.lg vs1.lg
  rw[← s1.1,← s1.2] at this
  exact this
 have old:endL E us vs1=some z→Fin E.P E.rs (E.me.outsT (E.me.cells z)) (E.me.resT (E.me.cells z)) st:=fun h=>endL_fin hfin hu h R1
 cases hp:ptrRes E.me.res with
 |false=>rw[hp] at h;exact old h
 |true=>
  rw[hp] at h
  cases us with
  |nil=>exact old h
  |cons u us=>
   cases us with
   |cons _ _=>
    cases u with
    |addr n p=>obtain ⟨c,r⟩:=p;cases c<;>cases r<;>exact old h
    |_=>exact old h
   |nil=>
    cases u with
    |addr n p=>
     obtain ⟨c,r⟩:=p
     cases c with
     |succ c=>exact old h
     |zero=>
      cases r with
      |cons _ _=>exact old h
      |nil=>
       match lus,hu with
       |[],hu=>simp only[RelVs] at hu
       |[lv],hu=>
        simp only[RelVs] at hu
        have e:=addrV hu.1
        subst e
        exact endP_fin hp hfin h R1
       |_ :: _ :: _,hu=>simp only[RelVs] at hu;exact absurd hu.2 (by simp)
    |_=>exact old h
theorem ncLL_spec:∀ {l l':List Ft},ncLL l l'=true→∀ x∈l,∀ z∈l',x.nc z=true
 |[],l',_,x,hx=>by simp at hx
 |a :: l,l',h,x,hx=>by
  simp only[ncLL,Bool.and_eq_true] at h
  have key:∀ (m:List Ft),ncL a m=true→∀ z∈m,a.nc z=true:=by
   intro m
   induction m with
   |nil=>intro _ z hz;simp at hz
   |cons b m ih=>
    intro h z hz
    simp only[ncL,Bool.and_eq_true] at h
    rcases List.mem_cons.1 hz with rfl | hz
    ·exact h.1
    ·exact ih h.2 z hz
  rcases List.mem_cons.1 hx with rfl | hx
  ·exact key l' h.1
  ·exact ncLL_spec h.2 x hx
theorem bindsB_eq (e:Edge):bindsB e=Region.binds .any e:=by
 unfold bindsB Region.binds
 cases e.ground<;>rfl
theorem anc_mono {ops:Array Oper} {j:Nat}:∀ {a b i:Nat},a≤b→anc ops j a i=true→anc ops j b i=true
 |0,_,_,_,h=>by simp [anc] at h
 |a+1,0,_,hab,_=>by omega
 |a+1,b+1,i,hab,h=>by
  rw[anc] at h ⊢
  cases ho:ops[i]? with
  |none=>rw[ho] at h;simp at h
  |some o=>
   rw[ho] at h
   simp only[Option.map_some,Option.getD_some,Array.any_eq_true',Bool.and_eq_true,Bool.or_eq_true,beq_iff_eq] at h ⊢
   obtain ⟨e,he,hb,h⟩:=h
   exact ⟨e,he,hb,h.imp id (anc_mono (by omega))⟩
theorem maskE_bit {ms:List (Nat×Nat)} {n j:Nat}:∀ {es:List Edge},Nat.testBit (maskE ms n es) j=true→∃ e∈es,bindsB e=true∧e.on<n∧(e.on=j∨Nat.testBit (lookN ms e.on) j=true)
 |[],h=>by simp [maskE] at h
 |e :: es,h=>by
  rw[maskE] at h
  cases hc:(bindsB e&&Nat.blt e.on n) with
  |false=>
   rw[hc] at h
   obtain ⟨e',h1,h2⟩:=maskE_bit h
   exact ⟨e',by simp [h1],h2⟩
  |true=>
   rw[hc] at h
   simp only[Bool.and_eq_true,Nat.blt_eq] at hc
   have h:Nat.testBit ((((1 <<< e.on) ||| lookN ms e.on)) ||| maskE ms n es) j=true:=h
   rw[Nat.testBit_or,Nat.testBit_or,Bool.or_eq_true,Bool.or_eq_true] at h
   rcases h with (h | h) | h
   ·rw[Nat.testBit_shiftLeft] at h
    simp only[Bool.and_eq_true,decide_eq_true_eq] at h
    refine ⟨e,by simp,hc.1,hc.2,.inl ?_⟩
    have h2:=h.2
    rw[Nat.testBit_one_eq_true_iff_self_eq_zero] at h2
    omega
   ·exact ⟨e,by simp,hc.1,hc.2,.inr h⟩
   ·obtain ⟨e',h1,h2⟩:=maskE_bit h
    exact ⟨e',by simp [h1],h2⟩
theorem masksT_bit {ops:Array Oper} {j:Nat}:∀ (n:Nat) {i:Nat},Nat.testBit (lookN (masksT ops n) i) j=true→i<n∧i<ops.size∧anc ops j (i+1) i=true:=by
 intro n
 induction n with
 |zero=>intro i h;simp [masksT,lookN] at h
 |succ n ih=>
  intro i h
  rw[masksT] at h
  cases ho:ops[n]? with
  |none=>
   rw[ho] at h
   obtain ⟨h1,h2⟩:=ih h
   exact ⟨by omega,h2⟩
  |some o=>
   rw[ho] at h
   simp only[lookN] at h
   cases hb:Nat.beq n i with
   |false=>
    rw[hb] at h
    obtain ⟨h1,h2⟩:=ih h
    exact ⟨by omega,h2⟩
   |true=>
    rw[hb] at h
    have:=Nat.eq_of_beq_eq_true hb
    subst this
    refine ⟨by omega,(Array.getElem?_eq_some_iff.1 ho).1,?_⟩
    obtain ⟨e,h1,h2,h3,h4⟩:=maskE_bit h
    rw[anc,ho]
    simp only[Option.map_some,Option.getD_some,Array.any_eq_true',Bool.and_eq_true,Bool.or_eq_true,beq_iff_eq]
    refine ⟨e,by simpa using h1,by rw[← bindsB_eq];exact h2,?_⟩
    rcases h4 with h4 | h4
    ·exact .inl h4
    ·exact .inr (anc_mono (by omega) (ih h4).2.2)
theorem ncOne_spec {ops:Array Oper} {i:Nat} {l:List Ft}:∀ {ls:List (Nat×List Ft)},ncOne (masksT ops ops.size) i l ls=true→∀ x∈ls,anc ops x.1 ops.size i=true∨ncLL x.2 l=true
 |[],_,x,hx=>by simp at hx
 |(j,l') :: ls,h,x,hx=>by
  simp only[ncOne,Bool.and_eq_true,Bool.or_eq_true] at h
  rcases List.mem_cons.1 hx with rfl | hx
  ·rcases h.1 with h1 | h1
   ·obtain ⟨_,k2,k3⟩:=masksT_bit _ h1
    exact .inl (anc_mono (by omega) k3)
   ·exact .inr h1
  ·exact ncOne_spec h.2 x hx
theorem ncAll_spec {ops:Array Oper}:∀ {ls:List (Nat×List Ft)},ncAllM (masksT ops ops.size) ls=true→ls.Pairwise fun x z=>anc ops z.1 ops.size x.1=true∨ncLL z.2 x.2=true
 |[],_=>.nil
 |(i,l) :: ls,h=>by
  simp only[ncAllM,Bool.and_eq_true] at h
  exact .cons (fun x hx=>ncOne_spec h.1 x hx) (ncAll_spec h.2)
theorem memN_iff {i:Nat}:∀ {l:List Nat},memN i l=true↔i∈l
 |[]=>by simp [memN]
 |j :: l=>by simp only[memN,Bool.or_eq_true,List.mem_cons,memN_iff (l:=l),Nat.beq_eq]
theorem edgesOk_spec {n i:Nat} {rest:List Nat}:∀ {es:List Edge},edgesOk n i rest es=true→∀ e∈es,Region.binds .any e=true→e.on<n∧e.on≠i∧e.on ∉ rest
 |[],_,e,he,_=>by simp at he
 |x :: es,h,e,he,hb=>by
  simp only[edgesOk,Bool.and_eq_true,Bool.or_eq_true,Bool.not_eq_true'] at h
  rcases List.mem_cons.1 he with rfl | he
  ·rw[bindsB_eq,hb] at h
   obtain ⟨h1,h2,h3⟩:=h.1.resolve_left (by simp)
   refine ⟨by simpa [Nat.blt_eq] using h1,fun e1=>?_,fun hm=>?_⟩
   ·rw[e1,Nat.beq_refl] at h2;cases h2
   ·rw[memN_iff.2 hm] at h3;cases h3
  ·exact edgesOk_spec h.2 e he hb
theorem ordOk_spec {ops:Array Oper}:∀ {ord:List Nat},ordOk ops ord=true→ord.Nodup∧(∀ i∈ord,i<ops.size∧∀ o,ops[i]?=some o→∀ e∈o.after,Region.binds .any e=true→e.on<ops.size∧e.on≠i)∧ord.Pairwise fun i j=>∀ o,ops[i]?=some o→∀ e∈o.after,Region.binds .any e=true→e.on≠j
 |[],_=>⟨.nil,fun i hi=>by simp at hi,.nil⟩
 |i :: rest,h=>by
  simp only[ordOk,Bool.and_eq_true,Bool.not_eq_true'] at h
  obtain ⟨⟨⟨h1,h2⟩,h3⟩,h4⟩:=h
  obtain ⟨k1,k2,k3⟩:=ordOk_spec h4
  have hnm:i ∉ rest:=fun hm=>by rw[memN_iff.2 hm] at h2;cases h2
  have he:∀ o,ops[i]?=some o→∀ e∈o.after,Region.binds .any e=true→e.on<ops.size∧e.on≠i∧e.on ∉ rest:=by
   intro o ho e he
   rw[ho] at h3
   exact edgesOk_spec h3 e (by simpa using he)
  refine ⟨List.nodup_cons.2 ⟨hnm,k1⟩,fun j hj=>?_,.cons (fun j hj o ho e hm hb e1=>(he o ho e hm hb).2.2 (e1 ▸ hj)) k3⟩
  rcases List.mem_cons.1 hj with rfl | hj
  ·exact ⟨by simpa [Nat.blt_eq] using h1,fun o ho e hm hb=>⟨(he o ho e hm hb).1,(he o ho e hm hb).2.1⟩⟩
  ·exact k2 j hj
theorem coverN_spec {ord:List Nat}:∀ {n:Nat},coverN ord n=true→∀ i,i<n→i∈ord
 |0,_,i,h=>by omega
 |n+1,h,i,hi=>by
  simp only[coverN,Bool.and_eq_true] at h
  by_cases e:i=n
  ·subst e;exact memN_iff.1 h.1
  ·exact coverN_spec h.2 i (by omega)
def findK {α:Type} (d:α):List (Nat×α)→Nat→α
 |[],_=>d
 |(j,x) :: l,i=>if j=i then x else findK d l i
theorem findK_mem {α:Type} {d:α}:∀ {l:List (Nat×α)},(l.map (·.1)).Nodup→∀ z∈l,findK d l z.1=z.2
 |[],_,z,hz=>by simp at hz
 |(j,x) :: l,hn,z,hz=>by
  rw[List.map_cons,List.nodup_cons] at hn
  rcases List.mem_cons.1 hz with rfl | hz
  ·simp [findK]
  ·have:j≠z.1:=fun e=>hn.1 (List.mem_map.2 ⟨z,hz,e.symm⟩)
   rw[findK,if_neg this]
   exact findK_mem hn.2 z hz
section
variable {C:Ctx} {f:FuncId} {Q:Value→World→Prop} {K:List It} {ρ:Type} {y:ρ} {E:En} {rec:Rec}
theorem drawT_ref {k:Co ρ} {all:Array Oper} (hJ:Right E.P rec) (hP:C.P=E.P) (hN:C.N=E.N):∀ (rest:List Nat) (acc:List (Nat×List Ft)) (vs:VS) (st:St),drawT E rec all rest acc k vs=some y→Rel vs st →
  ∃ (zs:List (Nat×List Ac×List Ft)) (vs':VS),k vs'=some y∧zs.map (·.1)=rest∧Rel vs' (appAll (zs.map (·.2.1)) st)∧fitsAll C.N (zs.map (·.2.1)) st ∧
    (∀ z∈zs,Doable C all z.1 z.2.1∧∀ a∈z.2.1,∃ f∈z.2.2,Cov f a) ∧
    ncAll all ((zs.map fun z=>(z.1,z.2.2)).reverse++acc)=true∧ordOk all ((acc.reverse.map (·.1))++rest)=true∧coverN (((zs.map fun z=>(z.1,z.2.2)).reverse++acc).map (·.1)) all.size=true∧acc.length+rest.length=all.size
 |[],acc,vs,st,h,R=>by
  simp only[drawT] at h
  cases hc:(ncAll all acc&&(ordOk all (acc.reverse.map (·.1))&&(coverN (acc.map (·.1)) all.size&&Nat.beq acc.length all.size))) with
  |false=>rw[hc] at h;cases h
  |true=>
   rw[hc] at h
   simp only[Bool.and_eq_true] at hc
   exact ⟨[],_,h,rfl,R.lg _,trivial,fun z hz=>by simp at hz,by simpa using hc.1,by simpa using hc.2.1,by simpa using hc.2.2.1,by simpa using Nat.eq_of_beq_eq_true hc.2.2.2⟩
 |i :: rest,acc,vs,st,h,R=>by
  simp only[drawT] at h
  cases hi:all[i]? with
  |none=>rw[hi] at h;cases h
  |some o=>
   rw[hi] at h
   simp only at h
   obtain ⟨vs1,l,h,R1,f1,c1,d1⟩:=one_ref (C:=C) hJ hP hN hi h (R.lg [])
   obtain ⟨zs,vs2,h,e2,R2,f2,d2,nc,oo,cv,ln⟩:=drawT_ref hJ hP hN rest _ vs1 _ h R1
   refine ⟨(i,l,vs1.lg) :: zs,vs2,h,by simp [e2],R2,⟨f1,f2⟩,fun z hz=>?_,by simpa using nc,by simpa using oo,by simpa using cv,by simp at ln ⊢;omega⟩
   rcases List.mem_cons.1 hz with rfl | hz
   ·refine ⟨d1,?_⟩
    obtain ⟨dd,e,hcov⟩:=c1
    rw[List.append_nil] at e
    rw[e]
    exact hcov
   ·exact d2 z hz
theorem drawT_good {k:Co ρ} {id:Nat} {ops:Array Oper} {ord:List Nat} {vs:VS} {st:St} (hJ:Right E.P rec) (hP:C.P=E.P) (hN:C.N=E.N) (hm:E.P.follows .mixedOrders=true) (hk:∀ vs st,k vs=some y→Rel vs st→Good C f Q K st)
  (h:drawT E rec ops ord [] k vs=some y) (R:Rel vs st):Good C f Q (.c (.region id ops true) :: K) st:=by
 obtain ⟨zs,vs',h,e,R',hf,hd,nc,oo,cv,ln⟩:=drawT_ref (C:=C) hJ hP hN ord [] vs st h R
 simp only[List.reverse_nil,List.nil_append,List.map_nil,List.append_nil,List.length_nil,Nat.zero_add] at nc oo cv ln
 obtain ⟨o1,o2,o3⟩:=ordOk_spec oo
 have hcov:∀ i,i<ops.size→i∈ord:=by
  intro i hi
  have:=coverN_spec cv i hi
  rw[List.map_reverse,List.mem_reverse,List.map_map] at this
  rw[← e]
  exact this
 let F:Nat→List Ac:=findK [] (zs.map fun z=>(z.1,z.2.1))
 have hF:∀ z∈zs,F z.1=z.2.1:=fun z hz=>findK_mem (l:=zs.map fun z=>(z.1,z.2.1)) (by rw[List.map_map];show (zs.map (·.1)).Nodup;rw[e];exact o1) (z.1,z.2.1) (List.mem_map_of_mem (f:=fun z:Nat×List Ac×List Ft=>(z.1,z.2.1)) hz)
 let ls:List (List Ac):=(List.range ops.size).map F
 have hls:∀ i,i<ops.size→ls[i]?=some (F i):=fun i hi=>by simp [ls,hi]
 have hlsD:∀ z∈zs,ls.getD z.1 []=z.2.1:=by
  intro z hz
  have hz1:z.1<ops.size:=(o2 z.1 (by rw[← e];exact List.mem_map_of_mem hz)).1
  rw[List.getD_eq_getElem?_getD,hls _ hz1,Option.getD_some,hF z hz]
 have hmap:ord.map (fun i=>ls.getD i [])=zs.map (·.2.1):=by
  rw[← e,List.map_map]
  exact List.map_congr_left fun z hz=>hlsD z hz
 have key:∀ i,i<ops.size→∃ z∈zs,z.1=i:=by
  intro i hi
  have:=hcov i hi
  rw[← e] at this
  obtain ⟨z,hz,rfl⟩:=List.mem_map.1 this
  exact ⟨z,hz,rfl⟩
 refine good_draw ls hP hm (by simp [ls]) ord ln o1 (fun i=>⟨fun hi=>(o2 i hi).1,hcov i⟩) (fun i o ho=>(o2 i (hcov i (Array.getElem?_eq_some_iff.1 ho).1)).2 o ho) o3 (fun i l hl=>?_) (fun i j l l' hji hanc hj hi=>?_) (by rw[hmap];exact hf) (by rw[hmap];exact hk _ _ h R')
 ·have hi:i<ops.size:=by
   have:=(List.getElem?_eq_some_iff.1 hl).1
   simpa [ls] using this
  obtain ⟨z,hz,rfl⟩:=key i hi
  rw[hls _ hi,hF z hz] at hl
  cases hl
  exact (hd z hz).1
 ·rw[← e] at hji
  obtain ⟨zz,hsub,hzz⟩:=List.sublist_map_iff.1 hji
  match zz,hzz with
  |[z1,z2],hzz=>
   simp only[List.map_cons,List.map_nil,List.cons.injEq,and_true] at hzz
   obtain ⟨rfl,rfl⟩:=hzz
   have m1:z1∈zs:=hsub.subset (by simp)
   have m2:z2∈zs:=hsub.subset (by simp)
   have g1:l'=z1.2.1:=by
    have hz1:z1.1<ops.size:=(o2 z1.1 (by rw[← e];exact List.mem_map_of_mem m1)).1
    rw[hls _ hz1,hF _ m1] at hj
    exact (Option.some.inj hj).symm
   have g2:l=z2.2.1:=by
    have hz2:z2.1<ops.size:=(o2 z2.1 (by rw[← e];exact List.mem_map_of_mem m2)).1
    rw[hls _ hz2,hF _ m2] at hi
    exact (Option.some.inj hi).symm
   subst g1
   subst g2
   have hp:=List.pairwise_reverse.1 (ncAll_spec nc)
   rw[List.pairwise_map] at hp
   have h2:=List.pairwise_iff_forall_sublist.1 hp hsub
   rcases h2 with h2 | h2
   ·rw[hanc] at h2;cases h2
   ·intro a ha b hb
    obtain ⟨x,hx,cx⟩:=(hd z1 m1).2 a ha
    obtain ⟨z,hz,cz⟩:=(hd z2 m2).2 b hb
    exact nc_of (ncLL_spec h2 x hx z hz) cx cz
end
end TM
namespace TM
open Go
theorem codeAt_snoc:∀ {p:List Nat} {c node:Code} {i:Nat},codeAt c p=some node→codeAt c (p++[i])=codeAt node [i]
 |[],c,node,i,h=>by simp only[codeAt,Option.some.injEq] at h;subst h;rfl
 |j :: p,c,node,i,h=>by
  cases c with
  |seq x z=>
   match j,h with
   |0,h=>simp only[codeAt] at h;simp only[List.cons_append,codeAt];exact codeAt_snoc h
   |1,h=>simp only[codeAt] at h;simp only[List.cons_append,codeAt];exact codeAt_snoc h
   |_+2,h=>simp [codeAt] at h
  |block id x=>
   match j,h with
   |0,h=>simp only[codeAt] at h;simp only[List.cons_append,codeAt];exact codeAt_snoc h
   |_+1,h=>simp [codeAt] at h
  |loop x=>
   match j,h with
   |0,h=>simp only[codeAt] at h;simp only[List.cons_append,codeAt];exact codeAt_snoc h
   |_+1,h=>simp [codeAt] at h
  |cond t x z=>
   match j,h with
   |0,h=>simp only[codeAt] at h;simp only[List.cons_append,codeAt];exact codeAt_snoc h
   |1,h=>simp only[codeAt] at h;simp only[List.cons_append,codeAt];exact codeAt_snoc h
   |_+2,h=>simp [codeAt] at h
  |_=>simp [codeAt] at h
theorem upTo_exits {body:Code} {id:Nat}:∀ {q p:List Nat},upTo body id q=some p→exits id (stk body q)=some (stk body p)
 |[],p,h=>by cases h
 |i :: q,p,h=>by
  simp only[upTo] at h
  simp only[stk]
  cases hc:codeAt body q.reverse with
  |none=>rw[hc] at h;simp only at h ⊢;exact upTo_exits h
  |some c=>
   rw[hc] at h
   cases c with
   |block j x=>
    simp only at h ⊢
    cases hb:Nat.beq j id with
    |true=>
     rw[hb] at h
     cases h
     simp only[exits]
     rw[if_pos (Nat.eq_of_beq_eq_true hb)]
    |false=>
     rw[hb] at h
     simp only[exits]
     rw[if_neg (fun e=>by rw[e,Nat.beq_refl] at hb;cases hb)]
     exact upTo_exits h
   |seq x z=>
    simp only at h ⊢
    split
    ·simp only[exits];exact upTo_exits h
    ·exact upTo_exits h
   |loop x=>simp only at h ⊢;simp only[exits];exact upTo_exits h
   |_=>simp only at h ⊢;exact upTo_exits h
section
variable {C:Ctx} {E:En} {rec:Rec} {fn:Func} {z:R E.me.outS}
theorem runT_good (hJ:Right E.P rec) (hP:C.P=E.P) (hN:C.N=E.N) (hm:E.P.follows .mixedOrders=true) (hf:E.P.funcs[E.f]?=some fn) (hb:fn.body=some E.body) (hrs:E.rs=fn.results.toList) (hEN:E.N=fn.ntmps):∀ n,
  (∀ (first:Bool) (q:List Nat) (vs:VS) (st:St) (node:Code),runT E rec n first true q vs=some z→Rel vs st→codeAt E.body q.reverse=some node→Good C E.f (Post C (E.me.outsT (E.me.cells z)) (E.me.resT (E.me.cells z))) (.c node :: stk E.body q) st) ∧
  (∀ (first:Bool) (q:List Nat) (vs:VS) (st:St),runT E rec n first false q vs=some z→Rel vs st→Good C E.f (Post C (E.me.outsT (E.me.cells z)) (E.me.resT (E.me.cells z))) (stk E.body q) st)
 |0=>⟨fun first q vs st node h=>by simp [runT,no,fail] at h,fun first q vs st h=>by simp [runT,no,fail] at h⟩
 |n+1=>by
  obtain ⟨ih1,ih2⟩:=runT_good hJ hP hN hm hf hb hrs hEN n
  have hend:∀ vs st K,endC E vs=some z→Rel vs st→(∀ (b:Frame) cs a w,∃ todo,Steps C.P (lone (b.at a (K.map It.item)) cs w) (lone { b.at a todo with mode:=.returning } cs w)) →
    Good C E.f (Post C (E.me.outsT (E.me.cells z)) (E.me.resT (E.me.cells z))) K st:=by
   intro vs st K h R hs
   refine endC_fin (fun st hfin=>?_) h R
   rw[hrs,← hP] at hfin
   exact good_ret (good_fin (fn:=fn) (by rw[hP];exact hf) hfin) K hs
  refine ⟨fun first q vs st node h R hnode=>?_,fun first q vs st h R=>?_⟩
  ·simp only[runT,hnode] at h
   cases node with
   |skip=>exact good_skip (ih2 _ _ _ _ h R)
   |ret=>exact hend vs st _ h R fun b cs a w=>⟨_,.one step_ret⟩
   |seq x z=>
    refine good_seq ?_
    have:=ih1 _ (0 :: q) _ _ x h R (by rw[List.reverse_cons,codeAt_snoc hnode];simp [codeAt])
    simpa only[stk,hnode,if_true] using this
   |block id x=>
    refine good_block ?_
    have:=ih1 _ (0 :: q) _ _ x h R (by rw[List.reverse_cons,codeAt_snoc hnode];simp [codeAt])
    simpa only[stk,hnode] using this
   |loop x=>
    refine good_loop ?_
    have:=ih1 _ (0 :: q) _ _ x h R (by rw[List.reverse_cons,codeAt_snoc hnode];simp [codeAt])
    simpa only[stk,hnode] using this
   |cond t x z'=>
    cases t with
    |tmp t=>
     simp only[rdS] at h
     have hR:=R.s t
     generalize hl:lookS vs.s t=v at h hR
     cases v with
     |c w=>
      obtain ⟨tt,ff,r⟩:=w
      cases tt with
      |bool=>
       have hs:=boolV hR
       rcases iteC_ref h with ⟨hr,h⟩ | ⟨hr,h⟩
       ·have hs':st.s t=.t (.v (.bool true)):=by rw[hs,show r=true from hr]
        refine good_cond hs' ?_
        rw[if_pos rfl]
        have:=ih1 _ (0 :: q) _ _ x h ((know_rel R hs').lg _) (by rw[List.reverse_cons,codeAt_snoc hnode];simp [codeAt])
        simpa only[stk,hnode] using this
       ·have hs':st.s t=.t (.v (.bool false)):=by rw[hs,show r=false from hr]
        refine good_cond hs' ?_
        rw[if_neg (by simp)]
        have:=ih1 _ (1 :: q) _ _ z' h ((know_rel R hs').lg _) (by rw[List.reverse_cons,codeAt_snoc hnode];simp [codeAt])
        simpa only[stk,hnode] using this
      |_=>cases h
     |_=>cases h
    |const c=>
     cases c with
     |bool b=>
      cases b with
      |true=>
       refine good_condc ?_
       rw[if_pos rfl]
       have:=ih1 _ (0 :: q) _ _ x h R (by rw[List.reverse_cons,codeAt_snoc hnode];simp [codeAt])
       simpa only[stk,hnode] using this
      |false=>
       refine good_condc ?_
       rw[if_neg (by simp)]
       have:=ih1 _ (1 :: q) _ _ z' h R (by rw[List.reverse_cons,codeAt_snoc hnode];simp [codeAt])
       simpa only[stk,hnode] using this
     |_=>cases h
    |_=>cases h
   |exit id=>
    simp only at h
    cases hu:upTo E.body id q with
    |none=>rw[hu] at h;cases h
    |some p=>
     rw[hu] at h
     exact good_exit (upTo_exits hu) (ih2 _ _ _ _ h R)
   |region id ops d=>
    cases d with
    |false=>
     simp only at h
     cases hc:(!first&&isCut E.me.i q (E.tb E.f)) with
     |true=>rw[hc] at h;exact jump_good hJ hP hN hf hb hEN hnode h R
     |false=>
      rw[hc] at h
      exact good_region (opsT_good hJ hP hN (fun vs st h R=>ih2 _ _ _ _ h R) _ _ _ ⟨[],rfl⟩ h R)
    |true=>
     simp only at h
     cases hc:(!first&&isCut E.me.i q (E.tb E.f)) with
     |true=>rw[hc] at h;exact jump_good hJ hP hN hf hb hEN hnode h R
     |false=>
      rw[hc] at h
      exact fixL_good (fun vs st h R=>drawT_good hJ hP hN hm (fun vs st h R=>fixL_good (fun vs st h R=>ih2 _ _ _ _ h R) _ h R) h R) _ h R
   |_=>cases h
  ·cases q with
   |nil=>
    simp only[runT] at h
    exact hend vs st _ h R fun b cs a w=>⟨[],.one step_end⟩
   |cons i p=>
    match i,h with
    |0,h=>
     simp only[runT] at h
     cases hc:codeAt E.body p.reverse with
     |none=>rw[hc] at h;cases h
     |some node=>
      rw[hc] at h
      cases node with
      |seq x z'=>
       simp only[stk,hc,if_true]
       have:=ih1 _ (1 :: p) _ _ z' h R (by rw[List.reverse_cons,codeAt_snoc hc];simp [codeAt])
       simpa only[stk,hc,Nat.one_ne_zero,if_false] using this
      |block id x=>simp only[stk,hc];exact good_blk (ih2 _ _ _ _ h R)
      |loop x=>
       simp only[stk,hc]
       refine good_again ?_
       have:=ih1 _ (0 :: p) _ _ x h R (by rw[List.reverse_cons,codeAt_snoc hc];simp [codeAt])
       simpa only[stk,hc] using this
      |cond t x z'=>simp only[stk,hc];exact ih2 _ _ _ _ h R
      |_=>cases h
    |1,h=>
     simp only[runT] at h
     cases hc:codeAt E.body p.reverse with
     |none=>rw[hc] at h;cases h
     |some node=>
      rw[hc] at h
      cases node with
      |seq x z'=>simp only[stk,hc,Nat.one_ne_zero,if_false];exact ih2 _ _ _ _ h R
      |cond t x z'=>simp only[stk,hc];exact ih2 _ _ _ _ h R
      |_=>cases h
    |_+2,h=>simp [runT,no,fail] at h
end
end TM
namespace TM
open Go
def LeO {ρ:Type} (a b:Option ρ):Prop:=∀ z,a=some z→b=some z
def LeC {ρ:Type} (a b:Co ρ):Prop:=∀ st,LeO (a st) (b st)
section
variable {ρ:Type}
theorem LeO.rfl' {a:Option ρ}:LeO a a:=fun _ h=>h
theorem LeC.rfl' {a:Co ρ}:LeC a a:=fun _ _ h=>h
theorem LeC.of {a b:Co ρ} (h:∀ st,LeO (a st) (b st)):LeC a b:=h
theorem LeC.at {a b:Co ρ} (h:LeC a b) (st:VS):LeO (a st) (b st):=h st
theorem m_rdS {t:Nat} {k k':TV→Co ρ} (h:∀ v0,LeC (k v0) (k' v0)):LeC (rdS t k) (rdS t k'):=LeC.of fun _=>(h _).at _
theorem m_rdX {t i:Nat} {k k':TV→Co ρ} (h:∀ v0,LeC (k v0) (k' v0)):LeC (rdX t i k) (rdX t i k'):=by
 refine LeC.of fun st=>?_
 unfold rdX
 split
 ·split
  ·exact (h _).at _
  ·exact .rfl'
 ·exact .rfl'
theorem m_rdB {n:Nm} {k k':VB→Co ρ} (h:∀ v0,LeC (k v0) (k' v0)):LeC (rdB n k) (rdB n k'):=by
 refine LeC.of fun st=>?_
 unfold rdB
 split
 ·exact (h _).at _
 ·exact .rfl'
theorem m_wrS {N t:Nat} {v:TV} {k k':Co ρ} (h:LeC k k'):LeC (wrS N t v k) (wrS N t v k'):=by
 refine LeC.of fun st=>?_
 unfold wrS
 split
 ·exact h.at _
 ·exact .rfl'
theorem m_wrB {n:Nm} {b:VB} {k k':Co ρ} (h:LeC k k'):LeC (wrB n b k) (wrB n b k'):=LeC.of fun _=>h.at _
theorem m_kill {n:Nm} {p:Pth} {k k':Co ρ} (h:LeC k k'):LeC (kill n p k) (kill n p k'):=LeC.of fun _=>h.at _
theorem m_killBox {n:Nm} {k k':Co ρ} (h:LeC k k'):LeC (killBox n k) (killBox n k'):=LeC.of fun _=>h.at _
theorem m_knowT {n:Nat} {b:Bool} {k k':Co ρ} (h:LeC k k'):LeC (knowT n b k) (knowT n b k'):=LeC.of fun _=>h.at _
theorem m_iteC {c:V .bool} {x x' y y':Co ρ} (h:LeC x x') (h':LeC y y'):LeC (iteC c x y) (iteC c x' y'):=by
 refine LeC.of fun st=>?_
 unfold iteC ite_
 cases c
 ·exact h'.at _
 ·exact h.at _
theorem m_castV {t u:ST} {v:V t} {k k':V u→Option ρ} (h:∀ v0,LeO (k v0) (k' v0)):LeO (castV t u v k) (castV t u v k'):=by
 unfold castV
 repeat (first | with_reducible exact .rfl' | with_reducible exact h | with_reducible exact h _ | with_reducible exact h _ _ | with_reducible exact (h _).at _ | with_reducible exact h.at _ | with_reducible refine m_iteC ?_ ?_ | with_reducible refine m_knowT ?_ | with_reducible refine m_killBox ?_ | with_reducible refine m_kill ?_ | with_reducible refine m_wrB ?_ | with_reducible refine m_wrS ?_ | with_reducible refine m_rdB ?_ | with_reducible refine m_rdS ?_ | with_reducible refine LeC.of fun _=>?_ | with_reducible intro _ | split | with_reducible refine LeC.at ?_ _)
theorem m_castL {t u:List ST} {v:V (.sl t)} {k k':V (.sl u)→Option ρ} (h:∀ v0,LeO (k v0) (k' v0)):LeO (castL t u v k) (castL t u v k'):=by
 unfold castL
 repeat (first | with_reducible exact .rfl' | with_reducible exact h | with_reducible exact h _ | with_reducible exact h _ _ | with_reducible exact (h _).at _ | with_reducible exact h.at _ | with_reducible refine m_castV ?_ | with_reducible refine m_iteC ?_ ?_ | with_reducible refine m_knowT ?_ | with_reducible refine m_killBox ?_ | with_reducible refine m_kill ?_ | with_reducible refine m_wrB ?_ | with_reducible refine m_wrS ?_ | with_reducible refine m_rdB ?_ | with_reducible refine m_rdS ?_ | with_reducible refine LeC.of fun _=>?_ | with_reducible intro _ | split | with_reducible refine LeC.at ?_ _)
theorem m_at_ {α:Type} {l:List α} {i:Int} {k k':Nat→α→Option ρ} (h:∀ v0 v1,LeO (k v0 v1) (k' v0 v1)):LeO (at_ l i k) (at_ l i k'):=by
 unfold at_
 repeat (first | with_reducible exact .rfl' | with_reducible exact h | with_reducible exact h _ | with_reducible exact h _ _ | with_reducible exact (h _).at _ | with_reducible exact h.at _ | with_reducible refine m_castL ?_ | with_reducible refine m_castV ?_ | with_reducible refine m_iteC ?_ ?_ | with_reducible refine m_knowT ?_ | with_reducible refine m_killBox ?_ | with_reducible refine m_kill ?_ | with_reducible refine m_wrB ?_ | with_reducible refine m_wrS ?_ | with_reducible refine m_rdB ?_ | with_reducible refine m_rdS ?_ | with_reducible refine LeC.of fun _=>?_ | with_reducible intro _ | split | with_reducible refine LeC.at ?_ _)
theorem m_atN {α:Type} {l:List α} {i:Nat} {k k':α→Option ρ} (h:∀ v0,LeO (k v0) (k' v0)):LeO (atN l i k) (atN l i k'):=by
 unfold atN
 repeat (first | with_reducible exact .rfl' | with_reducible exact h | with_reducible exact h _ | with_reducible exact h _ _ | with_reducible exact (h _).at _ | with_reducible exact h.at _ | with_reducible refine m_at_ ?_ | with_reducible refine m_castL ?_ | with_reducible refine m_castV ?_ | with_reducible refine m_iteC ?_ ?_ | with_reducible refine m_knowT ?_ | with_reducible refine m_killBox ?_ | with_reducible refine m_kill ?_ | with_reducible refine m_wrB ?_ | with_reducible refine m_wrS ?_ | with_reducible refine m_rdB ?_ | with_reducible refine m_rdS ?_ | with_reducible refine LeC.of fun _=>?_ | with_reducible intro _ | split | with_reducible refine LeC.at ?_ _)
theorem m_atS {l:List UInt8} {i:Int} {k k':Int→Option ρ} (h:∀ v0,LeO (k v0) (k' v0)):LeO (atS l i k) (atS l i k'):=by
 unfold atS
 repeat (first | with_reducible exact .rfl' | with_reducible exact h | with_reducible exact h _ | with_reducible exact h _ _ | with_reducible exact (h _).at _ | with_reducible exact h.at _ | with_reducible refine m_atN ?_ | with_reducible refine m_at_ ?_ | with_reducible refine m_castL ?_ | with_reducible refine m_castV ?_ | with_reducible refine m_iteC ?_ ?_ | with_reducible refine m_knowT ?_ | with_reducible refine m_killBox ?_ | with_reducible refine m_kill ?_ | with_reducible refine m_wrB ?_ | with_reducible refine m_wrS ?_ | with_reducible refine m_rdB ?_ | with_reducible refine m_rdS ?_ | with_reducible refine LeC.of fun _=>?_ | with_reducible intro _ | split | with_reducible refine LeC.at ?_ _)
theorem m_sub_ {α:Type} {l:List α} {a b:Int} {k k':List α→Option ρ} (h:∀ v0,LeO (k v0) (k' v0)):LeO (sub_ l a b k) (sub_ l a b k'):=by
 unfold sub_
 repeat (first | with_reducible exact .rfl' | with_reducible exact h | with_reducible exact h _ | with_reducible exact h _ _ | with_reducible exact (h _).at _ | with_reducible exact h.at _ | with_reducible refine m_atS ?_ | with_reducible refine m_atN ?_ | with_reducible refine m_at_ ?_ | with_reducible refine m_castL ?_ | with_reducible refine m_castV ?_ | with_reducible refine m_iteC ?_ ?_ | with_reducible refine m_knowT ?_ | with_reducible refine m_killBox ?_ | with_reducible refine m_kill ?_ | with_reducible refine m_wrB ?_ | with_reducible refine m_wrS ?_ | with_reducible refine m_rdB ?_ | with_reducible refine m_rdS ?_ | with_reducible refine LeC.of fun _=>?_ | with_reducible intro _ | split | with_reducible refine LeC.at ?_ _)
theorem m_app_ {α:Type} {l m:List α} {k k':List α→Option ρ} (h:∀ v0,LeO (k v0) (k' v0)):LeO (app_ l m k) (app_ l m k'):=by
 unfold app_
 repeat (first | with_reducible exact .rfl' | with_reducible exact h | with_reducible exact h _ | with_reducible exact h _ _ | with_reducible exact (h _).at _ | with_reducible exact h.at _ | with_reducible refine m_sub_ ?_ | with_reducible refine m_atS ?_ | with_reducible refine m_atN ?_ | with_reducible refine m_at_ ?_ | with_reducible refine m_castL ?_ | with_reducible refine m_castV ?_ | with_reducible refine m_iteC ?_ ?_ | with_reducible refine m_knowT ?_ | with_reducible refine m_killBox ?_ | with_reducible refine m_kill ?_ | with_reducible refine m_wrB ?_ | with_reducible refine m_wrS ?_ | with_reducible refine m_rdB ?_ | with_reducible refine m_rdS ?_ | with_reducible refine LeC.of fun _=>?_ | with_reducible intro _ | split | with_reducible refine LeC.at ?_ _)
theorem m_rep_ {α:Type} {n:Int} {e:α} {k k':List α→Option ρ} (h:∀ v0,LeO (k v0) (k' v0)):LeO (rep_ n e k) (rep_ n e k'):=by
 unfold rep_
 repeat (first | with_reducible exact .rfl' | with_reducible exact h | with_reducible exact h _ | with_reducible exact h _ _ | with_reducible exact (h _).at _ | with_reducible exact h.at _ | with_reducible refine m_app_ ?_ | with_reducible refine m_sub_ ?_ | with_reducible refine m_atS ?_ | with_reducible refine m_atN ?_ | with_reducible refine m_at_ ?_ | with_reducible refine m_castL ?_ | with_reducible refine m_castV ?_ | with_reducible refine m_iteC ?_ ?_ | with_reducible refine m_knowT ?_ | with_reducible refine m_killBox ?_ | with_reducible refine m_kill ?_ | with_reducible refine m_wrB ?_ | with_reducible refine m_wrS ?_ | with_reducible refine m_rdB ?_ | with_reducible refine m_rdS ?_ | with_reducible refine LeC.of fun _=>?_ | with_reducible intro _ | split | with_reducible refine LeC.at ?_ _)
theorem m_catS {l m:List UInt8} {k k':List UInt8→Option ρ} (h:∀ v0,LeO (k v0) (k' v0)):LeO (catS l m k) (catS l m k'):=by
 unfold catS
 repeat (first | with_reducible exact .rfl' | with_reducible exact h | with_reducible exact h _ | with_reducible exact h _ _ | with_reducible exact (h _).at _ | with_reducible exact h.at _ | with_reducible refine m_rep_ ?_ | with_reducible refine m_app_ ?_ | with_reducible refine m_sub_ ?_ | with_reducible refine m_atS ?_ | with_reducible refine m_atN ?_ | with_reducible refine m_at_ ?_ | with_reducible refine m_castL ?_ | with_reducible refine m_castV ?_ | with_reducible refine m_iteC ?_ ?_ | with_reducible refine m_knowT ?_ | with_reducible refine m_killBox ?_ | with_reducible refine m_kill ?_ | with_reducible refine m_wrB ?_ | with_reducible refine m_wrS ?_ | with_reducible refine m_rdB ?_ | with_reducible refine m_rdS ?_ | with_reducible refine LeC.of fun _=>?_ | with_reducible intro _ | split | with_reducible refine LeC.at ?_ _)
theorem m_scat {a b:V .str} {k k':V .str→Option ρ} (h:∀ v0,LeO (k v0) (k' v0)):LeO (scat a b k) (scat a b k'):=m_catS h
theorem m_sget {a:V .str} {i:V (.int .i64)} {k k':V (.int .u8)→Option ρ} (h:∀ v0,LeO (k v0) (k' v0)):LeO (sget a i k) (sget a i k'):=m_atS h
theorem m_ssub {l:V .str} {a b:V (.int .i64)} {k k':V .str→Option ρ} (h:∀ v0,LeO (k v0) (k' v0)):LeO (ssub l a b k) (ssub l a b k'):=m_sub_ h
theorem m_lget {r:List ST} {a:V (.sl r)} {i:V (.int .i64)} {k k':X→R r→Option ρ} (h:∀ v0 v1,LeO (k v0 v1) (k' v0 v1)):LeO (lget r a i k) (lget r a i k'):=m_at_ h
theorem m_lgetN {r:List ST} {a:V (.sl r)} {i:X} {k k':R r→Option ρ} (h:∀ v0,LeO (k v0) (k' v0)):LeO (lgetN r a i k) (lgetN r a i k'):=m_atN h
theorem m_lapp {r:List ST} {a b:V (.sl r)} {k k':V (.sl r)→Option ρ} (h:∀ v0,LeO (k v0) (k' v0)):LeO (lapp r a b k) (lapp r a b k'):=m_app_ h
theorem m_lrep {r:List ST} {n:V (.int .i64)} {e:R r} {k k':V (.sl r)→Option ρ} (h:∀ v0,LeO (k v0) (k' v0)):LeO (lrep r n e k) (lrep r n e k'):=m_rep_ h
theorem m_lsub {r:List ST} {l:V (.sl r)} {a b:V (.int .i64)} {k k':V (.sl r)→Option ρ} (h:∀ v0,LeO (k v0) (k' v0)):LeO (lsub r l a b k) (lsub r l a b k'):=m_sub_ h
theorem m_ite_ {c:V .bool} {x x' y:Option ρ} (h:LeO x x'):LeO (ite_ c x y) (ite_ c x' y):=by
 unfold ite_
 cases c with
 |true=>exact h
 |false=>exact .rfl'
theorem m_win_ {α:Type} {l:List α} {a b:Int} {k k':Nat→Nat→Option ρ} (h:∀ v w,LeO (k v w) (k' v w)):LeO (win_ l a b k) (win_ l a b k'):=by
 unfold win_
 split
 ·exact h _ _
 ·exact .rfl'
theorem m_atW {α:Type} {l:List α} {x y:Nat} {j:Int} {k k':Nat→α→Option ρ} (h:∀ v w,LeO (k v w) (k' v w)):LeO (atW l x y j k) (atW l x y j k'):=by
 unfold atW
 split
 ·exact h _ _
 ·exact .rfl'
theorem m_lwin {r:List ST} {a:V (.sl r)} {i j:V (.int .i64)} {k k':X→X→Option ρ} (h:∀ v w,LeO (k v w) (k' v w)):LeO (lwin r a i j k) (lwin r a i j k'):=m_win_ h
theorem m_lgetW {r:List ST} {a:V (.sl r)} {x y:X} {j:V (.int .i64)} {k k':X→R r→Option ρ} (h:∀ v w,LeO (k v w) (k' v w)):LeO (lgetW r a x y j k) (lgetW r a x y j k'):=m_atW h
theorem m_conv {t:ST} {f:Fg} {c:Cl} {k k':V t→Option ρ} (h:∀ v0,LeO (k v0) (k' v0)):LeO (conv t f c k) (conv t f c k'):=by
 unfold conv
 cases hb:Fg.beq c.f f with
 |true=>exact m_castV h
 |false=>
  simp only
  obtain ⟨u,g,y⟩:=c
  cases u<;>first | exact .rfl' | skip
  cases g<;>first | exact .rfl' | skip
  cases t<;>first | exact .rfl' | skip
  cases f<;>first | exact .rfl' | skip
  rename_i l _
  cases l<;>first | exact .rfl' | exact h _
theorem m_toRow:∀ {r:List (ST×Fg)} {cs:List Cl} {k k':R (cts r)→Option ρ} (_:∀ v,LeO (k v) (k' v)),LeO (toRow r cs k) (toRow r cs k')
 |[],[],_,_,h=>h _
 |[],_ :: _,_,_,_=>by simp only[toRow];exact .rfl'
 |_ :: _,[],_,_,_=>by simp only[toRow];exact .rfl'
 |(t,f) :: r,c :: cs,_,_,h=>by
  simp only[toRow]
  exact m_conv fun a=>m_toRow fun b=>h _
theorem m_mkRow:∀ {r:List ST} {fs:List Fg} {cs:List Cl} {k k':R r→Option ρ} (_:∀ v,LeO (k v) (k' v)),LeO (mkRow r fs cs k) (mkRow r fs cs k')
 |[],[],[],_,_,h=>h _
 |[],[],_ :: _,_,_,_=>by simp only[mkRow];exact .rfl'
 |[],_ :: _,_,_,_,_=>by simp only[mkRow];exact .rfl'
 |_ :: _,[],_,_,_,_=>by simp only[mkRow];exact .rfl'
 |_ :: _,_ :: _,[],_,_,_=>by simp only[mkRow];exact .rfl'
 |t :: r,f :: fs,c :: cs,_,_,h=>by
  simp only[mkRow]
  exact m_conv fun a=>m_mkRow fun b=>h _
theorem m_getAt:∀ {r:List (X×Nat)} {cs:List Cl} {c:Nat} {k k':List Cl→Option ρ} (_:∀ v,LeO (k v) (k' v)),LeO (getAt cs c r k) (getAt cs c r k')
 |[],_,_,_,_,h=>h _
 |(i,c') :: r,cs,c,_,_,h=>by
  simp only[getAt]
  split
  ·exact m_lgetN fun e=>m_getAt h
  ·exact m_ite_ (m_lgetN fun e=>m_getAt h)
  ·exact .rfl'
theorem m_putAt:∀ {r:List (X×Nat)} {cs:List Cl} {c:Nat} {y:Cl} {k k':List Cl→Option ρ} (_:∀ v,LeO (k v) (k' v)),LeO (putAt cs c r y k) (putAt cs c r y k')
 |[],_,_,_,_,_,h=>by
  simp only[putAt]
  split
  ·exact h _
  ·exact .rfl'
 |(i,c') :: r,cs,c,_,_,_,h=>by
  simp only[putAt]
  split
  ·exact m_lgetN fun e=>m_putAt fun cs'=>m_mkRow fun e'=>h _
  ·exact m_ite_ (m_lgetN fun e=>m_putAt fun cs'=>m_mkRow fun e'=>h _)
  ·exact .rfl'
theorem m_rowC {n:Nm} {p:Pth} {k k':List Cl→Co ρ} (h:∀ v0,LeC (k v0) (k' v0)):LeC (rowC n p k) (rowC n p k'):=m_rdB fun _=>LeC.of fun _=>m_getAt fun _=>(h _).at _
theorem m_evT {o:Operand} {k k':TV→Co ρ} (h:∀ v0,LeC (k v0) (k' v0)):LeC (evT o k) (evT o k'):=by
 unfold evT
 repeat (first | with_reducible exact .rfl' | with_reducible exact h | with_reducible exact h _ | with_reducible exact h _ _ | with_reducible exact (h _).at _ | with_reducible exact h.at _ | with_reducible refine m_rowC ?_ | with_reducible refine m_putAt ?_ | with_reducible refine m_getAt ?_ | with_reducible refine m_mkRow ?_ | with_reducible refine m_toRow ?_ | with_reducible refine m_conv ?_ | with_reducible refine m_lsub ?_ | with_reducible refine m_lrep ?_ | with_reducible refine m_lapp ?_ | with_reducible refine m_lgetN ?_ | with_reducible refine m_lget ?_ | with_reducible refine m_ssub ?_ | with_reducible refine m_sget ?_ | with_reducible refine m_scat ?_ | with_reducible refine m_catS ?_ | with_reducible refine m_rep_ ?_ | with_reducible refine m_app_ ?_ | with_reducible refine m_sub_ ?_ | with_reducible refine m_atS ?_ | with_reducible refine m_atN ?_ | with_reducible refine m_at_ ?_ | with_reducible refine m_castL ?_ | with_reducible refine m_castV ?_ | with_reducible refine m_iteC ?_ ?_ | with_reducible refine m_knowT ?_ | with_reducible refine m_killBox ?_ | with_reducible refine m_kill ?_ | with_reducible refine m_wrB ?_ | with_reducible refine m_wrS ?_ | with_reducible refine m_rdB ?_ | with_reducible refine m_rdS ?_ | with_reducible refine LeC.of fun _=>?_ | with_reducible intro _ | split | with_reducible refine LeC.at ?_ _)
theorem m_evTs:∀ {os:List Operand} {k k':List TV→Co ρ} (_:∀ v,LeC (k v) (k' v)),LeC (evTs os k) (evTs os k')
 |[],_,_,h=>h _
 |o :: os,_,_,h=>by
  simp only[evTs]
  exact m_evT fun v=>m_evTs fun vs=>h _
theorem m_evPartsT:∀ {os:List (Nat×Operand)} {k k':List (Nat×TV)→Co ρ} (_:∀ v,LeC (k v) (k' v)),LeC (evPartsT os k) (evPartsT os k')
 |[],_,_,h=>h _
 |(i,o) :: os,_,_,h=>by
  simp only[evPartsT]
  exact m_evT fun v=>m_evPartsT fun vs=>h _
theorem m_outT {N:Nat} {d:Option Nat} {v:TV} {k k':Co ρ} (h:LeC k k'):LeC (outT N d v k) (outT N d v k'):=by
 unfold outT
 repeat (first | with_reducible exact .rfl' | with_reducible exact h | with_reducible exact h _ | with_reducible exact h _ _ | with_reducible exact (h _).at _ | with_reducible exact h.at _ | with_reducible refine m_evPartsT ?_ | with_reducible refine m_evTs ?_ | with_reducible refine m_evT ?_ | with_reducible refine m_rowC ?_ | with_reducible refine m_putAt ?_ | with_reducible refine m_getAt ?_ | with_reducible refine m_mkRow ?_ | with_reducible refine m_toRow ?_ | with_reducible refine m_conv ?_ | with_reducible refine m_lsub ?_ | with_reducible refine m_lrep ?_ | with_reducible refine m_lapp ?_ | with_reducible refine m_lgetN ?_ | with_reducible refine m_lget ?_ | with_reducible refine m_ssub ?_ | with_reducible refine m_sget ?_ | with_reducible refine m_scat ?_ | with_reducible refine m_catS ?_ | with_reducible refine m_rep_ ?_ | with_reducible refine m_app_ ?_ | with_reducible refine m_sub_ ?_ | with_reducible refine m_atS ?_ | with_reducible refine m_atN ?_ | with_reducible refine m_at_ ?_ | with_reducible refine m_castL ?_ | with_reducible refine m_castV ?_ | with_reducible refine m_iteC ?_ ?_ | with_reducible refine m_knowT ?_ | with_reducible refine m_killBox ?_ | with_reducible refine m_kill ?_ | with_reducible refine m_wrB ?_ | with_reducible refine m_wrS ?_ | with_reducible refine m_rdB ?_ | with_reducible refine m_rdS ?_ | with_reducible refine LeC.of fun _=>?_ | with_reducible intro _ | split | with_reducible refine LeC.at ?_ _)
theorem m_wrD {n:Nm} {x:VB} {k k':Co ρ} (h:LeC k k'):LeC (wrD n x k) (wrD n x k'):=LeC.of fun _st=>h.at _
theorem m_loadR {N:Nat} {P:Program} {t:TypeId} {d:Option Nat} {n:Nm} {p:Pth} {k k':Co ρ} (h:LeC k k'):LeC (loadR N P t d n p k) (loadR N P t d n p k'):=by
 unfold loadR
 refine m_rowC fun row=>?_
 cases isAgg P t with
 |none=>exact .rfl'
 |some b=>
  cases b with
  |true=>
   simp only
   cases Nat.ble (P.cellsOf t) row.length with
   |true=>exact m_outT h
   |false=>exact .rfl'
  |false=>cases row<;>first | exact .rfl' | exact m_outT h
theorem m_loadT {N:Nat} {P:Program} {t:TypeId} {d:Option Nat} {n:Nm} {p:Pth} {k k':Co ρ} (h:LeC k k'):LeC (loadT N P t d n p k) (loadT N P t d n p k'):=by
 obtain ⟨c,r⟩:=p
 unfold loadT
 cases r with
 |cons a b=>exact m_loadR h
 |nil=>
  cases isAgg P t with
  |none=>exact m_loadR h
  |some b=>
   cases b with
   |true=>exact m_loadR h
   |false=>
    refine LeC.of fun st=>?_
    simp only[hdr1]
    cases lookB st.b n with
    |none=>exact .rfl'
    |some bx=>
     simp only
     cases bx.cells.drop c with
     |nil=>exact .rfl'
     |cons x xs=>
      simp only
      cases x.ownH with
      |true=>exact (m_outT h).at _
      |false=>exact (m_loadR h).at _
theorem m_closeT {v:TV} {k k':Cl→Co ρ} (h:∀ v0,LeC (k v0) (k' v0)):LeC (closeT v k) (closeT v k'):=by
 cases v with
 |c x=>
  simp only[closeT]
  cases solid x.t x.f
  ·exact .rfl'
  ·exact h _
 |ref n p sub=>
  obtain ⟨c,r⟩:=p
  cases r with
  |cons a b=>
   cases b with
   |cons a2 b2=>exact .rfl'
   |nil=>
    cases sub with
    |some s=>exact .rfl'
    |none=>
     obtain ⟨i,c1⟩:=a
     simp only[closeT]
     refine m_rdB fun bx=>?_
     cases bx.cells.drop c with
     |nil=>exact .rfl'
     |cons y ys=>
      obtain ⟨t,f,l⟩:=y
      cases t<;>first | exact .rfl' | skip
      cases f<;>first | exact .rfl' | skip
      rename_i g fs
      cases g<;>first | exact .rfl' | skip
      simp only
      refine LeC.of fun st=>m_lgetN fun e=>LeC.at ?_ _
      cases (cellsOf _ fs e).drop c1 with
      |nil=>exact .rfl'
      |cons y1 ys1=>
       obtain ⟨t1,f1,l1⟩:=y1
       cases t1<;>first | exact .rfl' | skip
       simp only
       cases ownF f1
       ·exact .rfl'
       ·exact m_wrD (m_kill (h _))
  |nil=>
   simp only[closeT]
   refine m_rdB fun bx=>?_
   cases bx.cells.drop c with
   |nil=>exact .rfl'
   |cons y ys=>
    obtain ⟨t,f,l⟩:=y
    cases t<;>first | exact .rfl' | skip
    simp only
    cases ownF f
    ·exact .rfl'
    ·cases sub with
     |none=>exact m_wrB (m_kill (h _))
     |some s=>
      cases f<;>first | exact .rfl' | skip
      rename_i g fs
      cases g<;>first | exact .rfl' | skip
      exact LeC.of fun st=>m_ite_ ((m_wrB (m_kill (h _))).at st)
 |fn g xs=>
  cases xs with
  |nil=>exact h _
  |cons x xs=>exact .rfl'
 |_=>exact .rfl'
theorem m_closesT:∀ {os:List TV} {k k':List Cl→Co ρ} (_:∀ v,LeC (k v) (k' v)),LeC (closesT os k) (closesT os k')
 |[],_,_,h=>h _
 |o :: os,_,_,h=>by
  simp only[closesT]
  exact m_closeT fun v=>m_closesT fun vs=>h _
theorem m_closeCT {v:TV} {k k':List Cl→Co ρ} (h:∀ v0,LeC (k v0) (k' v0)):LeC (closeCT v k) (closeCT v k'):=by
 unfold closeCT
 repeat (first | with_reducible exact .rfl' | with_reducible exact h | with_reducible exact h _ | with_reducible exact h _ _ | with_reducible exact (h _).at _ | with_reducible exact h.at _ | with_reducible refine m_closesT ?_ | with_reducible refine m_closeT ?_ | with_reducible refine m_outT ?_ | with_reducible refine m_evPartsT ?_ | with_reducible refine m_evTs ?_ | with_reducible refine m_evT ?_ | with_reducible refine m_rowC ?_ | with_reducible refine m_putAt ?_ | with_reducible refine m_getAt ?_ | with_reducible refine m_mkRow ?_ | with_reducible refine m_toRow ?_ | with_reducible refine m_conv ?_ | with_reducible refine m_lsub ?_ | with_reducible refine m_lrep ?_ | with_reducible refine m_lapp ?_ | with_reducible refine m_lgetN ?_ | with_reducible refine m_lget ?_ | with_reducible refine m_ssub ?_ | with_reducible refine m_sget ?_ | with_reducible refine m_scat ?_ | with_reducible refine m_catS ?_ | with_reducible refine m_rep_ ?_ | with_reducible refine m_app_ ?_ | with_reducible refine m_sub_ ?_ | with_reducible refine m_atS ?_ | with_reducible refine m_atN ?_ | with_reducible refine m_at_ ?_ | with_reducible refine m_castL ?_ | with_reducible refine m_castV ?_ | with_reducible refine m_iteC ?_ ?_ | with_reducible refine m_knowT ?_ | with_reducible refine m_killBox ?_ | with_reducible refine m_kill ?_ | with_reducible refine m_wrB ?_ | with_reducible refine m_wrS ?_ | with_reducible refine m_rdB ?_ | with_reducible refine m_rdS ?_ | with_reducible refine LeC.of fun _=>?_ | with_reducible intro _ | split | with_reducible refine LeC.at ?_ _)
theorem m_closePartsT:∀ {os:List (Nat×TV)} {k k':List (Nat×List Cl)→Co ρ} (_:∀ v,LeC (k v) (k' v)),LeC (closePartsT os k) (closePartsT os k')
 |[],_,_,h=>h _
 |(i,o) :: os,_,_,h=>by
  simp only[closePartsT]
  exact m_closeCT fun v=>m_closePartsT fun vs=>h _
theorem m_storesT:∀ {cs:List Cl} {n:Nm} {p:Pth} {j:Nat} {k k':Co ρ} (_:LeC k k'),LeC (storesT n p j cs k) (storesT n p j cs k')
 |[],_,_,_,_,_,h=>h
 |c :: cs,n,p,j,k,k',h=>by
  simp only[storesT]
  refine m_rdB fun bx=>LeC.of fun st=>m_getAt fun row=>?_
  split
  ·exact .rfl'
  ·refine m_putAt fun cs'=>?_
   refine LeC.at ?_ _
   split
   ·exact m_kill (m_wrB (m_storesT h))
   ·exact m_wrB (m_storesT h)
theorem m_freshT {d:Nat} {b:VB} {k k':Co ρ} (h:LeC k k'):LeC (freshT d b k) (freshT d b k'):=m_killBox (m_wrB h)
theorem m_fillET:∀ {cs:List (Nat×List Cl)} {r:List ST} {fs:List Fg} {s:Nat} {k k':V (.sl r)→Option ρ} (_:∀ v,LeO (k v) (k' v)),LeO (fillET r fs s cs k) (fillET r fs s cs k')
 |[],_,_,_,_,_,h=>h _
 |(i,c) :: cs,_,_,_,_,_,h=>by
  simp only[fillET]
  split
  ·exact m_mkRow fun e=>m_fillET fun l=>h _
  ·exact .rfl'
theorem m_intT {N:Nat} {op:BinOp} {d:Option Nat} {l:IntKind} {a b:V (.int l)} {k k':Co ρ} (h:LeC k k'):LeC (intT N op d l a b k) (intT N op d l a b k'):=by
 unfold intT
 cases op<;>first
  |exact m_outT h
  |exact m_iteC .rfl' (m_outT h)
  |exact .rfl'
theorem m_binT {N:Nat} {P:Program} {t:TypeId} {op:BinOp} {d:Option Nat} {x y:TV} {k k':Co ρ} (h:LeC k k'):LeC (binT N P t op d x y k) (binT N P t op d x y k'):=by
 cases x with
 |c x=>
  obtain ⟨tx,fx,ax⟩:=x
  cases tx with
  |int kx=>
   cases y with
   |c y=>
    obtain ⟨ty,fy,ay⟩:=y
    cases ty with
    |int ky=>
     simp only[binT]
     cases op<;>first
      |exact m_iteC .rfl' (m_outT h)
      |(cases decide (kx=ky) with
        |true=>exact m_intT h
        |false=>exact .rfl')
    |_=>exact .rfl'
   |_=>exact .rfl'
  |str=>
   cases y with
   |c y=>
    obtain ⟨ty,fy,ay⟩:=y
    cases ty with
    |str=>cases op<;>first | exact m_outT h | exact .rfl' | exact LeC.of fun st=>m_scat fun r=>(m_outT h).at _
    |_=>exact .rfl'
   |_=>exact .rfl'
  |bool=>
   cases y with
   |c y=>
    obtain ⟨ty,fy,ay⟩:=y
    cases ty with
    |bool=>
     simp only[binT]
     cases P.underlying t with
     |none=>exact .rfl'
     |some u=>cases u<;>first | exact .rfl' | (cases op<;>first | exact m_outT h | exact .rfl')
    |_=>exact .rfl'
   |_=>exact .rfl'
  |_=>exact .rfl'
 |agg xs=>
  cases y with
  |agg ys=>
   simp only[binT]
   cases eqST P t xs ys with
   |none=>exact .rfl'
   |some r=>cases op<;>first | exact m_outT h | exact .rfl'
  |_=>exact .rfl'
 |_=>exact .rfl'
theorem m_appendS {N:Nat} {P:Program} {t1:TypeId} {r:List (ST×Fg)} {d:Nat} {x y:Operand} {k k':Co ρ} (h:LeC k k'):LeC (appendS N P t1 r d x y k) (appendS N P t1 r d x y k'):=by
 unfold appendS
 cases P.underlying t1 with
 |none=>exact .rfl'
 |some dt=>
  cases dt<;>first | exact .rfl' | skip
  match r with
  |[]=>exact .rfl'
  |_ :: _ :: _=>exact .rfl'
  |[_]=>
   refine m_evT fun v=>m_evT fun u=>m_closeT fun a=>?_
   cases u<;>first | exact .rfl' | skip
   rename_i cu
   obtain ⟨tu,fu,su⟩:=cu
   cases tu<;>first | exact .rfl' | skip
   obtain ⟨ta,fa,la⟩:=a
   cases ta<;>first | exact .rfl' | skip
   simp only
   cases ownBytes _ fa la with
   |none=>exact .rfl'
   |some fx=>exact LeC.of fun st=>m_lapp fun l=>(m_freshT (m_wrS h)).at _
theorem m_peekT {n:Nm} {p:Pth} {sub:Option (X×X)} {k k':Cl→Co ρ} (h:∀ v0,LeC (k v0) (k' v0)):LeC (peekT n p sub k) (peekT n p sub k'):=by
 unfold peekT
 refine m_rowC fun row=>?_
 cases row with
 |nil=>exact .rfl'
 |cons c cs=>
  obtain ⟨t,f,l⟩:=c
  cases t<;>first | exact .rfl' | skip
  simp only
  cases ownF f&&_ with
  |false=>exact .rfl'
  |true=>
   cases sub with
   |none=>exact h _
   |some s=>
    cases f<;>first | exact .rfl' | skip
    rename_i g fs
    cases g<;>first | exact .rfl' | exact h _
theorem m_headW {rl:Nat} {n:Nm} {c:Nat} {x y:X} {k k':Option (V .bool)→Cl→Co ρ} (h:∀ v0 v1,LeC (k v0 v1) (k' v0 v1)):LeC (headW rl n c x y k) (headW rl n c x y k'):=by
 unfold headW
 refine m_rdB fun bx=>?_
 cases bx.cells.drop c with
 |nil=>exact .rfl'
 |cons c cs=>
  obtain ⟨t,f,l⟩:=c
  cases t<;>first | exact .rfl' | skip
  cases f<;>first | exact .rfl' | skip
  rename_i g fs
  cases g<;>first | exact .rfl' | skip
  simp only
  cases Nat.beq _ rl&&_ with
  |false=>exact .rfl'
  |true=>exact LeC.of fun st=>m_ite_ ((m_wrB (m_kill (h _ _))).at st)
theorem m_headT {rl:Nat} {v:TV} {k k':Option (V .bool)→Cl→Co ρ} (h:∀ v0 v1,LeC (k v0 v1) (k' v0 v1)):LeC (headT rl v k) (headT rl v k'):=by
 cases v with
 |ref n p sub=>
  simp only[headT]
  refine m_rdB fun _=>?_
  obtain ⟨c,r⟩:=p
  cases r with
  |cons a b=>exact m_closeT (k:=k none) (k':=k' none) fun v=>h none v
  |nil=>
   cases sub with
   |none=>exact m_closeT (k:=k none) (k':=k' none) fun v=>h none v
   |some s=>exact m_headW h
 |c x=>exact m_closeT (v:=.c x) (k:=k none) (k':=k' none) fun v=>h none v
 |addr n p=>exact m_closeT (v:=.addr n p) (k:=k none) (k':=k' none) fun v=>h none v
 |raddr x=>exact m_closeT (v:=.raddr x) (k:=k none) (k':=k' none) fun v=>h none v
 |agg x=>exact m_closeT (v:=.agg x) (k:=k none) (k':=k' none) fun v=>h none v
 |tup x=>exact m_closeT (v:=.tup x) (k:=k none) (k':=k' none) fun v=>h none v
 |fn g x=>exact m_closeT (v:=.fn g x) (k:=k none) (k':=k' none) fun v=>h none v
 |va x=>exact m_closeT (v:=.va x) (k:=k none) (k':=k' none) fun v=>h none v
 |dead=>exact m_closeT (v:=.dead) (k:=k none) (k':=k' none) fun v=>h none v
theorem m_endApp {N rl d:Nat} {k k':Co ρ} {nb:Option (V .bool)} {a b:Cl} (h:LeC k k'):LeC (endApp N rl d k nb a b) (endApp N rl d k' nb a b):=by
 unfold endApp
 obtain ⟨ta,fa,xs⟩:=a
 obtain ⟨tb,fb,ys⟩:=b
 cases ta<;>first | exact .rfl' | skip
 cases tb<;>first | exact .rfl' | skip
 rename_i ra rb
 cases nb with
 |none=>
  cases fa with
  |nil=>
   cases fb with
   |nil=>exact m_freshT (m_wrS h)
   |sl g fs=>
    simp only
    cases Nat.beq rb.length rl&&Nat.beq fs.length rl with
    |false=>exact .rfl'
    |true=>exact LeC.of fun st=>m_lapp fun l=>(m_freshT (m_wrS h)).at _
   |_=>exact .rfl'
  |sl g fs=>
   cases g with
   |own=>
    cases fb with
    |nil=>
     simp only
     cases Nat.beq ra.length rl&&Nat.beq fs.length rl with
     |false=>exact .rfl'
     |true=>exact LeC.of fun st=>m_lapp fun l=>(m_freshT (m_wrS h)).at _
    |sl g fs'=>
     simp only
     cases Fg.beqs fs fs'&&(Nat.beq ra.length rl&&Nat.beq fs.length rl) with
     |false=>exact .rfl'
     |true=>exact LeC.of fun st=>m_castL fun zs=>m_lapp fun l=>(m_freshT (m_wrS h)).at _
    |_=>exact .rfl'
   |_=>cases fb<;>exact .rfl'
  |_=>cases fb<;>exact .rfl'
 |some w=>
  cases fa with
  |sl g fs=>
   cases g with
   |own=>
    cases fb with
    |sl g fs'=>
     simp only
     cases Fg.beqs fs fs'&&(Nat.beq ra.length rl&&Nat.beq fs.length rl) with
     |false=>exact .rfl'
     |true=>exact LeC.of fun st=>m_castL fun zs=>m_ite_ (m_lapp fun l=>(m_freshT (m_wrS h)).at _)
    |_=>exact .rfl'
   |_=>cases fb<;>exact .rfl'
  |_=>cases fb<;>exact .rfl'
theorem m_twoT {N rl d:Nat} {fl:Bool} {k k':Co ρ} {v u:TV} (h:LeC k k'):LeC (twoT N fl rl d k v u) (twoT N fl rl d k' v u):=by
 have gen:LeC (headT rl v fun nb a=>closeT u fun b=>endApp N rl d k nb a b) (headT rl v fun nb a=>closeT u fun b=>endApp N rl d k' nb a b):=m_headT fun _ _=>m_closeT fun _=>m_endApp h
 unfold twoT
 split
 ·exact m_peekT fun b=>m_headT fun _ _=>m_endApp h
 ·exact gen
theorem m_appendT {N:Nat} {P:Program} {c:Call} {d:Option Nat} {x y:Operand} {k k':Co ρ} (h:LeC k k'):LeC (appendT N P c d x y k) (appendT N P c d x y k'):=by
 unfold appendT
 cases d with
 |none=>exact .rfl'
 |some d=>
  match hat:c.argTypes.toList with
  |[]=>exact .rfl'
  |[t0]=>exact .rfl'
  |t0 :: t1 :: t2 :: ts=>exact .rfl'
  |[t0,t1]=>
   simp only
   cases P.underlying t0 with
   |none=>exact .rfl'
   |some ut=>
    cases ut with
    |slice el=>
     cases rowT P t0 with
     |none=>exact .rfl'
     |some r=>
      cases Nat.beq t1 t0 with
      |false=>exact m_appendS h
      |true=>exact m_evT fun v=>m_evT fun u=>m_twoT h
    |_=>exact .rfl'
theorem m_clearT {P:Program} {c:Call} {d:Option Nat} {x:Operand} {k k':Co ρ} (h:LeC k k'):LeC (clearT P c d x k) (clearT P c d x k'):=by
 unfold clearT
 cases x<;>first | exact .rfl' | skip
 cases d with
 |some d=>exact .rfl'
 |none=>
  match hat:c.argTypes.toList with
  |[]=>exact .rfl'
  |t0 :: t1 :: ts=>exact .rfl'
  |[t0]=>
   simp only
   cases rowInfo P t0 with
   |none=>exact .rfl'
   |some z=>
    refine m_rdS fun v=>?_
    cases v<;>first | exact .rfl' | skip
    rename_i n p sub
    obtain ⟨c0,r⟩:=p
    cases r with
    |cons a b=>exact .rfl'
    |nil=>
     cases sub with
     |none=>exact .rfl'
     |some s=>
      obtain ⟨x,y⟩:=s
      simp only
      unfold clearW
      refine m_rdB fun bx=>LeC.of fun st=>?_
      split
      ·split
       ·exact m_mkRow fun e=>(m_wrB h).at _
       ·exact .rfl'
      ·exact .rfl'
theorem m_bytesC {r:List ST} {f:Fg} {l:V (.sl r)} {k k':V .str→Co ρ} (h:∀ s,LeC (k s) (k' s)):LeC (bytesC r f l k) (bytesC r f l k'):=by
 unfold bytesC
 split
 ·exact h _
 ·exact h _
 ·exact .rfl'
theorem m_hiT {o:Option Operand} {n:V (.int .i64)} {k k':TV→Co ρ} (h:∀ v0,LeC (k v0) (k' v0)):LeC (hiT o n k) (hiT o n k'):=by
 unfold hiT
 repeat (first | with_reducible exact .rfl' | with_reducible exact h | with_reducible exact h _ | with_reducible exact h _ _ | with_reducible exact (h _).at _ | with_reducible exact h.at _ | with_reducible refine m_appendT ?_ | with_reducible refine m_binT ?_ | with_reducible refine m_fillET ?_ | with_reducible refine m_freshT ?_ | with_reducible refine m_storesT ?_ | with_reducible refine m_closePartsT ?_ | with_reducible refine m_closeCT ?_ | with_reducible refine m_closesT ?_ | with_reducible refine m_closeT ?_ | with_reducible refine m_outT ?_ | with_reducible refine m_evPartsT ?_ | with_reducible refine m_evTs ?_ | with_reducible refine m_evT ?_ | with_reducible refine m_rowC ?_ | with_reducible refine m_putAt ?_ | with_reducible refine m_getAt ?_ | with_reducible refine m_mkRow ?_ | with_reducible refine m_toRow ?_ | with_reducible refine m_conv ?_ | with_reducible refine m_lsub ?_ | with_reducible refine m_lrep ?_ | with_reducible refine m_lapp ?_ | with_reducible refine m_lgetN ?_ | with_reducible refine m_lget ?_ | with_reducible refine m_ssub ?_ | with_reducible refine m_sget ?_ | with_reducible refine m_scat ?_ | with_reducible refine m_catS ?_ | with_reducible refine m_rep_ ?_ | with_reducible refine m_app_ ?_ | with_reducible refine m_sub_ ?_ | with_reducible refine m_atS ?_ | with_reducible refine m_atN ?_ | with_reducible refine m_at_ ?_ | with_reducible refine m_castL ?_ | with_reducible refine m_castV ?_ | with_reducible refine m_iteC ?_ ?_ | with_reducible refine m_knowT ?_ | with_reducible refine m_killBox ?_ | with_reducible refine m_kill ?_ | with_reducible refine m_wrB ?_ | with_reducible refine m_wrS ?_ | with_reducible refine m_rdB ?_ | with_reducible refine m_rdS ?_ | with_reducible refine LeC.of fun _=>?_ | with_reducible intro _ | split | with_reducible refine LeC.at ?_ _)
theorem m_callT {N:Nat} {P:Program} {o:Oper} {c:Call} {k k':Co ρ} (h:LeC k k'):LeC (opT N P { o with op:=.call c } k) (opT N P { o with op:=.call c } k'):=by
 unfold opT
 simp only
 cases c.callee with
 |value f=>exact .rfl'
 |builtin b=>
  match ha:c.args.toList with
  |[]=>cases b<;>exact .rfl'
  |[x]=>
   by_cases hb:b=.clear
   ·subst hb;exact m_clearT h
   cases b<;>first | exact absurd rfl hb | exact .rfl' | skip
   simp only
   cases (c.argTypes[0]?).bind P.underlying with
   |none=>exact .rfl'
   |some u=>
    cases u<;>first | exact .rfl' | skip
    ·refine m_evT fun v=>?_
     cases v<;>first | exact .rfl' | skip
     rename_i b
     obtain ⟨tb,fb,b⟩:=b
     cases tb<;>first | exact .rfl' | exact m_outT h
    ·refine m_evT fun v=>?_
     cases v with
     |c b=>
      obtain ⟨tb,fb,b⟩:=b
      cases tb<;>first | exact .rfl' | exact m_outT h
     |ref n p sub=>
      cases sub with
      |some s=>exact m_outT h
      |none=>
       refine m_rowC fun row=>?_
       cases row with
       |nil=>exact .rfl'
       |cons y ys=>
        obtain ⟨ty,fy,y⟩:=y
        cases ty<;>first | exact .rfl' | skip
        simp only
        cases ownF fy with
        |false=>exact .rfl'
        |true=>exact m_outT h
     |_=>exact .rfl'
  |[x,y]=>
   by_cases hb:b=.append
   ·subst hb;exact m_appendT h
   cases b<;>first | exact absurd rfl hb | exact .rfl' | skip
   refine m_evT fun v=>m_evT fun u=>?_
   cases v<;>first | exact .rfl' | skip
   rename_i b
   obtain ⟨tb,fb,b⟩:=b
   cases tb<;>first | exact .rfl' | skip
   rename_i kb
   cases kb<;>first | exact .rfl' | skip
   cases u<;>first | exact .rfl' | skip
   rename_i e
   obtain ⟨te,fe,e⟩:=e
   cases te<;>first | exact .rfl' | skip
   rename_i ke
   cases ke<;>first | exact .rfl' | exact m_outT h
  |x :: y :: z :: ws=>cases b<;>exact .rfl'
 |_=>exact .rfl'
theorem m_opT {N:Nat} {P:Program} {o:Oper} {k k':Co ρ} (h:LeC k k'):LeC (opT N P o k) (opT N P o k'):=by
 unfold opT
 cases o.op with
 |move x=>exact m_evT fun v=>m_outT h
 |assign x=>exact m_evT fun v=>m_outT h
 |pick c a b=>
  refine m_evT fun vc=>m_evT fun va=>m_evT fun vb=>?_
  cases vc<;>first | exact .rfl' | skip
  rename_i x
  obtain ⟨t,f,x⟩:=x
  cases t<;>first | exact .rfl' | exact m_iteC (m_outT h) (m_outT h)
 |alloc t=>
  simp only
  cases o.dst with
  |none=>exact .rfl'
  |some d=>
   cases zerosT P t with
   |none=>exact .rfl'
   |some cs=>exact m_freshT (m_wrS h)
 |box t x=>
  simp only
  cases o.dst with
  |none=>exact .rfl'
  |some d=>exact m_evT fun v=>m_closeCT fun cs=>m_freshT (m_wrS h)
 |build t parts=>
  simp only
  cases buildInfo P t with
  |none=>exact .rfl'
  |some b=>
   cases zerosT P t with
   |none=>exact .rfl'
   |some cs=>
    refine m_evPartsT fun vs=>?_
    cases fillLT b.2 (cs.map .c) vs with
    |none=>exact .rfl'
    |some xs=>exact m_outT h
 |buildSlice t len parts=>
  simp only
  cases o.dst with
  |none=>exact .rfl'
  |some d=>
   cases rowT P t with
   |none=>exact .rfl'
   |some r=>
    simp only
    cases Nat.ble (len * r.length) 16777216 with
    |false=>exact .rfl'
    |true=>
     refine m_evPartsT fun vs=>m_closePartsT fun cs=>?_
     cases Nat.beq cs.length len with
     |false=>exact .rfl'
     |true=>exact LeC.of fun st=>m_fillET fun l=>(m_freshT (m_wrS h)).at _
 |makeSlice t l c=>
  simp only
  cases o.dst with
  |none=>exact .rfl'
  |some d=>
   cases rowT P t with
   |none=>exact .rfl'
   |some r=>
    simp only
    cases zeroCs (cts r) with
    |none=>exact .rfl'
    |some zs=>
     refine m_evT fun v=>m_evT fun u=>?_
     cases v<;>first | exact .rfl' | skip
     rename_i x
     obtain ⟨tx,fx,x⟩:=x
     cases tx<;>first | exact .rfl' | skip
     rename_i kx
     cases kx<;>first | exact .rfl' | skip
     cases u<;>first | exact .rfl' | skip
     rename_i y
     obtain ⟨ty,fy,y⟩:=y
     cases ty<;>first | exact .rfl' | skip
     rename_i ky
     cases ky<;>first | exact .rfl' | skip
     exact m_iteC (LeC.of fun st=>m_mkRow fun e=>m_lrep fun x=>(m_freshT (m_wrS h)).at _) .rfl'
 |load t x=>
  refine m_evT fun v=>?_
  cases v<;>first | exact .rfl' | skip
  ·exact m_loadT h
  ·rename_i cs
   simp only
   cases isAgg P t with
   |none=>exact .rfl'
   |some b=>
    cases b with
    |true=>
     simp only
     cases Nat.ble (P.cellsOf t) cs.length with
     |true=>exact m_outT h
     |false=>exact .rfl'
    |false=>cases cs<;>first | exact .rfl' | exact m_outT h
  ·rename_i cs
   simp only
   cases isAgg P t with
   |none=>exact .rfl'
   |some b=>
    cases b with
    |true=>
     simp only
     cases Nat.ble (P.cellsOf t) cs.length with
     |true=>exact m_outT h
     |false=>exact .rfl'
    |false=>cases cs<;>first | exact .rfl' | exact m_outT h
 |store t x y=>
  refine m_evT fun v=>?_
  cases v<;>first | exact .rfl' | skip
  refine m_evT fun u=>m_closeCT fun cs=>?_
  cases Nat.beq (P.cellsOf t) cs.length&&Nat.blt 0 cs.length with
  |false=>exact .rfl'
  |true=>exact m_storesT (m_outT h)
 |nilCheck x=>
  refine m_evT fun v=>?_
  cases v<;>first | exact .rfl' | exact m_outT h
 |binOp op t x y i=>exact m_evT fun v=>m_evT fun u=>m_binT h
 |unOp op t x=>
  refine m_evT fun v=>?_
  cases op<;>cases v<;>first | exact .rfl' | (rename_i c;obtain ⟨t,f,c⟩:=c;cases t<;>first | exact .rfl' | exact m_outT h | (rename_i kx;cases kx<;>first | exact .rfl' | exact m_outT h))
 |fieldAddr s x f=>
  simp only
  cases fieldAt P s f with
  |none=>exact .rfl'
  |some fl=>
   simp only
   cases Nat.blt 0 (P.cellsOf fl.type) with
   |false=>exact .rfl'
   |true=>
    refine m_evT fun v=>?_
    cases v<;>first | exact .rfl' | exact m_outT h
 |field s x f=>
  simp only
  cases fieldAt P s f with
  |none=>exact .rfl'
  |some fl=>
   refine m_evT fun v=>?_
   cases v<;>first | exact .rfl' | skip
   rename_i xs
   simp only
   cases isAgg P fl.type with
   |none=>exact .rfl'
   |some b=>
    cases b with
    |true=>
     simp only
     cases Nat.ble (fl.offset+P.cellsOf fl.type) xs.length with
     |true=>exact m_outT h
     |false=>exact .rfl'
    |false=>
     simp only
     cases xs.drop fl.offset<;>first | exact .rfl' | exact m_outT h
 |index t x i=>
  simp only
  cases P.underlying t with
  |none=>exact .rfl'
  |some u=>
   cases u<;>first | exact .rfl' | skip
   refine m_evT fun v=>m_evT fun w=>?_
   cases v<;>first | exact .rfl' | skip
   rename_i a
   obtain ⟨ta,fa,a⟩:=a
   cases ta<;>first | exact .rfl' | skip
   cases w<;>first | exact .rfl' | skip
   rename_i b
   obtain ⟨tb,fb,b⟩:=b
   cases tb<;>first | exact .rfl' | skip
   exact LeC.of fun st=>m_sget fun c=>(m_outT h).at _
 |extract x i=>
  cases x<;>first | exact .rfl' | exact m_rdX fun v=>m_outT h
 |indexAddr t x i=>
  simp only
  cases P.underlying t with
  |none=>exact .rfl'
  |some u=>
   cases u<;>first | exact .rfl' | skip
   rename_i el
   refine m_evT fun v=>m_evT fun w=>?_
   cases v with
   |c a=>
    obtain ⟨ta,fa,a⟩:=a
    cases ta<;>first | exact .rfl' | skip
    cases fa<;>first | exact .rfl' | skip
    cases w<;>first | exact .rfl' | skip
    rename_i r g fs b
    obtain ⟨tb,fb,b⟩:=b
    cases tb<;>first | exact .rfl' | skip
    rename_i kb
    cases kb<;>first | exact .rfl' | skip
    simp only
    cases g.low&&(Nat.beq r.length (P.cellsOf el)&&Nat.beq fs.length r.length) with
    |false=>exact .rfl'
    |true=>exact LeC.of fun st=>m_lget fun _ e=>(m_outT h).at _
   |ref n p sub=>
    cases sub with
    |some s=>
     cases w<;>first | exact .rfl' | skip
     rename_i b
     obtain ⟨tb,fb,b⟩:=b
     cases tb<;>first | exact .rfl' | skip
     rename_i kb
     cases kb<;>first | exact .rfl' | skip
     refine m_rowC fun row=>?_
     cases row with
     |nil=>exact .rfl'
     |cons y ys=>
      obtain ⟨ty,fy,y⟩:=y
      cases ty<;>first | exact .rfl' | skip
      rename_i r
      cases fy<;>first | exact .rfl' | skip
      rename_i g fs
      cases g<;>first | exact .rfl' | skip
      simp only
      cases Nat.beq r.length (P.cellsOf el)&&Nat.beq fs.length r.length with
      |false=>exact .rfl'
      |true=>exact LeC.of fun st=>m_lgetW fun m _=>(m_outT h).at _
    |none=>
     cases w<;>first | exact .rfl' | skip
     rename_i b
     obtain ⟨tb,fb,b⟩:=b
     cases tb<;>first | exact .rfl' | skip
     rename_i kb
     cases kb<;>first | exact .rfl' | skip
     refine m_rowC fun row=>?_
     cases row with
     |nil=>exact .rfl'
     |cons y ys=>
      obtain ⟨ty,fy,y⟩:=y
      cases ty<;>first | exact .rfl' | skip
      ·rename_i r
       cases fy<;>first | exact .rfl' | skip
       rename_i g fs
       cases g<;>first | exact .rfl' | skip
       simp only
       cases Nat.beq r.length (P.cellsOf el)&&Nat.beq fs.length r.length with
       |false=>exact .rfl'
       |true=>exact LeC.of fun st=>m_lget fun m _=>(m_outT h).at _
      ·rename_i c1 r
       cases fy<;>first | exact .rfl' | skip
       rename_i g fs
       cases g<;>first | exact .rfl' | skip
       simp only
       cases Nat.beq r.length (P.cellsOf el)&&Nat.beq fs.length r.length with
       |false=>exact .rfl'
       |true=>exact LeC.of fun st=>m_lget fun m _=>(m_outT h).at _
   |_=>exact .rfl'
 |makeFunc g first caps=>
  simp only
  cases g<;>first | exact .rfl' | skip
  cases first.isEmpty with
  |false=>exact .rfl'
  |true=>exact m_evTs fun vs=>m_outT h
 |slice t x lo hi mx=>
  cases mx with
  |some m=>exact .rfl'
  |none=>
   refine m_evT fun v=>m_evT fun l=>?_
   cases v with
   |c a=>
    obtain ⟨ta,fa,a⟩:=a
    cases ta with
    |str=>
     simp only
     cases P.underlying t with
     |none=>exact .rfl'
     |some u=>
      cases u<;>first | exact .rfl' | skip
      refine m_hiT fun hv=>?_
      cases l<;>first | exact .rfl' | skip
      rename_i b
      obtain ⟨tb,fb,b⟩:=b
      cases tb<;>first | exact .rfl' | skip
      rename_i kb
      cases kb<;>first | exact .rfl' | skip
      cases hv<;>first | exact .rfl' | skip
      rename_i e
      obtain ⟨te,fe,e⟩:=e
      cases te<;>first | exact .rfl' | skip
      rename_i ke
      cases ke<;>first | exact .rfl' | skip
      exact LeC.of fun st=>m_ssub fun r=>(m_outT h).at _
    |sl r=>
     cases fa<;>first | exact .rfl' | skip
     rename_i g fs
     simp only
     cases rowT P t with
     |none=>exact .rfl'
     |some r'=>
      refine m_hiT fun hv=>?_
      cases l<;>first | exact .rfl' | skip
      rename_i b
      obtain ⟨tb,fb,b⟩:=b
      cases tb<;>first | exact .rfl' | skip
      rename_i kb
      cases kb<;>first | exact .rfl' | skip
      cases hv<;>first | exact .rfl' | skip
      rename_i e
      obtain ⟨te,fe,e⟩:=e
      cases te<;>first | exact .rfl' | skip
      rename_i ke
      cases ke<;>first | exact .rfl' | skip
      cases g.low&&(Nat.beq r.length r'.length&&Nat.beq fs.length r.length) with
      |false=>exact .rfl'
      |true=>exact LeC.of fun st=>m_lsub fun r=>(m_outT h).at _
    |_=>exact .rfl'
   |ref n p sub=>
    cases sub with
    |some s=>exact .rfl'
    |none=>
     simp only
     cases rowT P t with
     |none=>exact .rfl'
     |some r'=>
      refine m_rowC fun row=>?_
      cases row with
      |nil=>exact .rfl'
      |cons y ys=>
       obtain ⟨ty,fy,y⟩:=y
       cases ty<;>first | exact .rfl' | skip
       rename_i r
       cases fy<;>first | exact .rfl' | skip
       rename_i g fs
       cases g<;>first | exact .rfl' | skip
       refine m_hiT fun hv=>?_
       cases l<;>first | exact .rfl' | skip
       rename_i b
       obtain ⟨tb,fb,b⟩:=b
       cases tb<;>first | exact .rfl' | skip
       rename_i kb
       cases kb<;>first | exact .rfl' | skip
       cases hv<;>first | exact .rfl' | skip
       rename_i c
       obtain ⟨tc,fc,c⟩:=c
       cases tc<;>first | exact .rfl' | skip
       rename_i kc
       cases kc<;>first | exact .rfl' | skip
       cases Nat.beq r.length r'.length&&Nat.beq fs.length r.length with
       |false=>exact .rfl'
       |true=>exact LeC.of fun st=>m_lwin fun x y=>(m_outT h).at _
   |_=>exact .rfl'
 |convert src dst x=>
  simp only
  cases P.underlying src with
  |none=>exact .rfl'
  |some u=>
   cases u with
   |slice el=>
    cases P.underlying dst with
    |none=>exact .rfl'
    |some w=>
     cases w<;>first | exact .rfl' | skip
     simp only
     cases P.underlying el with
     |none=>exact .rfl'
     |some de=>
      cases de<;>first | exact .rfl' | skip
      rename_i ke
      cases ke<;>first | exact .rfl' | skip
      refine m_evT fun v=>?_
      cases v with
      |c b=>
       obtain ⟨tb,fb,b⟩:=b
       cases tb<;>first | exact .rfl' | exact m_bytesC fun s=>m_outT h
      |ref n p sub=>
       cases sub with
       |some s=>exact .rfl'
       |none=>
        refine m_rowC fun row=>?_
        cases row with
        |nil=>exact .rfl'
        |cons y ys=>
         obtain ⟨ty,fy,y⟩:=y
         cases ty<;>first | exact .rfl' | skip
         simp only
         cases ownF fy with
         |false=>exact .rfl'
         |true=>exact m_bytesC fun s=>m_outT h
      |_=>exact .rfl'
   |int _=>
    cases P.underlying dst with
    |none=>exact .rfl'
    |some w=>
     cases w<;>first | exact .rfl' | skip
     refine m_evT fun v=>?_
     cases v<;>first | exact .rfl' | skip
     rename_i b
     obtain ⟨tb,fb,b⟩:=b
     cases tb<;>first | exact .rfl' | exact m_outT h
   |string=>
    cases P.underlying dst with
    |none=>exact .rfl'
    |some w=>
     cases w<;>first | exact .rfl' | skip
     refine m_evT fun v=>?_
     cases v<;>first | exact .rfl' | skip
     rename_i b
     obtain ⟨tb,fb,b⟩:=b
     cases tb<;>first | exact .rfl' | exact m_outT h
   |_=>exact .rfl'
 |call c=>exact m_callT h
 |_=>exact .rfl'
set_option maxHeartbeats 4000000 in
theorem m_lendZ {t:ST} {f:Fg} {c:Cl} {k k':Cl→Option ρ} (h:∀ v0,LeO (k v0) (k' v0)):LeO (lendZ t f c k) (lendZ t f c k'):=by
 unfold lendZ
 repeat (first | with_reducible exact .rfl' | with_reducible exact h | with_reducible exact h _ | with_reducible exact h _ _ | with_reducible exact (h _).at _ | with_reducible exact h.at _ | with_reducible refine m_opT ?_ | with_reducible refine m_callT ?_ | with_reducible refine m_hiT ?_ | with_reducible refine m_appendT ?_ | with_reducible refine m_binT ?_ | with_reducible refine m_fillET ?_ | with_reducible refine m_freshT ?_ | with_reducible refine m_storesT ?_ | with_reducible refine m_closePartsT ?_ | with_reducible refine m_closeCT ?_ | with_reducible refine m_closesT ?_ | with_reducible refine m_closeT ?_ | with_reducible refine m_outT ?_ | with_reducible refine m_evPartsT ?_ | with_reducible refine m_evTs ?_ | with_reducible refine m_evT ?_ | with_reducible refine m_rowC ?_ | with_reducible refine m_putAt ?_ | with_reducible refine m_getAt ?_ | with_reducible refine m_mkRow ?_ | with_reducible refine m_toRow ?_ | with_reducible refine m_conv ?_ | with_reducible refine m_lsub ?_ | with_reducible refine m_lrep ?_ | with_reducible refine m_lapp ?_ | with_reducible refine m_lgetN ?_ | with_reducible refine m_lget ?_ | with_reducible refine m_ssub ?_ | with_reducible refine m_sget ?_ | with_reducible refine m_scat ?_ | with_reducible refine m_catS ?_ | with_reducible refine m_rep_ ?_ | with_reducible refine m_app_ ?_ | with_reducible refine m_sub_ ?_ | with_reducible refine m_atS ?_ | with_reducible refine m_atN ?_ | with_reducible refine m_at_ ?_ | with_reducible refine m_castL ?_ | with_reducible refine m_castV ?_ | with_reducible refine m_iteC ?_ ?_ | with_reducible refine m_knowT ?_ | with_reducible refine m_killBox ?_ | with_reducible refine m_kill ?_ | with_reducible refine m_wrB ?_ | with_reducible refine m_wrS ?_ | with_reducible refine m_rdB ?_ | with_reducible refine m_rdS ?_ | with_reducible refine LeC.of fun _=>?_ | with_reducible intro _ | split | with_reducible refine LeC.at ?_ _)
theorem m_lendC {t:ST} {f:Fg} {c:Cl} {k k':Cl→Option ρ} (h:∀ v0,LeO (k v0) (k' v0)):LeO (lendC t f c k) (lendC t f c k'):=by
 unfold lendC
 repeat (first | with_reducible exact .rfl' | with_reducible exact h | with_reducible exact h _ | with_reducible exact h _ _ | with_reducible exact (h _).at _ | with_reducible exact h.at _ | with_reducible refine m_lendZ ?_ | with_reducible refine m_opT ?_ | with_reducible refine m_callT ?_ | with_reducible refine m_hiT ?_ | with_reducible refine m_appendT ?_ | with_reducible refine m_binT ?_ | with_reducible refine m_fillET ?_ | with_reducible refine m_freshT ?_ | with_reducible refine m_storesT ?_ | with_reducible refine m_closePartsT ?_ | with_reducible refine m_closeCT ?_ | with_reducible refine m_closesT ?_ | with_reducible refine m_closeT ?_ | with_reducible refine m_outT ?_ | with_reducible refine m_evPartsT ?_ | with_reducible refine m_evTs ?_ | with_reducible refine m_evT ?_ | with_reducible refine m_rowC ?_ | with_reducible refine m_putAt ?_ | with_reducible refine m_getAt ?_ | with_reducible refine m_mkRow ?_ | with_reducible refine m_toRow ?_ | with_reducible refine m_conv ?_ | with_reducible refine m_lsub ?_ | with_reducible refine m_lrep ?_ | with_reducible refine m_lapp ?_ | with_reducible refine m_lgetN ?_ | with_reducible refine m_lget ?_ | with_reducible refine m_ssub ?_ | with_reducible refine m_sget ?_ | with_reducible refine m_scat ?_ | with_reducible refine m_catS ?_ | with_reducible refine m_rep_ ?_ | with_reducible refine m_app_ ?_ | with_reducible refine m_sub_ ?_ | with_reducible refine m_atS ?_ | with_reducible refine m_atN ?_ | with_reducible refine m_at_ ?_ | with_reducible refine m_castL ?_ | with_reducible refine m_castV ?_ | with_reducible refine m_iteC ?_ ?_ | with_reducible refine m_knowT ?_ | with_reducible refine m_killBox ?_ | with_reducible refine m_kill ?_ | with_reducible refine m_wrB ?_ | with_reducible refine m_wrS ?_ | with_reducible refine m_rdB ?_ | with_reducible refine m_rdS ?_ | with_reducible refine LeC.of fun _=>?_ | with_reducible intro _ | split | with_reducible refine LeC.at ?_ _)
end
end TM
namespace TM
open Go
def LeR (r r':Rec):Prop:=∀ l x z,r l x=some z→r' l x=some z
section
variable (F:Rec→Rec)
def Evals (l:Lb) (x:R l.inS) (z:R l.outS):Prop:=
 ∀ Q:(l:Lb)→R l.inS→R l.outS→Prop,(∀ r:Rec,(∀ l x z,r l x=some z→Q l x z)→∀ l x z,F r l x=some z→Q l x z)→Q l x z
theorem Evals.step {r:Rec} (h:∀ l x z,r l x=some z→Evals F l x z) {l:Lb} {x:R l.inS} {z:R l.outS} (e:F r l x=some z):Evals F l x z:=
 fun Q hQ=>hQ r (fun l x z e=>h l x z e Q hQ) l x z e
variable {F}
theorem Evals.one (hm:∀ r r',LeR r r'→LeR (F r) (F r')) {l:Lb} {x:R l.inS} {z:R l.outS} (h:Evals F l x z):∀ z',Evals F l x z'→z'=z:=by
 refine (h (fun l x z=>Evals F l x z∧∀ z',Evals F l x z'→z'=z) fun r hr l x z e=>⟨Evals.step F (fun l x z e=>(hr l x z e).1) e,fun z' h'=>?_⟩).2
 refine (h' (fun l' x' z'=>Evals F l' x' z'∧∀ z,F r l' x'=some z→z'=z) fun r' hr' l' x' z' e'=>⟨Evals.step F (fun l x z e=>(hr' l x z e).1) e',fun z e=>?_⟩).2 z e
 have e1:=hm r (fun l x=>(r l x).or (r' l x)) (fun l x z h=>by simp [h]) l' x' z e
 have e2:=hm r' (fun l x=>(r l x).or (r' l x)) (fun l x z h=>by
  cases h1:r l x with
  |none=>show (r l x).or (r' l x)=some z;rw[h1,h];rfl
  |some y=>show (r l x).or (r' l x)=some z;rw[h1,(hr l x y h1).2 z (hr' l x z h).1];rfl) l' x' z' e'
 rw[e1] at e2
 exact (Option.some.inj e2).symm
open Classical in
noncomputable def lim (F:Rec→Rec):Rec:=fun l x=>if h:∃ z,Evals F l x z then some h.choose else none
theorem lim_iff (hm:∀ r r',LeR r r'→LeR (F r) (F r')) {l:Lb} {x:R l.inS} {z:R l.outS}:lim F l x=some z↔Evals F l x z:=by
 unfold lim
 constructor
 ·intro h
  split at h
  ·rename_i hz
   rw[← Option.some.inj h]
   exact hz.choose_spec
  ·cases h
 ·intro h
  rw[dif_pos ⟨z,h⟩]
  exact congrArg some (h.one hm _ (Exists.choose_spec ⟨z,h⟩))
theorem lim_eq (hm:∀ r r',LeR r r'→LeR (F r) (F r')) (l:Lb) (x:R l.inS):lim F l x=F (lim F) l x:=by
 have key:∀ z,lim F l x=some z↔F (lim F) l x=some z:=by
  intro z
  constructor
  ·intro h
   refine ((lim_iff hm).1 h (fun l x z=>Evals F l x z∧F (lim F) l x=some z) fun r hr l x z e=>⟨Evals.step F (fun l x z e=>(hr l x z e).1) e,?_⟩).2
   exact hm r (lim F) (fun l x z e=>(lim_iff hm).2 (hr l x z e).1) l x z e
  ·intro h
   exact (lim_iff hm).2 (Evals.step F (fun l x z e=>(lim_iff hm).1 e) h)
 cases h:lim F l x with
 |some z=>exact ((key z).1 h).symm
 |none=>
  cases h':F (lim F) l x with
  |none=>rfl
  |some z=>rw[(key z).2 h'] at h;cases h
theorem lim_ind (hm:∀ r r',LeR r r'→LeR (F r) (F r')) (Q:(l:Lb)→R l.inS→R l.outS→Prop)
  (hQ:∀ r:Rec,(∀ l x z,r l x=some z→Q l x z)→∀ l x z,F r l x=some z→Q l x z) {l:Lb} {x:R l.inS} {z:R l.outS} (h:lim F l x=some z):Q l x z:=
 (lim_iff hm).1 h Q hQ
end
end TM
namespace TM
open Go
section
variable {ρ:Type}
theorem m_lendZs:∀ {r:List (ST×Fg)} {cs:List Cl} {k k':List Cl→Option ρ} (_:∀ v,LeO (k v) (k' v)),LeO (lendZs r cs k) (lendZs r cs k')
 |[],_,_,_,h=>h _
 |(t,f) :: r,[],_,_,h=>by simp only[lendZs];exact .rfl'
 |(t,f) :: r,c :: cs,_,_,h=>by
  simp only[lendZs]
  exact m_lendZ fun x=>m_lendZs fun xs=>h _
theorem m_canonOne {N t:Nat} {x:VP} {k k':Co ρ} (h:LeC k k'):LeC (canonOne N t x k) (canonOne N t x k'):=by
 unfold canonOne
 cases firstRef (cellsVP x) with
 |none=>exact h
 |some m=>
  refine m_rdS fun v=>?_
  cases takeV x v with
  |some _=>exact h
  |none=>
   simp only
   cases keepT (cellsVP x) (cellsTV v)&&(isAggP x==isAggT v)&&Nat.beq m.2 0 with
   |false=>exact .rfl'
   |true=>
    refine m_closesT fun cs=>?_
    cases allOwn cs with
    |false=>exact .rfl'
    |true=>exact m_killBox (m_wrB (m_wrS h))
theorem m_canonS {N:Nat}:∀ {l:List (Nat×VP)} {k k':Co ρ} (_:LeC k k'),LeC (canonS N l k) (canonS N l k')
 |[],_,_,h=>h
 |(t,x) :: xs,_,_,h=>by
  simp only[canonS]
  exact m_canonOne (m_canonS h)
theorem m_lendC' {t:ST} {f:Fg} {x:Cl} {k k':Cl→Co ρ} (h:∀ v,LeC (k v) (k' v)):LeC (fun st=>lendC t f x fun y=>k y st) (fun st=>lendC t f x fun y=>k' y st):=
 LeC.of fun st=>m_lendC fun y=>(h y).at st
mutual
theorem m_lendT:∀ {v:TV} {t:ST} {f:Fg} {k k':Cl→Co ρ} (_:∀ v,LeC (k v) (k' v)),LeC (lendT v t f k) (lendT v t f k')
 |.c x,t,f,_,_,h=>by simp only[lendT];exact m_lendC' h
 |.ref n p sub,t,f,_,_,h=>by
  cases sub with
  |some s=>unfold lendT;exact .rfl'
  |none=>
   cases t<;>first | (unfold lendT;exact .rfl') | skip
   cases f<;>first | (unfold lendT;exact .rfl') | skip
   rename_i g fs
   cases g<;>first | (unfold lendT;exact .rfl') | skip
   unfold lendT
   refine m_rowC fun row=>?_
   cases row with
   |nil=>exact .rfl'
   |cons y ys=>
    obtain ⟨ty,fy,y⟩:=y
    cases ty<;>first | exact .rfl' | skip
    simp only
    cases ownF fy with
    |false=>exact .rfl'
    |true=>exact LeC.of fun st=>m_lendZ fun y=>(h y).at st
 |.addr n p,t,f,_,_,h=>by
  cases t<;>first | (unfold lendT;exact .rfl') | skip
  cases f<;>first | (unfold lendT;exact .rfl') | skip
  rename_i g fs
  cases g<;>first | (unfold lendT;exact .rfl') | skip
  unfold lendT
  exact m_rowC fun row=>LeC.of fun st=>m_lendZs fun cs=>m_mkRow fun x=>(h _).at st
 |.raddr cs,t,f,_,_,h=>by
  cases t<;>first | (unfold lendT;exact .rfl') | skip
  rename_i r
  cases f<;>first | (unfold lendT;exact .rfl') | skip
  rename_i g fs
  cases g<;>first | (unfold lendT;exact .rfl') | skip
  unfold lendT
  cases Nat.beq r.length cs.length with
  |false=>exact .rfl'
  |true=>exact LeC.of fun st=>m_lendZs fun cs=>m_mkRow fun x=>(h _).at st
 |.fn g xs,t,f,_,_,h=>by
  cases t<;>first | (unfold lendT;exact .rfl') | skip
  rename_i hh r
  cases f<;>first | (unfold lendT;exact .rfl') | skip
  unfold lendT
  cases Nat.beq g hh with
  |false=>exact .rfl'
  |true=>exact m_lendTs fun cs=>LeC.of fun st=>m_mkRow fun x=>(h _).at st
 |.agg _,t,f,_,_,h=>by unfold lendT;exact .rfl'
 |.tup _,t,f,_,_,h=>by unfold lendT;exact .rfl'
 |.va _,t,f,_,_,h=>by unfold lendT;exact .rfl'
 |.dead,t,f,_,_,h=>by unfold lendT;exact .rfl'
theorem m_lendTs:∀ {vs:List TV} {r:List (ST×Fg)} {k k':List Cl→Co ρ} (_:∀ v,LeC (k v) (k' v)),LeC (lendTs vs r k) (lendTs vs r k')
 |[],[],_,_,h=>by unfold lendTs;exact h _
 |[],_ :: _,_,_,h=>by unfold lendTs;exact .rfl'
 |_ :: _,[],_,_,h=>by unfold lendTs;exact .rfl'
 |v :: vs,(t,f) :: r,_,_,h=>by
  unfold lendTs
  exact m_lendT fun c=>m_lendTs fun cs=>h _
end
theorem m_argsT:∀ {vs:List TV} {as:List AP} {k k':List Cl→List (Option Nm)→Co ρ} (_:∀ v w,LeC (k v w) (k' v w)),LeC (argsT vs as k) (argsT vs as k')
 |[],[],_,_,h=>by simp only[argsT];exact h _ _
 |[],_ :: _,_,_,h=>by simp only[argsT];exact .rfl'
 |v :: vs,[],_,_,h=>by cases v<;>(unfold argsT;exact .rfl')
 |v :: vs,a :: as,_,_,h=>by
  cases a with
  |one t f=>unfold argsT;exact m_lendT fun c=>m_argsT fun cs mv=>h _ _
  |agg r=>
   cases v<;>first | (unfold argsT;exact .rfl') | skip
   unfold argsT
   exact m_lendTs fun c=>m_argsT fun cs mv=>h _ _
  |ptr r=>
   cases v<;>first | (unfold argsT;exact .rfl') | skip
   rename_i n p
   obtain ⟨c,q⟩:=p
   cases c with
   |succ c=>unfold argsT;exact .rfl'
   |zero=>
    cases q with
    |cons a b=>unfold argsT;exact .rfl'
    |nil=>
     unfold argsT
     refine m_rdB fun bx=>?_
     cases bx.real&&Nat.beq bx.cells.length r.length with
     |false=>exact .rfl'
     |true=>exact m_argsT fun cs mv=>h _ _
  |_=>cases v<;>(unfold argsT;exact .rfl')
theorem m_partO {v:TV} {t:ST} {f:Fg} {k k':Cl→Co ρ} (h:∀ v,LeC (k v) (k' v)):LeC (partO v t f k) (partO v t f k'):=by
 cases v with
 |c x=>
  unfold partO
  simp only
  cases solid x.t x.f with
  |false=>exact .rfl'
  |true=>exact LeC.of fun st=>m_conv fun a=>(h _).at st
 |ref n p sub=>
  cases sub with
  |some s=>unfold partO;exact .rfl'
  |none=>
   unfold partO
   refine m_rowC fun row=>?_
   cases row with
   |nil=>exact .rfl'
   |cons y ys=>
    obtain ⟨ty,fy,y⟩:=y
    cases ty<;>first | exact .rfl' | skip
    simp only
    cases ownF fy with
    |false=>exact .rfl'
    |true=>exact LeC.of fun st=>m_conv fun a=>(h _).at st
 |_=>unfold partO;exact .rfl'
theorem m_partsO:∀ {vs:List TV} {r:List (ST×Fg)} {k k':List Cl→Co ρ} (_:∀ v,LeC (k v) (k' v)),LeC (partsO vs r k) (partsO vs r k')
 |[],[],_,_,h=>by unfold partsO;exact h _
 |[],_ :: _,_,_,h=>by unfold partsO;exact .rfl'
 |_ :: _,[],_,_,h=>by unfold partsO;exact .rfl'
 |v :: vs,(t,f) :: r,_,_,h=>by
  unfold partsO
  exact m_partO fun c=>m_partsO fun cs=>h _
theorem m_argsO:∀ {vs:List TV} {as:List AP} {k k':List Cl→Co ρ} (_:∀ v,LeC (k v) (k' v)),LeC (argsO vs as k) (argsO vs as k')
 |[],[],_,_,h=>by unfold argsO;exact h _
 |[],_ :: _,_,_,h=>by unfold argsO;exact .rfl'
 |v :: vs,[],_,_,h=>by cases v<;>(unfold argsO;exact .rfl')
 |v :: vs,a :: as,_,_,h=>by
  cases a with
  |one t f=>
   cases v<;>first | (unfold argsO;exact .rfl') | skip
   unfold argsO
   exact m_lendC' fun c=>m_argsO fun cs=>h _
  |owns r=>
   cases v<;>first | (unfold argsO;exact .rfl') | skip
   unfold argsO
   exact m_partsO fun c=>m_argsO fun cs=>h _
  |own t f=>
   cases v<;>first | (unfold argsO;exact .rfl') | (unfold argsO;exact m_partO fun c=>m_argsO fun cs=>h _)
  |_=>cases v<;>(unfold argsO;exact .rfl')
theorem m_putsT:∀ {vs:List TV} {cs:List Cl} {k k':Co ρ} (_:LeC k k'),LeC (putsT vs cs k) (putsT vs cs k')
 |[],cs,_,_,h=>by unfold putsT;exact h
 |v :: vs,[],_,_,h=>by
  cases v with
  |ref n p sub=>cases sub<;>(unfold putsT;exact h)
  |_=>unfold putsT;exact h
 |v :: vs,c :: cs,_,_,h=>by
  cases v with
  |ref n p sub=>
   cases sub with
   |some s=>unfold putsT;exact m_putsT h
   |none=>
    unfold putsT
    exact m_rdB fun bx=>LeC.of fun st=>m_putAt fun cs'=>(m_kill (m_wrB (m_putsT h))).at st
  |_=>unfold putsT;exact m_putsT h
theorem m_freshNb {nb:Nm} {k k':Co ρ} (h:LeC k k'):LeC (freshNb nb k) (freshNb nb k'):=m_killBox (m_wrB h)
theorem m_call_ {r r':Rec} (hr:LeR r r') {l:Lb} {x:R l.inS} {k k':R l.outS→Option ρ} (h:∀ v,LeO (k v) (k' v)):LeO (call_ r l x k) (call_ r' l x k'):=by
 intro z hz
 unfold call_ at hz ⊢
 cases hx:r l x with
 |none=>rw[hx] at hz;cases hz
 |some y=>
  rw[hx] at hz
  rw[hr _ _ _ hx]
  exact h y z hz
theorem m_tail_ {r r':Rec} (hr:LeR r r') {l:Lb} {x:R l.inS} {o:List ST}:LeO (tail_ r l x o) (tail_ r' l x o):=by
 intro z hz
 unfold tail_ at hz ⊢
 by_cases ho:ST.beqs l.outS o=true
 ·rw[dif_pos ho] at hz ⊢
  have key:∀ (o:List ST) (e:l.outS=o) (z:R o),(e ▸ r l x:Res (R o))=some z→(e ▸ r' l x:Res (R o))=some z:=by
   intro o e z
   cases e
   exact hr _ _ _
  exact key _ _ _ hz
 ·rw[dif_neg ho] at hz
  cases hz
end
section
variable {E:En} {r r':Rec} (hr:LeR r r')
include hr
theorem m_callC {ρ:Type} {dr:Bool} {o:Oper} {k k':Co ρ} (h:LeC k k'):LeC (callC E r dr o k) (callC E r' dr o k'):=by
 unfold callC
 cases o.op with
 |call c=>
  cases o.dst with
  |none=>exact .rfl'
  |some d=>
   simp only
   cases c.callee with
   |value fo=>
    refine m_evT fun fv=>m_evTs fun vs=>?_
    cases fv with
    |fn g caps=>
     refine LeC.of fun st=>?_
     simp only
     cases pickA g st.b (vs++caps) (E.tb g) with
     |none=>exact .rfl'
     |some l=>
      refine LeC.at (m_argsT fun cs mv=>LeC.of fun st=>?_) _
      cases (Nat.blt d E.N&&(nodupM mv&&(freeA mv (vs++caps) l.args&&(Nat.beq l.outs.length mv.length&&allRes l.res&&(!dr || notG d mv)&&(noFzR l || !lendsA? (vs++caps) l.args))))) with
      |false=>exact .rfl'
      |true=>exact m_toRow fun x=>m_call_ hr fun y=>h.at _
    |_=>exact .rfl'
   |_=>exact .rfl'
 |_=>exact .rfl'
theorem m_callO {ρ:Type} {o:Oper} {k k':Co ρ} (h:LeC k k'):LeC (callO E r o k) (callO E r' o k'):=by
 unfold callO
 cases o.op with
 |call c=>
  cases o.dst with
  |none=>exact .rfl'
  |some d=>
   simp only
   cases c.callee with
   |value fo=>
    refine m_evT fun fv=>m_evTs fun vs=>?_
    cases fv with
    |fn g caps=>
     refine LeC.of fun st=>?_
     simp only
     cases pickA g st.b (vs++caps) (E.tb g) with
     |none=>exact .rfl'
     |some l=>
      simp only
      cases Nat.beq (ownN? l.args) 1 with
      |false=>exact .rfl'
      |true=>
      cases ownAt 0 (vs++caps) l.args with
      |none=>exact .rfl'
      |some iv=>
       obtain ⟨i0,v0⟩:=iv
       refine LeC.at (m_argsO fun cs=>LeC.of fun st=>?_) _
       cases (Nat.blt d E.N&&(apartT d (E.N+E.N,0) (cellsTV v0)&&(Nat.beq l.outs.length l.args.length&&(outsO i0 0 l.outs&&(allRes l.res&&nodupM (mvO (E.N+E.N,0) i0 0 l.outs)))))) with
       |false=>exact .rfl'
       |true=>
        refine m_toRow fun x=>m_call_ hr fun y=>?_
        cases backH (cellsTV v0) ((ofRow l.outT y).take (outLen l)) with
        |false=>exact .rfl'
        |true=>exact (m_putsT (m_freshNb (LeC.of fun st=>(m_freshNb (LeC.of fun st=>h.at _)).at _))).at _
    |_=>exact .rfl'
   |_=>exact .rfl'
 |_=>exact .rfl'
theorem m_callX {ρ:Type} {dr:Bool} {o:Oper} {k k':Co ρ} (h:LeC k k'):LeC (callX E r dr o k) (callX E r' dr o k'):=by
 refine LeC.of fun st=>?_
 unfold callX
 cases !dr&&ownL? E o st with
 |false=>exact (m_callC hr h).at st
 |true=>exact (m_callO hr h).at st
theorem m_jump {q:List Nat}:LeC (jump E r q) (jump E r' q):=by
 refine LeC.of fun st=>?_
 unfold jump
 cases pickQ E.f E.me.i q st (E.tb E.f) with
 |none=>exact .rfl'
 |some l=>
  refine LeC.at (m_canonS (LeC.of fun st'=>?_)) st
  cases takeC l st' with
  |none=>exact .rfl'
  |some cs=>
   cases apsBeq l.res E.me.res with
   |false=>exact .rfl'
   |true=>
    cases ctssBeq l.outs E.me.outs with
    |false=>exact .rfl'
    |true=>
     simp only
     cases fitK l.inT cs with
     |false=>exact .rfl'
     |true=>exact m_toRow fun x=>m_tail_ hr
omit hr in
theorem m_both {α:Type} {a a' b b':Option α} (h:LeO a a') (h':LeO b b'):LeO (both_ a b) (both_ a' b'):=by
 intro z hz
 obtain ⟨h1,h2⟩:=both_some hz
 unfold both_
 rw[h z h1,h' z h2,if_pos rfl]
omit hr in
theorem m_op1 {ρ:Type} {dr:Bool} {o:Oper} {k k':Co ρ} (h:LeC k k'):LeC (op1 E dr o k) (op1 E dr o k'):=by
 have h0:LeC (op0 E dr o k) (op0 E dr o k'):=by
  unfold op0
  cases dr with
  |true=>exact m_opT h
  |false=>
   cases vboxOp E o with
   |none=>
    cases vstOp E o with
    |none=>exact m_opT h
    |some z=>
     show LeC (vstC E.P E.N z k) (vstC E.P E.N z k')
     unfold vstC
     refine m_rdS fun u=>m_rdS fun v=>?_
     cases u<;>first | exact .rfl' | skip
     rename_i xs
     cases v<;>first | exact .rfl' | skip
     rename_i n p
     obtain ⟨c,r⟩:=p
     cases c<;>first | exact .rfl' | skip
     cases r<;>first | exact .rfl' | skip
     refine m_rdB fun bx=>?_
     cases bx.real&&(!Nat.beq n.2 1&&(flatTs xs&&(Nat.beq (E.P.cellsOf z.1) xs.length&&(Nat.blt 0 xs.length&&Nat.beq bx.cells.length xs.length)))) with
     |true=>exact m_killBox (m_wrB (m_wrS h))
     |false=>exact .rfl'
   |some z=>
    show LeC (vboxC E.N z k) (vboxC E.N z k')
    unfold vboxC
    refine m_rdS fun v=>?_
    cases v<;>first | exact .rfl' | exact m_outT h
 unfold op1
 cases dr with
 |true=>exact h0
 |false=>
  cases nilOp E.P o with
  |none=>exact h0
  |some z=>
   show LeC (nilC E.N z k) (nilC E.N z k')
   unfold nilC
   refine m_evT fun v=>?_
   cases v with
   |c c=>
    obtain ⟨t,f,l⟩:=c
    cases t with
    |sl r=>exact m_iteC (m_outT h) (LeC.of fun st=>m_both ((m_outT h).at st) ((m_outT h).at st))
    |_=>exact .rfl'
   |_=>exact .rfl'
theorem m_one {ρ:Type} {dr:Bool} {o:Oper} {k k':Co ρ} (h:LeC k k'):LeC (match isCall o with
  |true=>callX E r dr o k
  |false=>op1 E dr o k) (match isCall o with
  |true=>callX E r' dr o k'
  |false=>op1 E dr o k'):=by
 cases isCall o with
 |true=>exact m_callX hr h
 |false=>exact m_op1 h
omit hr in
theorem m_frzCells {ρ:Type} {n:Nm} {z:Bool} {k k':Co ρ} (h:LeC k k'):∀ m c,LeC (frzCells n z k m c) (frzCells n z k' m c)
 |0,_=>h
 |m+1,c=>by
  simp only[frzCells]
  refine m_rdB fun bx=>?_
  cases bx.cells.drop c with
  |nil=>exact m_frzCells h m (c+1)
  |cons c1 rest=>
   obtain ⟨t1,f1,l⟩:=c1
   cases t1<;>first | exact m_frzCells h m (c+1) | skip
   cases f1 with
   |nil=>exact m_kill (m_wrB (m_frzCells h m (c+1)))
   |sl fl fs=>
    cases fl<;>first | exact m_frzCells h m (c+1) | skip
    exact m_kill (m_wrB (m_frzCells h m (c+1)))
   |_=>exact m_frzCells h m (c+1)
omit hr in
theorem m_frzOne {ρ:Type} {N t:Nat} {z:Bool} {k k':Co ρ} (h:LeC k k'):LeC (frzOne N t z k) (frzOne N t z k'):=by
 unfold frzOne
 refine m_rdS fun v=>?_
 split
 ·exact m_rdB fun bx=>m_frzCells h _ _
 ·refine m_closesT fun cs=>?_
  cases flatCs cs with
  |true=>exact m_wrS h
  |false=>exact .rfl'
omit hr in
theorem m_fixL {ρ:Type} {N:Nat}:∀ {l:List (Nat×Bool)} {k k':Co ρ} (_:LeC k k'),LeC (fixL N l k) (fixL N l k')
 |[],_,_,h=>h
 |(_,_) :: _,_,_,h=>m_frzOne (m_fixL h)
theorem m_oneT {ρ:Type} {dr:Bool} {all:Array Oper} {o:Oper} {k k':Co ρ} (ih:LeC k k'):LeC (oneT E r dr all o k) (oneT E r' dr all o k'):=by
  unfold oneT
  cases guardOf all o with
  |none=>exact m_one hr ih
  |some g=>
   obtain ⟨d,w⟩:=g
   cases d with
   |none=>exact .rfl'
   |some d=>
    refine m_rdS fun v=>?_
    cases v with
    |c b=>
     obtain ⟨tb,fb,b⟩:=b
     cases tb<;>first | exact .rfl' | skip
     exact m_iteC (m_knowT (m_one hr ih)) (m_knowT (m_outT ih))
    |tup xs=>
     cases xs with
     |nil=>exact m_outT ih
     |cons _ _=>exact .rfl'
    |_=>exact .rfl'
theorem m_opsT {ρ:Type} {dr:Bool} {fx:List (Nat×Bool×Nat×Bool)} {all:Array Oper}:∀ {ops:List Oper} {k k':Co ρ} (_:LeC k k'),LeC (opsT E r dr fx all ops k) (opsT E r' dr fx all ops k')
 |[],_,_,h=>h
 |o :: rest,k,k',h=>by
  have ih:=m_opsT (dr:=dr) (fx:=fx) (all:=all) (ops:=rest) h
  simp only[opsT]
  exact m_fixL (m_oneT hr (m_fixL ih))
theorem m_drawT {ρ:Type} {all:Array Oper}:∀ {ord:List Nat} {acc:List (Nat×List Ft)} {k k':Co ρ} (_:LeC k k'),LeC (drawT E r all ord acc k) (drawT E r' all ord acc k')
 |[],acc,k,k',h=>by
  simp only[drawT]
  refine LeC.of fun st=>?_
  cases ncAll all acc&&(ordOk all (acc.reverse.map (·.1))&&(coverN (acc.map (·.1)) all.size&&Nat.beq acc.length all.size)) with
  |true=>exact h.at _
  |false=>exact .rfl'
 |i :: rest,acc,k,k',h=>by
  simp only[drawT]
  refine LeC.of fun st=>?_
  cases all[i]? with
  |none=>exact .rfl'
  |some o=>exact LeC.at (m_opsT hr (LeC.of fun st'=>LeC.at (m_drawT h) st')) _
theorem m_runT:∀ n (first down:Bool) (q:List Nat),LeC (runT E r n first down q) (runT E r' n first down q)
 |0,_,_,_=>.rfl'
 |n+1,first,true,q=>by
  simp only[runT]
  cases codeAt E.body q.reverse with
  |none=>exact .rfl'
  |some node=>
   cases node with
   |skip=>exact m_runT n _ _ _
   |seq _ _=>exact m_runT n _ _ _
   |block _ _=>exact m_runT n _ _ _
   |loop _=>exact m_runT n _ _ _
   |cond t _ _=>
    cases t with
    |tmp t=>
     refine m_rdS fun v=>?_
     cases v<;>first | exact .rfl' | skip
     rename_i b
     obtain ⟨tb,fb,b⟩:=b
     cases tb<;>first | exact .rfl' | skip
     exact m_iteC (m_knowT (m_runT n _ _ _)) (m_knowT (m_runT n _ _ _))
    |const c=>
     cases c<;>first | exact .rfl' | skip
     rename_i b
     cases b with
     |true=>exact m_runT n _ _ _
     |false=>exact m_runT n _ _ _
    |_=>exact .rfl'
   |exit id=>
    simp only
    cases upTo E.body id q with
    |none=>exact .rfl'
    |some p=>exact m_runT n _ _ _
   |region id ops d=>
    cases d with
    |false=>
     simp only
     cases !first&&isCut E.me.i q (E.tb E.f) with
     |true=>exact m_jump hr
     |false=>exact m_opsT hr (m_runT n _ _ _)
    |true=>
     simp only
     cases !first&&isCut E.me.i q (E.tb E.f) with
     |true=>exact m_jump hr
     |false=>exact m_fixL (m_drawT hr (m_fixL (m_runT n _ _ _)))
   |_=>exact .rfl'
 |n+1,first,false,q=>by
  match q with
  |[]=>exact .rfl'
  |0 :: p=>
   simp only[runT]
   cases codeAt E.body p.reverse with
   |none=>exact .rfl'
   |some node=>cases node<;>first | exact m_runT n _ _ _ | exact .rfl'
  |1 :: p=>
   simp only[runT]
   cases codeAt E.body p.reverse with
   |none=>exact .rfl'
   |some node=>cases node<;>first | exact m_runT n _ _ _ | exact .rfl'
  |(_+2) :: p=>exact .rfl'
end
theorem stepF_mono (P:Program) (tb:Nat→List Lb) (r r':Rec) (hr:LeR r r'):LeR (stepF P tb r) (stepF P tb r'):=by
 intro l x
 show LeO _ _
 unfold stepF
 cases P.funcs[l.f]? with
 |none=>exact .rfl'
 |some fn=>
  simp only
  cases fn.body with
  |none=>exact .rfl'
  |some c=>
   simp only
   cases entryOk l fn.ntmps with
   |false=>exact .rfl'
   |true=>exact LeC.at (m_runT hr _ _ _ _) _
noncomputable def evL (P:Program) (tb:Nat→List Lb):Rec:=lim (stepF P tb)
theorem evL_eq (P:Program) (tb:Nat→List Lb) (l:Lb) (x:R l.inS):evL P tb l x=stepF P tb (evL P tb) l x:=lim_eq (stepF_mono P tb) l x
end TM
namespace TM
open Go
mutual
theorem inT_rel {Q:Nm→Pth→Nat→Prop}:∀ (t:ST) (f:Fg) (x:V t),RelV Q (inT t f x) (inLV (encT t f x))
 |.int k,f,x=>by simp only[inT,encT,inLV,RelV,Cl.enc]
 |.bool,f,x=>by simp only[inT,encT,inLV,RelV,Cl.enc]
 |.str,f,x=>by simp only[inT,encT,inLV,RelV,Cl.enc]
 |.hole,f,x=>by simp only[inT,RelV]
 |.hs _ _,f,x=>by simp only[inT,RelV]
 |.sl r,f,x=>by
  simp only[inT,RelV,Cl.enc]
  cases f<;>simp only[encT,inLV]
 |.pt r,f,x=>by
  cases f with
  |pt g fs=>
   cases g with
   |own=>simp only[inT,RelV]
   |_=>simp only[inT,encT,inLV,RelV];exact congrArg LV.raddr (encs_cellsOf r fs x).symm
  |_=>simp only[inT,RelV]
 |.fn g r,f,x=>by
  cases f with
  |fn fs=>
   simp only[inT,encT,inLV,RelV]
   exact ⟨_,rfl,inTs_rel r fs x⟩
  |_=>simp only[inT,RelV]
theorem inTs_rel {Q:Nm→Pth→Nat→Prop}:∀ (r:List ST) (fs:List Fg) (x:R r),RelVs Q (inTs r fs x) (inLVs (encR r fs x))
 |[],_,_=>by simp only[inTs,encR,inLVs,RelVs]
 |t :: r,f :: fs,x=>by
  simp only[inTs,encR,inLVs,RelVs]
  exact ⟨inT_rel t f _,inTs_rel r fs _⟩
 |_ :: _,[],_=>by simp only[inTs,encR,inLVs,RelVs]
end
theorem inC_rel {Q:Nm→Pth→Nat→Prop} (c:Cl):RelV Q (inC c) (inLV c.enc):=inT_rel _ _ _
theorem inCs_rel {Q:Nm→Pth→Nat→Prop}:∀ cs:List Cl,RelVs Q (cs.map inC) (inLVs (encs cs))
 |[]=>by simp only[List.map_nil,encs,inLVs,RelVs]
 |c :: cs=>by
  simp only[List.map_cons,encs,inLVs,RelVs]
  exact ⟨inC_rel c,inCs_rel cs⟩
theorem lv_rel {b:Nm→Box} {i:Nat} {cs:List Cl} (a:AP) (hb:(b (i,1)).cells=(a.arg (encs cs)).cells):RelV (Qs b) (a.lv i cs) ((a.arg (encs cs)).lv i):=by
 cases a with
 |one t f=>
  cases cs with
  |nil=>simp only[AP.lv,RelV]
  |cons c cs=>exact inC_rel c
 |agg r=>simp only[AP.lv,AP.arg,Arg.lv,RelV];exact ⟨_,rfl,inCs_rel cs⟩
 |ptr r=>simp only[AP.lv,AP.arg,Arg.lv,RelV];rfl
 |own t f=>
  cases cs with
  |nil=>simp only[AP.lv,RelV]
  |cons c cs=>
   refine seenT_rel (row:=[]) ?_
   rw[hb]
   rfl
 |owns r=>
  simp only[AP.lv,AP.arg,Arg.lv,RelV]
  exact ⟨_,rfl,seensT_rel (p:=⟨0,[]⟩) _ 0 (row:=[]) (by rw[List.append_nil];show rowAt (b (i,1)).cells _=_;rw[hb];rfl)⟩
theorem entryS_rel {b:Nm→Box}:∀ (as:List AP) (cs:List Cl) (i t:Nat),(∀ j c,(argsL as (encs cs))[j]?=some c→(b (i+j,1)).cells=c.cells) →
  RelV (Qs b) (lookS (entryS i as cs) t) (match (if i≤t then (argsL as (encs cs))[t-i]? else none) with
   |some c=>c.lv t
   |none=>.dead)
 |[],cs,i,t,_=>by simp only[entryS,lookS,RelV]
 |a :: as,cs,i,t,hb=>by
  simp only[entryS,lookS]
  by_cases e:i=t
  ·subst e
   have h0:=hb 0 _ (by simp only[argsL];rfl)
   simp only[Nat.beq_refl,argsL,Nat.le_refl,if_true,Nat.sub_self,List.getElem?_cons_zero]
   rw[encs_take] at h0 ⊢
   exact lv_rel a h0
  ·have he:Nat.beq i t=false:=by
    cases hh:Nat.beq i t with
    |false=>rfl
    |true=>exact absurd (Nat.eq_of_beq_eq_true hh) e
   rw[he]
   have ih:=entryS_rel as (cs.drop a.len) (i+1) t fun j c hj=>by
    have:=hb (j+1) c (by simp only[argsL,List.getElem?_cons_succ];rw[encs_drop];exact hj)
    rw[show i+1+j=i+(j+1) by omega]
    exact this
   simp only[argsL,encs_drop]
   by_cases hl:i+1≤t
   ·rw[if_pos hl] at ih
    rw[if_pos (by omega),show t-i=(t-(i+1))+1 by omega,List.getElem?_cons_succ]
    exact ih
   ·rw[if_neg hl] at ih
    rw[if_neg (by omega)]
    exact ih
theorem entryB_rel:∀ (as:List AP) (cs:List Cl) (i:Nat) (n:Nm) (x:VB),(as.flatMap AP.cts).length=cs.length→lookB (entryB i as cs) n=some x→n.2=1∧i≤n.1∧∃ c,(argsL as (encs cs))[n.1-i]?=some c∧c.real=x.real∧c.cells=encs x.cells
 |[],cs,i,n,x,_,h=>by cases h
 |a :: as,cs,i,n,x,hl,h=>by
  have hla:a.cts.length=a.len:=by cases a<;>rfl
  simp only[List.flatMap_cons,List.length_append,hla] at hl
  simp only[entryB,lookB] at h
  split at h
  ·rename_i hn
   cases h
   unfold nmEq at hn
   simp only[Bool.and_eq_true] at hn
   have h1:=Nat.eq_of_beq_eq_true hn.1
   have h2:=Nat.eq_of_beq_eq_true hn.2
   refine ⟨h2.symm,Nat.le_of_eq h1,a.arg (encs (cs.take a.len)),by rw[← (show i=n.1 from h1)];simp [argsL,encs_take],?_⟩
   cases a with
   |own t f=>
    cases cs with
    |nil=>simp [AP.len] at hl
    |cons c cs=>exact ⟨rfl,rfl⟩
   |_=>exact ⟨rfl,rfl⟩
  ·obtain ⟨h1,h2,c,h3,h4⟩:=entryB_rel as (cs.drop a.len) (i+1) n x (by rw[List.length_drop];omega) h
   refine ⟨h1,by omega,c,?_,h4⟩
   rw[show n.1-i=(n.1-(i+1))+1 by omega]
   simp only[argsL,List.getElem?_cons_succ,encs_drop]
   exact h3
theorem entry_rel {l:Lb} (x:R l.inS) (hq:l.q=none):Rel (l.start x) (entry (argsL l.args (encs (ofRow l.inT x)))):=by
 unfold Lb.start
 rw[hq]
 have hlen:(l.args.flatMap AP.cts).length=(ofRow l.inT x).length:=by
  have:=congrArg List.length (ofRow_cts l.inT x)
  rw[List.length_map] at this
  rw[this]
  unfold Lb.inT
  rw[hq]
 constructor
 ·intro t
  have:=entryS_rel (b:=(entry (argsL l.args (encs (ofRow l.inT x)))).b) l.args (ofRow l.inT x) 0 t fun j c hj=>by
   simp only[entry,Nat.zero_add,if_true,hj]
  simp only[Nat.zero_le,if_true,Nat.sub_zero] at this
  exact this
 ·intro n y h
  obtain ⟨h1,h2,c,h3,h4,h5⟩:=entryB_rel _ _ _ _ _ hlen h
  simp only[Nat.sub_zero] at h3
  simp only[entry,h1,if_true,h3]
  exact ⟨h4,h5⟩
def goodP (P:Program):Bool:=P.follows .mixedOrders&&P.funcs.all fun fn=>!(fn.name== "runtime.NumGoroutine")
theorem stepF_right {P:Program} {tb:Nat→List Lb} (hP:goodP P=true) {r:Rec} (hr:Right P r):Right P (stepF P tb r):=by
 intro l x z h
 simp only[goodP,Bool.and_eq_true,Array.all_eq_true] at hP
 obtain ⟨hm,hn⟩:=hP
 unfold stepF at h
 cases hf:P.funcs[l.f]? with
 |none=>rw[hf] at h;cases h
 |some fn=>
  rw[hf] at h
  simp only at h
  cases hb:fn.body with
  |none=>rw[hb] at h;cases h
  |some c=>
   rw[hb] at h
   simp only at h
   cases ho:entryOk l fn.ntmps with
   |false=>rw[ho] at h;cases h
   |true=>
    rw[ho] at h
    simp only at h
    unfold J
    cases hq:l.q with
    |none=>
     rw[hq] at h
     unfold entryOk at ho
     rw[hq] at ho
     have hle:∀ (as:List AP) (ts:List T),(argsL as ts).length=as.length:=by
      intro as
      induction as with
      |nil=>intro ts;rfl
      |cons a as ih=>intro ts;simp [argsL,ih]
     obtain ⟨hi,he⟩:=Array.getElem?_eq_some_iff.1 hf
     have hname:=hn l.f hi
     rw[he] at hname
     refine fun_intro hf hb (by simpa using hname) (by rw[hle];exact Nat.le_of_ble_eq_true ho) fun C hCP hCN=>?_
     have:=(runT_good (C:=C) (E:=⟨P,fn.ntmps,l.f,c,fn.results.toList,tb,l⟩) (fn:=fn) hr hCP hCN hm hf hb rfl rfl 4000).1 true [] _ _ c h (entry_rel x hq) (by simp [codeAt])
     exact this
    |some q=>
     rw[hq] at h
     intro C fn' c' node st hf' hb' hnode hCP hCN R
     rw[hf] at hf'
     cases hf'
     rw[hb] at hb'
     cases hb'
     exact (runT_good (C:=C) (E:=⟨P,fn.ntmps,l.f,c,fn.results.toList,tb,l⟩) (fn:=fn) hr hCP hCN hm hf hb rfl rfl 4000).1 true q _ _ node h R hnode
theorem evL_right {P:Program} (tb:Nat→List Lb) (hP:goodP P=true):Right P (evL P tb):=fun _ _ _ h=>
 lim_ind (stepF_mono P tb) (J P) (fun _ hr=>stepF_right hP hr) h
end TM
namespace TM
open Go Go.RowKit Go.ChangeShapes Go.WideShapes
mutual
def Ty.sts:Ty→List ST
 |.int=>[.int .i64]
 |.u8=>[.int .u8]
 |.bool=>[.bool]
 |.str=>[.str]
 |.sl e=>[.sl e.sts]
 |.st fs=>Ty.stss fs
def Ty.stss:List Ty→List ST
 |[]=>[]
 |f :: fs=>f.sts++Ty.stss fs
end
mutual
def Ty.fgs:Ty→List Fg
 |.sl e=>[.sl e.fl e.fgs]
 |.st fs=>Ty.fgss fs
 |_=>[.z]
def Ty.fgss:List Ty→List Fg
 |[]=>[]
 |f :: fs=>f.fgs++Ty.fgss fs
end
mutual
def okV:(t:ST)→V t→Prop
 |.int .i64,n=>-9223372036854775808≤(show Int from n)∧(show Int from n)≤9223372036854775807
 |.int .u8,n=>0≤(show Int from n)∧(show Int from n)≤255
 |.str,l=>List.length (α:=UInt8) l≤maxLen
 |.sl r,l=>List.length (α:=R r) l≤maxLen∧∀ e∈lis r l,okR r e
 |_,_=>True
def okR:(r:List ST)→R r→Prop
 |[],_=>True
 |[t],x=>okV t x
 |t :: u :: r,x=>okV t x.1∧okR (u :: r) x.2
end
theorem okR_one {t:ST} {x:V t} (h:okV t x):okR [t] x:=by simp only[okR];exact h
theorem okR_nil {x:R []}:okR [] x:=by simp only[okR]
theorem okR_cons {t:ST}:∀ {r:List ST} {x:V t} {y:R r},okV t x→okR r y→okR (t :: r) (consR t r x y)
 |[],_,_,h,_=>by rw[okR];exact h
 |_ :: _,_,_,h,k=>by rw[okR];exact ⟨h,k⟩
def appR:(a b:List ST)→R a→R b→R (a++b)
 |[],_,_,y=>y
 |t :: a,b,x,y=>consR t (a++b) (headR t a x) (appR a b (tailR t a x) y)
theorem okR_head {t:ST}:∀ {r:List ST} {x:R (t :: r)},okR (t :: r) x→okV t (headR t r x)∧okR r (tailR t r x)
 |[],x,h=>by rw[okR] at h;exact ⟨h,by rw[okR];trivial⟩
 |_ :: _,x,h=>by rw[okR] at h;exact h
theorem okR_app:∀ (a b:List ST) {x:R a} {y:R b},okR a x→okR b y→okR (a++b) (appR a b x y)
 |[],_,_,_,_,k=>k
 |_ :: a,b,_,_,h,k=>okR_cons (okR_head h).1 (okR_app a b (okR_head h).2 k)
theorem encR_app:∀ (a b:List ST) (fa fb:List Fg) (x:R a) (y:R b),fa.length=a.length→encR (a++b) (fa++fb) (appR a b x y)=encR a fa x++encR b fb y
 |[],_,[],_,_,_,_=>rfl
 |t :: a,b,f :: fa,fb,x,y,h=>by
  simp only[List.cons_append,encR,appR,head_cons,tail_cons]
  rw[encR_app a b fa fb _ y (by simpa using h)]
 |[],_,_ :: _,_,_,_,h=>by simp at h
 |_ :: _,_,[],_,_,_,h=>by simp at h
mutual
theorem Ty.len_fgs:∀ y:Ty,y.fgs.length=y.sts.length
 |.int=>rfl
 |.u8=>rfl
 |.bool=>rfl
 |.str=>rfl
 |.sl _=>rfl
 |.st fs=>by simp only[Ty.fgs,Ty.sts];exact Ty.len_fgss fs
theorem Ty.len_fgss:∀ ys:List Ty,(Ty.fgss ys).length=(Ty.stss ys).length
 |[]=>rfl
 |f :: fs=>by simp only[Ty.fgss,Ty.stss,List.length_append,Ty.len_fgs f,Ty.len_fgss fs]
end
theorem listEx {α β:Type} {p:α→β→Prop}:∀ (l:List α),(∀ x∈l,∃ y,p x y)→∃ m:List β,m.length=l.length∧∀ (i:Nat) x y,l[i]?=some x→m[i]?=some y→p x y
 |[],_=>⟨[],rfl,fun i x y h=>by simp at h⟩
 |a :: l,h=>by
  obtain ⟨y,hy⟩:=h a (by simp)
  obtain ⟨m,hm,k⟩:=listEx l fun x hx=>h x (by simp [hx])
  refine ⟨y :: m,by simp [hm],fun i x z h1 h2=>?_⟩
  cases i with
  |zero=>
   simp only[List.getElem?_cons_zero,Option.some.injEq] at h1 h2
   rw[← h1,← h2]
   exact hy
  |succ i=>exact k i x z (by simpa using h1) (by simpa using h2)
mutual
theorem shape_enc:∀ (y:Ty) {ts:List T},shape y ts→∃ x:R y.sts,encR y.sts y.fgs x=ts∧okR y.sts x
 |.int,ts,h=>by rw[shape] at h;obtain ⟨n,rfl,h1⟩:=h;exact ⟨n,rfl,okR_one (t:=.int .i64) (by simp only[okV];exact h1)⟩
 |.u8,ts,h=>by rw[shape] at h;obtain ⟨n,rfl,h1⟩:=h;exact ⟨n,rfl,okR_one (t:=.int .u8) (by simp only[okV];exact h1)⟩
 |.bool,ts,h=>by rw[shape] at h;obtain ⟨n,rfl⟩:=h;exact ⟨n,rfl,okR_one (t:=.bool) (by simp only[okV])⟩
 |.str,ts,h=>by
  rw[shape] at h
  obtain ⟨s,rfl,h1⟩:=h
  refine ⟨s.data.toList,?_,okR_one (t:=.str) (by simp only[okV];simpa using h1)⟩
  simp only[Ty.sts,Ty.fgs,encR,encT,headR]
 |.sl e,ts,h=>by
  rw[shape] at h
  obtain ⟨es,rfl,h1,h2⟩:=h
  obtain ⟨m,hm,k⟩:=listEx (p:=fun (t:List T) (x:R e.sts)=>encR e.sts e.fgs x=t∧okR e.sts x) es fun x hx=>shape_enc e (h2 x hx)
  refine ⟨(show List (R e.sts) from m),?_,?_⟩
  ·simp only[Ty.sts,Ty.fgs,encR,encT,headR,lis]
   congr 2
   refine List.ext_getElem? fun i=>?_
   rw[List.getElem?_map]
   cases h3:es[i]? with
   |none=>
    have h4:(show List (R e.sts) from m)[i]?=none:=by
     rw[List.getElem?_eq_none_iff] at h3 ⊢
     exact Nat.le_trans (Nat.le_of_eq hm) h3
    rw[h4]
    rfl
   |some t=>
    have hlt:i<m.length:=by have:=(List.getElem?_eq_some_iff.1 h3).1;omega
    have h4:(show List (R e.sts) from m)[i]?=some m[i]:=List.getElem?_eq_getElem hlt
    rw[h4,Option.map_some,(k i t _ h3 h4).1]
  ·refine okR_one (t:=.sl e.sts) ?_
   simp only[okV]
   refine ⟨by show m.length≤_;omega,fun x hx=>?_⟩
   obtain ⟨i,hi⟩:=List.mem_iff_getElem?.1 hx
   have hlt:i<es.length:=by have:=(List.getElem?_eq_some_iff.1 hi).1;simp only[lis] at this;omega
   exact (k i _ x (List.getElem?_eq_getElem hlt) hi).2
 |.st fs,ts,h=>by rw[shape] at h;exact shapes_enc fs h
theorem shapes_enc:∀ (ys:List Ty) {ts:List T},shapes ys ts→∃ x:R (Ty.stss ys),encR (Ty.stss ys) (Ty.fgss ys) x=ts∧okR (Ty.stss ys) x
 |[],ts,h=>by rw[shapes] at h;subst h;exact ⟨(),rfl,okR_nil⟩
 |f :: fs,ts,h=>by
  rw[shapes] at h
  obtain ⟨a,b,rfl,h1,h2⟩:=h
  obtain ⟨x,h3,h4⟩:=shape_enc f h1
  obtain ⟨y,h5,h6⟩:=shapes_enc fs h2
  refine ⟨appR _ _ x y,?_,okR_app _ _ h4 h6⟩
  have:=encR_app f.sts (Ty.stss fs) f.fgs (Ty.fgss fs) x y (Ty.len_fgs f)
  rw[h3,h5] at this
  exact this
end
def Ty.ap (y:Ty):AP:=match y with
 |.st fs=>.agg (zipF (Ty.stss fs) (Ty.fgss fs))
 |.int=>.one (.int .i64) .z
 |.u8=>.one (.int .u8) .z
 |.bool=>.one .bool .z
 |.str=>.one .str .z
 |.sl e=>.one (.sl e.sts) (.sl e.fl e.fgs)
theorem zipF_fst:∀ (ts:List ST) (fs:List Fg),fs.length=ts.length→(zipF ts fs).map (·.1)=ts∧(zipF ts fs).map (·.2)=fs
 |[],[],_=>⟨rfl,rfl⟩
 |t :: ts,f :: fs,h=>by
  obtain ⟨h1,h2⟩:=zipF_fst ts fs (by simpa using h)
  simp only[zipF,List.map_cons,h1,h2]
  exact ⟨trivial,trivial⟩
 |[],_ :: _,h=>by simp at h
 |_ :: _,[],h=>by simp at h
theorem Ty.ap_cts (y:Ty):(y.ap.cts).map (·.1)=y.sts∧(y.ap.cts).map (·.2)=y.fgs:=by
 cases y with
 |st fs=>exact zipF_fst _ _ (Ty.len_fgss fs)
 |_=>exact ⟨rfl,rfl⟩
end TM
namespace TM
open Go Go.RowKit Go.ChangeShapes Go.WideShapes
theorem Cl.ext' {c:Cl} {t:ST} {f:Fg} (h:(c.t,c.f)=(t,f)):∃ x:V t,c=⟨t,f,x⟩:=by
 obtain ⟨t',f',x⟩:=c
 simp only[Prod.mk.injEq] at h
 obtain ⟨rfl,rfl⟩:=h
 exact ⟨x,rfl⟩
theorem ofRow_ex:∀ (r:List (ST×Fg)) (cs:List Cl),cs.map (fun c=>(c.t,c.f))=r→(∀ c∈cs,okV c.t c.x)→∃ x:R (cts r),ofRow r x=cs∧okR (cts r) x
 |[],[],_,_=>⟨(),rfl,okR_nil⟩
 |(t,f) :: r,c :: cs,h,k=>by
  rw[List.map_cons,List.cons.injEq] at h
  obtain ⟨x,rfl⟩:=Cl.ext' h.1
  obtain ⟨y,hy,ho⟩:=ofRow_ex r cs h.2 fun c hc=>k c (by simp [hc])
  refine ⟨consR t (cts r) x y,?_,okR_cons (k ⟨t,f,x⟩ (by simp)) ho⟩
  show (⟨t,f,headR t (cts r) (consR t (cts r) x y)⟩:Cl) :: ofRow r (tailR t (cts r) (consR t (cts r) x y))=_
  rw[head_cons,tail_cons,hy]
 |[],_ :: _,h,_=>by simp at h
 |_ :: _,[],h,_=>by simp at h
theorem cells_okR:∀ (r:List ST) (fs:List Fg) (x:R r),fs.length=r.length→okR r x→∀ c∈cellsOf r fs x,okV c.t c.x
 |[],_,_,_,_=>fun c hc=>by simp [cellsOf] at hc
 |t :: r,f :: fs,x,hl,h=>fun c hc=>by
  rw[cellsOf,List.mem_cons] at hc
  rcases hc with rfl | hc
  ·exact (okR_head h).1
  ·exact cells_okR r fs _ (by simpa using hl) (okR_head h).2 c hc
 |_ :: _,[],_,hl,_=>by simp at hl
theorem cells_cts:∀ (r:List ST) (fs:List Fg) (x:R r),fs.length=r.length→(cellsOf r fs x).map (fun c=>(c.t,c.f))=zipF r fs
 |[],[],_,_=>rfl
 |t :: r,f :: fs,x,hl=>by rw[cellsOf,List.map_cons,cells_cts r fs _ (by simpa using hl),zipF]
 |[],_ :: _,_,hl=>by simp at hl
 |_ :: _,[],_,hl=>by simp at hl
theorem Ty.ap_zip (y:Ty):y.ap.cts=zipF y.sts y.fgs:=by
 cases y with
 |st fs=>rfl
 |_=>rfl
theorem arg_cells (y:Ty) {ts:List T} (h:shape y ts):∃ cs:List Cl,cs.map (fun c=>(c.t,c.f))=y.ap.cts∧encs cs=ts∧∀ c∈cs,okV c.t c.x:=by
 obtain ⟨x,h1,h2⟩:=shape_enc y h
 exact ⟨cellsOf y.sts y.fgs x,by rw[cells_cts _ _ _ y.len_fgs,Ty.ap_zip],by rw[encs_cellsOf,h1],cells_okR _ _ _ y.len_fgs h2⟩
section
variable {H:Type} {enc:TypeId×Value→H} {P:Program} {W:World}
def tysOf (P:Program):List Ty→List TypeId→Bool
 |[],[]=>true
 |y :: ys,t :: ts=>tyIs P y t&&tysOf P ys ts
 |_,_=>false
theorem given_of {y:Ty} {t:TypeId} {b0:Nat} {r:Reach} {v:Value} {ts:List T} (ht:tyIs P y t=true) (hv:Value.okWide P W r b0 t v) (hs:shape y ts) (hr:RepL (allFz W) W noLab noWhere 0 ts v.cells.toList) (hl:v.cells.toList.length=y.size):(y.ap.arg ts).given0 W v:=by
 cases y with
 |st fs=>
  rw[tyIs] at ht
  split at ht
  ·rename_i fields hu
   unfold Value.okWide at hv
   rw[hu] at hv
   obtain ⟨cs,rfl,h1,_⟩:=hv
   refine ⟨cs,rfl,?_,hr⟩
   have:=shape_length _ hs
   simp only[Value.cells,Array.length_toList] at hl
   omega
  ·cases ht
 |int=>
  rw[tyIs] at ht
  split at ht
  ·rename_i hu
   obtain ⟨n,rfl⟩:=okWide_int hu hv
   rw[shape] at hs
   obtain ⟨m,rfl,_⟩:=hs
   simp only[Value.cells,RepL] at hr
   exact hr.1
  ·cases ht
 |u8=>
  rw[tyIs] at ht
  split at ht
  ·rename_i hu
   obtain ⟨n,rfl⟩:=okWide_int hu hv
   rw[shape] at hs
   obtain ⟨m,rfl,_⟩:=hs
   simp only[Value.cells,RepL] at hr
   exact hr.1
  ·cases ht
 |bool=>
  rw[tyIs] at ht
  split at ht
  ·rename_i hu
   obtain ⟨n,rfl⟩:=okWide_bool hu hv
   rw[shape] at hs
   obtain ⟨m,rfl⟩:=hs
   simp only[Value.cells,RepL] at hr
   exact hr.1
  ·cases ht
 |str=>
  rw[tyIs] at ht
  split at ht
  ·rename_i hu
   obtain ⟨n,rfl⟩:=okWide_string hu hv
   rw[shape] at hs
   obtain ⟨m,rfl,_⟩:=hs
   simp only[Value.cells,RepL] at hr
   exact hr.1
  ·cases ht
 |sl e=>
  rw[tyIs] at ht
  split at ht
  ·rename_i hu
   obtain ⟨a,len,cap,rfl⟩:=okWide_slice hu hv
   rw[shape] at hs
   obtain ⟨m,rfl,_⟩:=hs
   simp only[Value.cells,RepL] at hr
   exact RepC.move (fun f b hz=>⟨hz,rfl⟩) _ (fun b r hb=>by simp [noLab] at hb) hr.1
  ·cases ht
theorem args_open {r:Reach} {b0 base:Nat} {spare:Nat→Bool} {held:Bool}:∀ (ys:List Ty) {ts:List TypeId} {vs:List Value} {ds:List (DataW H)} {ps:List MemPlace},
  tysOf P ys ts=true→DataW.TrodAll enc P W base spare held ts vs ds ps→(∀ (j:Nat) t v,ts[j]?=some t→vs[j]?=some v→Value.okWide P W r b0 t v) →
  vs.length=ys.length∧∃ cs:List Cl,cs.map (fun c=>(c.t,c.f))=(ys.map Ty.ap).flatMap AP.cts∧(∀ c∈cs,okV c.t c.x) ∧
   ∀ (i:Nat) (c:Arg) (v:Value),(argsL (ys.map Ty.ap) (encs cs))[i]?=some c→vs[i]?=some v→c.given0 W v
 |[],[],vs,ds,ps,_,h,_=>by
  obtain ⟨rfl,_,_⟩:=trodAll_nil h
  exact ⟨rfl,[],rfl,fun c hc=>by simp at hc,fun i c v hc=>by simp [argsL] at hc⟩
 |[],_ :: _,_,_,_,ht,_,_=>by simp [tysOf] at ht
 |_ :: _,[],_,_,_,ht,_,_=>by simp [tysOf] at ht
 |y :: ys,t :: ts,vs,ds,ps,ht,h,hv=>by
  simp only[tysOf,Bool.and_eq_true] at ht
  obtain ⟨v,vs',d,ds',p,q,rfl,rfl,rfl,h0,h1⟩:=trodAll_cons h
  obtain ⟨n,hn⟩:=h0
  obtain ⟨tr,k1,k2,k3⟩:=trod_rep (Z:=allFz W) (w:=W) (fun f b hf hb=>by cases f;exact absurd rfl hf;exact hb;exact .inl hb) y ht.1 hn
  obtain ⟨cs,c1,c2,c3⟩:=arg_cells y k1
  obtain ⟨e1,cs',e2,e3,e4⟩:=args_open ys ht.2 h1 fun j t v hj hv'=>hv (j+1) t v (by simpa using hj) (by simpa using hv')
  have hlen:cs.length=y.ap.len:=by
   have:=congrArg List.length c1
   rw[List.length_map] at this
   rw[this]
   cases y<;>rfl
  refine ⟨by simp [e1],cs++cs',by rw[List.map_append,c1,e2];rfl,fun c hc=>(List.mem_append.1 hc).elim (c3 c) (e3 c),fun i c v' hc hv'=>?_⟩
  simp only[List.map_cons,argsL] at hc
  have hte:(encs (cs++cs')).take y.ap.len=encs cs:=by
   unfold encs
   rw[List.map_append,List.take_append_of_le_length (by simp [hlen]),← hlen,List.take_of_length_le (by simp)]
  have hde:(encs (cs++cs')).drop y.ap.len=encs cs':=by
   unfold encs
   rw[List.map_append,List.drop_append_of_le_length (by simp [hlen]),← hlen,List.drop_of_length_le (by simp),List.nil_append]
  rw[hte,hde] at hc
  cases i with
  |zero=>
   simp only[List.getElem?_cons_zero,Option.some.injEq] at hc hv'
   subst hc
   subst hv'
   rw[c2]
   exact given_of ht.1 (hv 0 t v rfl rfl) k1 k2 k3
  |succ i=>exact e4 i c v' (by simpa using hc) (by simpa using hv')
theorem trodAll_len {base:Nat} {spare:Nat→Bool} {held:Bool}:∀ {ts:List TypeId} {vs:List Value} {ds:List (DataW H)} {ps:List MemPlace},DataW.TrodAll enc P W base spare held ts vs ds ps→ds.length=ts.length
 |[],_,_,_,h=>by obtain ⟨_,rfl,_⟩:=trodAll_nil h;rfl
 |t :: ts,_,_,_,h=>by
  obtain ⟨v,vs',d,ds',p,q,rfl,rfl,rfl,_,h1⟩:=trodAll_cons h
  simp [trodAll_len h1]
theorem fun_outs {f:FuncId} {args:List Arg} {outs:List (List T)} {res:List Arg} (F:Fun P f args outs res):Fun P f args [] res:=by
 refine ⟨F.1,fun C L us h1 h2 h3 h4 h5 h6 h7=>(F.2 C L us h1 h2 h3 h4 h5 h6 h7).mono fun e w' he=>?_⟩
 cases e with
 |returned v=>
  obtain ⟨N,G,st,hs,a,vs,s,_,h⟩:=he
  exact ⟨N,G,st,hs,a,vs,s,trivial,h⟩
 |_=>exact he
theorem argsL_length:∀ (as:List AP) (ts:List T),(argsL as ts).length=as.length
 |[],_=>rfl
 |a :: as,ts=>by simp [argsL,argsL_length as]
theorem law_calls {r:Reach} {b0 base:Nat} {spare:Nat→Bool} {held:Bool} {rec:Rec} (hJ:Right P rec) {ys:List Ty} {ts:List TypeId} {args:Array Value} {ds:List (DataW H)} {ps:List MemPlace}
  (hy:tysOf P ys ts=true) (h:DataW.TrodAll enc P W base spare held ts args.toList ds ps) (hv:∀ (j:Nat) t v,ts[j]?=some t→args.toList[j]?=some v→Value.okWide P W r b0 t v)
  {l:Lb} (hq:l.q=none) (ha:l.args=ys.map Ty.ap) {z:R l.outS} (hz:l.resT (l.cells z)=[.one (.v (.bool true))]) (hp:∀ x:R l.inS,okR l.inS x→rec l x=some z) :
  Calls P l.f args W (fun e w'=>e=.returned (.bool true)∧Below W.heap.size W w'):=by
 obtain ⟨h1,cs,h2,h3,h4⟩:=args_open ys hy h hv
 have hin:l.inT=(ys.map Ty.ap).flatMap AP.cts:=by
  unfold Lb.inT
  rw[hq,ha]
 obtain ⟨x,hx,hok⟩:=ofRow_ex l.inT cs (by rw[hin];exact h2) h3
 have hc:=hJ l x z (hp x hok)
 unfold J at hc
 rw[hq] at hc
 simp only at hc
 rw[hz,hx,ha] at hc
 exact calls_of_fun (fun_outs hc) (by rw[argsL_length,h1,List.length_map]) h4
theorem trodAll_again (hl:laidOutB P=true) {W':World} (hb:Below W.heap.size W W'):∀ {ts:List TypeId} {vs:List Value} {ds:List (DataW H)} {ps:List MemPlace},ts.all (fun t=>P.readableRec t&&decide (t<P.types.size))=true →
  DataW.TrodAll enc P W 0 (fun _=>true) true ts vs ds ps→(∀ x∈ps,x.block<W.heap.size)→DataW.TrodAll enc P W' 0 (fun b=>decide (b<W.heap.size)) true ts vs ds ps
 |[],vs,ds,ps,_,h,_=>by obtain ⟨rfl,rfl,rfl⟩:=trodAll_nil h;exact trodAll_mk0
 |t :: ts,vs,ds,ps,ht,h,hlt=>by
  simp only[List.all_cons,Bool.and_eq_true,decide_eq_true_eq] at ht
  obtain ⟨v,vs',d,ds',p,q,rfl,rfl,rfl,h0,h1⟩:=trodAll_cons h
  exact trodAll_cons_mk (Below.trod hl ht.1.1 ht.1.2 h0 hb fun x hx=>hlt x (by simp [hx])) (trodAll_again hl hb (by simpa using ht.2) h1 fun x hx=>hlt x (by simp [hx]))
theorem law_post {rec:Rec} (hJ:Right P rec) {f:Nat} {fn:Func} {s:ChangeSpec} {apart:Bool} {base:Nat} (hvars:s.vars=[]) {args:Array Value} {ds gs:List (DataW H)} {before:List MemPlace}
  (hval:∀ (j:Nat) t v,fn.params[j]?=some t→args[j]?=some v→Value.okWide P W .any base t v) (hW:DataW.Whole enc P fn.params.toList s.vars apart W args.toList ds gs before)
  {ys:List Ty} (hy:tysOf P ys fn.params.toList=true) (hl:laidOutB P=true) (ht:fn.params.toList.all (fun t=>P.readableRec t&&decide (t<P.types.size))=true)
  {tb:TypeId} (hr:fn.resultTypes=#[tb]) (hb:P.underlying tb=some .bool) (hs:∀ ds:List (DataW H),ds.length=fn.params.size→s.fn H ds={ results:=[.lit (.bool true)],args:=ds })
  {l:Lb} (hf:l.f=f) (hq:l.q=none) (ha:l.args=ys.map Ty.ap) {z:R l.outS} (hz:l.resT (l.cells z)=[.one (.v (.bool true))]) (hp:∀ x:R l.inS,okR l.inS x→rec l x=some z) :
  Calls P f args W (fun e W'=>∃ v,e=.returned v∧s.post enc P fn apart true false false W args v W'):=by
 subst hf
 have hW':=hW
 obtain ⟨p,q,hA,hV,rfl,hfz,hnd⟩:=hW
 rw[hvars] at hV
 obtain ⟨rfl,rfl⟩:=trodVars_none hV
 have hln:=trodAll_len hA
 refine (law_calls hJ hy hA (fun j t v hj hv=>hval j t v (by simpa using hj) (by simpa using hv)) hq ha hz hp).mono fun e W' ⟨he,bel⟩=>?_
 subst he
 have e1:s.fn H (ds++[])={ results:=[.lit (.bool true)],args:=ds }:=by
  rw[List.append_nil]
  exact hs ds (by simpa using hln)
 refine ⟨_,rfl,ds,[],p++[],[],p,[],hW',?_,?_,?_,bel.frame _,fun h=>by cases h⟩
 ·rw[e1,hr]
  exact trodAll_mk1 (shut_bool hb _)
 ·rw[e1]
  exact trodAll_again hl bel ht hA fun x hx=>hA.lt x (by simpa using hx)
 ·rw[e1,hvars]
  rfl
end
end TM
namespace TM
def lookTb:List (Nat×List Lb)→Nat→List Lb
 |[],_=>[]
 |(f,ls) :: r,g=>match Nat.beq f g with
  |true=>ls
  |false=>lookTb r g
end TM
