/- Part 2 of a machine that runs the functions of a program over plain values, and of the proof that its runs are runs of the program. No condition. -/
import Derived.Test.YtkjkeabihljjhacGreatMA0
import Derived.Lib.SliceRun
import Derived.ChangeArms
import Derived.Below
namespace Go.Proofs.YtkjkeabihljjhacGreat
namespace TM
open Go
theorem run_clear1 {P:Program} (w:World) (t e ty:TypeId) (zv z:Value) (ht:P.underlying t=some (.slice e)) (hv:∀ w,(zeroValue e).run P w=.ok zv w) (hz:zv.cells=#[z]) (h1:z.oneCell'=true) (b o n c:Nat) (hn:0<n)
  (hc:∀ j,j<n→(w.cell? ⟨b,o+j,none⟩).isSome=true) (hf:∀ j,j<n→w.frozen? ⟨b,o+j,none⟩=false) :
  (Builtin.clear_ #[t] ty #[.slice (some ⟨b,o,none⟩) n c]).run P w=.ok (.tuple #[]) (w.setCells b o (List.replicate n z)):=by
 have hzc:(Builtin.zeroCells zv.cells n).toList=List.replicate n z:=by
  rw[hz]
  simp [Builtin.zeroCells]
  apply List.ext_getElem
  ·simp
  ·intro i h1 h2
   simp [Nat.mod_one]
 have hst:=run_storeCells_cells (P:=P) b o (List.replicate n z) 0 w (by simpa using hc) (by simpa using hf) (by intro v hv';rw[List.eq_of_mem_replicate hv'];exact h1)
 simp only[Nat.add_zero] at hst
 obtain ⟨m,rfl⟩:∃ m,n=m+1:=⟨n-1,by omega⟩
 simp [Builtin.clear_,run_underlying ht,hv,hzc,hst]
theorem setAt_elem:∀ (p:List Nat) {cs r:List T} {es:List (List T)} {e:List T} {i:Nat} {x:T},rowAt cs p=some (.sl .own es :: r)→es[i]?=some e→0<e.length →
  ∃ cs',setAt cs (p++[i,0]) x=some cs'∧setAt cs p (.sl .own (es.set i (e.set 0 x)))=some cs'
 |[],_,_,_,_,_,_,h,_,_=>by simp [rowAt] at h
 |[c],cs,r,es,e,i,x,h,he,hl=>by
  simp only[rowAt,Option.some.injEq] at h
  have hc:c<cs.length:=by
   rcases Nat.lt_or_ge c cs.length with h' | h'
   ·exact h'
   ·rw[List.drop_eq_nil_of_le h'] at h;cases h
  refine ⟨_,?_,by rw[setAt,if_pos hc]⟩
  show setAt cs (c :: i :: [0]) x=_
  simp only[setAt,h,he,if_pos hl]
 |c :: j :: rest,cs,r,es,e,i,x,h,he,hl=>by
  simp only[rowAt] at h
  split at h
  ·rename_i es0 r0 hd
   split at h
   ·rename_i e0 he0
    obtain ⟨e1,k1,k2⟩:=setAt_elem rest (x:=x) h he hl
    refine ⟨cs.set c (.sl .own (es0.set j e1)),?_,?_⟩
    ·show setAt cs (c :: j :: (rest++[i,0])) x=_
     simp only[setAt,hd,he0,k1]
    ·simp only[setAt,hd,he0,k2]
   ·cases h
  ·cases h
theorem setAt_id:∀ (p:List Nat) {cs r:List T} {y:T},rowAt cs p=some (y :: r)→setAt cs p y=some cs
 |[],_,_,_,h=>by simp [rowAt] at h
 |[c],cs,r,y,h=>by
  simp only[rowAt,Option.some.injEq] at h
  have hc:c<cs.length:=by
   rcases Nat.lt_or_ge c cs.length with h' | h'
   ·exact h'
   ·rw[List.drop_eq_nil_of_le h'] at h;cases h
  rw[setAt,if_pos hc,set_same (drop_head h)]
 |c :: j :: rest,cs,r,y,h=>by
  simp only[rowAt] at h
  split at h
  ·rename_i es0 r0 hd
   split at h
   ·rename_i e0 he0
    have:=setAt_id rest h
    simp only[setAt,hd,he0,this]
    rw[set_same he0,set_same (drop_head hd)]
   ·cases h
  ·cases h
theorem setAt_at:∀ (p:List Nat) {cs r:List T} {y:T} (x:T),rowAt cs p=some (y :: r)→∃ cs',setAt cs p x=some cs'
 |[],_,_,_,_,h=>by simp [rowAt] at h
 |[c],cs,r,y,x,h=>by
  simp only[rowAt,Option.some.injEq] at h
  have hc:c<cs.length:=by
   rcases Nat.lt_or_ge c cs.length with h' | h'
   ·exact h'
   ·rw[List.drop_eq_nil_of_le h'] at h;cases h
  exact ⟨_,by rw[setAt,if_pos hc]⟩
 |c :: j :: rest,cs,r,y,x,h=>by
  simp only[rowAt] at h
  split at h
  ·rename_i es0 r0 hd
   split at h
   ·rename_i e0 he0
    obtain ⟨e1,k⟩:=setAt_at rest x h
    refine ⟨cs.set c (.sl .own (es0.set j e1)),?_⟩
    simp only[setAt,hd,he0,k]
   ·cases h
  ·cases h
theorem setAt_twice:∀ (p:List Nat) {cs c1 c2:List T} {x y:T},setAt cs p x=some c1→setAt cs p y=some c2→setAt c1 p y=some c2
 |[],_,_,_,_,_,h,_=>by simp [setAt] at h
 |[c],cs,c1,c2,x,y,h,h'=>by
  obtain ⟨k1,k2⟩:=setAt_lt h
  obtain ⟨_,k3⟩:=setAt_lt h'
  subst k2 k3
  simp only[setAt,List.length_set,if_pos k1,List.set_set]
 |c :: j :: rest,cs,c1,c2,x,y,h,h'=>by
  obtain ⟨es,r,e,e',a1,a2,a3,a4⟩:=setAt_some h
  obtain ⟨es2,r2,e2,e2',b1,b2,b3,b4⟩:=setAt_some h'
  rw[a1] at b1
  simp only[List.cons.injEq,T.sl.injEq,true_and] at b1
  obtain ⟨b11,_⟩:=b1
  subst b11
  rw[a2] at b2
  cases b2
  have k:=setAt_twice rest a3 b3
  have hc:c<cs.length:=(List.getElem?_eq_some_iff.1 (drop_head a1)).1
  have hj:j<es.length:=(List.getElem?_eq_some_iff.1 a2).1
  subst a4 b4
  have hd:(cs.set c (.sl .own (es.set j e'))).drop c=.sl .own (es.set j e') :: cs.drop (c+1):=by
   rw[head_drop (x:=.sl .own (es.set j e')) (by simp [hc])]
   rw[List.drop_set_of_lt (by omega)]
  simp only[setAt,hd]
  rw[List.getElem?_set_self hj]
  simp only[k,List.set_set]
section
variable {C:Ctx} {G:Gh} {st st':St} {a:Act} {w:World}
theorem Sim.holdV {z:Value} (s:Sim C G st [] a w) (hz:z.oneCell'=true):Sim C G st [(.v z,z)] a w where
 inj:=s.inj
 lab:=s.lab
 zone:=s.zone
 fresh:=s.fresh
 zin:=s.zin
 old:=s.old
 size:=s.size
 rest:=s.rest
 box:=s.box
 held:=by
  intro j x u h
  cases j with
  |zero=>
   simp only[List.getElem?_cons_zero,Option.some.injEq,Prod.mk.injEq] at h
   obtain ⟨h1,h2⟩:=h
   subst h1 h2
   rw[RepC];exact ⟨rfl,hz⟩
  |succ j=>simp at h
 slot:=s.slot
 ino:=s.ino
 len:=s.len
 dfr:=s.dfr
theorem oneV_iff {e:List T} (h:oneV e=true):∃ x,e=[.v x]:=by
 unfold oneV at h
 split at h
 ·exact ⟨_,rfl⟩
 ·cases h
theorem clear_sim {n:Nm} {p:List Nat} {t0 lo hi b c:Nat} {z:Value} (hz:z.oneCell'=true) (hlt:lo<hi):∀ (m k:Nat) {G:Gh} {st:St} {w:World} {es:List (List T)} {r:List T},Sim C G st [] a w→st.s t0=.ref n p lo hi →
  a.tmps.getD t0 Go.undef=.slice (some ⟨b,lo,none⟩) (hi-lo) c→rowAt (st.b n).cells p=some (.sl .own es :: r)→(∀ e∈es,∃ x,e=[.v x])→lo≤k→k+m=hi→hi≤es.length →
  (∃ G1 b1,Sim C G1 ⟨st.s,b1⟩ [] a (w.setCells b k (List.replicate m z))∧(∀ q,q≠n→b1 q=st.b q)∧∃ cs',setAt (st.b n).cells p (.sl .own (es.take k++List.replicate m [.v z]++es.drop hi))=some cs'∧b1 n=⟨(st.b n).real,cs'⟩) ∧
  (∀ j,k≤j→j<hi→(w.cell? ⟨b,j,none⟩).isSome=true∧w.frozen? ⟨b,j,none⟩=false):=by
 intro m
 induction m with
 |zero=>
  intro k G st w es r s hs hv hrow hes h1 h2 h3
  have hk:k=hi:=by omega
  subst hk
  refine ⟨⟨G,st.b,s,fun _ _=>rfl,(st.b n).cells,?_,rfl⟩,fun j h4 h5=>by omega⟩
  rw[List.replicate_zero,List.append_nil,List.take_append_drop]
  exact setAt_id p hrow
 |succ m ih=>
  intro k G st w es r s hs hv hrow hes h1 h2 h3
  have hk:k<es.length:=by omega
  have hek:es[k]?=some es[k]:=List.getElem?_eq_getElem hk
  obtain ⟨x0,hx0⟩:=hes _ (List.getElem_mem hk)
  have hst:=s.slot t0
  rw[hs,hv,RepV] at hst
  obtain ⟨es',r',ad,cap,g1,g2,g3,hh,ad',e1,e2⟩:=hst
  rw[hrow] at g1
  cases g1
  obtain ⟨hcl,_,hh⟩:=hh
  rcases hh with ⟨hn,_⟩ | ⟨b',cs0,ty,wd,ha,hwd,hL,hheap,hcap,hwdt⟩
  ·subst hn;simp at hk
  have hw1:wd=1:=by
   rw[← hwdt _ (List.getElem_mem hk),hx0];rfl
  subst hw1
  have hb:b'=b:=by
   have e3:=e2 (.inl hlt)
   subst ha
   simp only[Value.slice.injEq] at e1
   rw[e3] at e1
   cases es with
   |nil=>simp at hk
   |cons e0 es0=>
    have:e0.length=1:=hwdt e0 (by simp)
    simp only[shift,this,Option.map_some,add_off,Option.some.injEq,Addr.mk.injEq] at e1
    exact e1.1.1.symm
  subst hb
  have hrow':rowAt (st.b n).cells (p++[k,0])=some [.v x0]:=by
   have:=rowAt_elem p hrow hek
   rw[hx0] at this
   exact this
  obtain ⟨cs1,hset1,hset2⟩:=setAt_elem p (x:=.v z) hrow hek (by rw[hx0];simp)
  have hhd:hdOf (p++[k,0])=p:=hdOf_elem p hrow
  have s0:Sim C G st [(.v z,z)] a w:=s.holdV hz
  have s1:=(s0.storeOne (j:=0) rfl hrow' hset1 (by rw[hhd];exact hL) (fun h=>by simp at h)).drop
  have hoff:offOf (st.b n).cells 0 (p++[k,0])=k:=by
   rw[offOf_elem p hrow hek,hx0];simp
  rw[hoff] at s1
  have hslots:(fun t=>killV n (p++[k,0]) (st.s t))=st.s:=by
   funext t
   exact kill_idle (bx:=st.b) hrow' (by intro es e;cases e) _ (s.slot t)
  rw[hslots] at s1
  have hset3:setAt (st.b n).cells p (.sl .own (es.set k [.v z]))=some cs1:=by
   rw[hx0] at hset2
   exact hset2
  obtain ⟨r1,hrow1⟩:=rowAt_self p hset3 hrow
  obtain ⟨⟨G2,b2,s2,hoth,cs2,hset4,hb2⟩,hcell⟩:=ih (k+1) (es:=es.set k [.v z]) (r:=r1) s1 hs hv (by simp only[if_true];exact hrow1) (fun e he=>by
   rcases List.mem_or_eq_of_mem_set he with h | h
   ·exact hes e h
   ·exact ⟨z,h⟩) (by omega) (by omega) (by simpa using h3)
  have hsz:k<cs0.size:=by
   rw[hcap]
   omega
  refine ⟨⟨G2,b2,s2,fun q hq=>by rw[hoth q hq];simp only[if_neg hq],cs2,?_,by rw[hb2];simp only[if_true]⟩,fun j hj1 hj2=>?_⟩
  ·simp only[if_true] at hset4
   obtain ⟨cs3,hset5⟩:=setAt_at p (.sl .own (es.take k++List.replicate (m+1) [.v z]++es.drop hi)) hrow
   have h5:=setAt_twice p hset3 hset5
   have e:(es.set k [.v z]).take (k+1)++List.replicate m [.v z]++(es.set k [.v z]).drop hi=es.take k++List.replicate (m+1) [.v z]++es.drop hi:=by
    rw[List.drop_set_of_lt (by omega),List.replicate_succ,List.take_set,List.take_add_one,hek]
    simp only[Option.toList_some]
    rw[List.set_append_right _ _ (by simp;omega)]
    simp
    rw[show k-min k es.length=0 by omega]
    simp
   rw[e] at hset4
   rw[hset4] at h5
   cases h5
   exact hset5
  ·have h0:(w.cell? ⟨b',j,none⟩).isSome=true∧w.frozen? ⟨b',j,none⟩=false:=by
    have hj:j<cs0.size:=by rw[hcap];omega
    exact ⟨by simp [World.cell?,hheap,hj],by simp [World.frozen?,hheap]⟩
   exact h0
theorem op_clear (s:Sim C G st [] a w) {o:Oper} {c:Call} {t0:Nat} (ho:o.op=.call c) (hc:c.callee=.builtin .clear) (hx:c.args.toList=[.tmp t0])
  (h:(opM C.P o).run C.N st=some ((),st')):OpOK C o st' a w:=by
 unfold opM at h;rw[ho] at h
 simp only[hc,hx] at h
 unfold clearM at h
 have hargs:c.args=#[.tmp t0]:=by
  have:=congrArg List.toArray hx
  simpa using this
 split at h
 ·rename_i t hd hat
  split at h
  ·rename_i z hz
   simp only[M.run] at h
   split at h
   ·rename_i n p lo hi hs0
    simp only[M.run] at h
    split at h
    ·rename_i es r hrow
     split at h
     ·rename_i hcond
      obtain ⟨q1,q2,q3⟩:=hcond
      split at h
      ·rename_i cs hset
       cases h
       obtain ⟨el,i,zv,z1,z2,z3,z4,z5,z6,z7,z8⟩:=rowInfo_some hz
       have hzc:zv.cells.toList=[z]∧z.oneCell'=true:=by
        cases hl:zv.cells.toList with
        |nil=>rw[hl] at z4;simp at z4
        |cons y ys=>
         rw[hl] at z4 z5
         cases ys with
         |cons y2 ys2=>simp at z4
         |nil=>
          simp only[List.map_cons,List.map_nil,List.cons.injEq,and_true] at z4
          simp only[List.all_cons,List.all_nil,Bool.and_true] at z5
          have:y=z:=by
           unfold ofC at z4
           split at z4
           ·cases z4
           ·cases z4;rfl
          subst this
          exact ⟨rfl,z5⟩
       obtain ⟨hzc,hz1⟩:=hzc
       have hza:zv.cells=#[z]:=by
        have:=congrArg List.toArray hzc
        simpa using this
       have hes:∀ e∈es,∃ x,e=[.v x]:=fun e he=>oneV_iff (List.all_eq_true.1 q3 e he)
       have hat':c.argTypes=#[t]:=by
        have:=congrArg List.toArray hat
        simpa using this
       have hst:=s.slot t0
       rw[hs0,RepV] at hst
       obtain ⟨es',r',ad,cap,g1,g2,g3,hh,ad',e1,e2⟩:=hst
       rw[hrow] at g1
       cases g1
       have hev:a.eval (.tmp t0)=.slice ad' (hi-lo) (cap-lo):=e1
       have hzv:∀ w,(zeroValue el).run C.P w=.ok zv w:=fun w=>by simp [zeroValue,r_info z2,z3]
       have hargm:c.args.map a.eval=#[a.eval (.tmp t0)]:=by
        rw[hargs];simp
       by_cases hlt:lo<hi
       ·obtain ⟨_,_,hh⟩:=hh
        rcases hh with ⟨hn,_⟩ | ⟨b',cs0,ty,wd,ha,hwd,hL,hheap,hcap,hwdt⟩
        ·subst hn;simp at q2;omega
        have he0:0<es.length:=by omega
        obtain ⟨x0,hx0⟩:=hes _ (List.getElem_mem he0)
        have hw1:wd=1:=by rw[← hwdt _ (List.getElem_mem he0),hx0];rfl
        subst hw1
        have hptr:ad'=some ⟨b',lo,none⟩:=by
         rw[e2 (.inl hlt),ha]
         cases es with
         |nil=>simp at he0
         |cons e0 es0=>
          have:e0.length=1:=hwdt e0 (by simp)
          simp [shift,this,add_off]
        rw[hptr] at e1 hev
        rw[hev] at hargm
        obtain ⟨⟨G1,b1,s1,hoth,cs',hset',hb1⟩,hcell⟩:=clear_sim (b:=b') hz1 hlt (hi-lo) lo s hs0 e1 hrow hes (Nat.le_refl _) (by omega) q2
        have hcs:cs'=cs:=by
         have:setAt (st.b n).cells p (.sl .own (clearL es lo hi z))=some cs':=hset'
         rw[hset] at this
         exact (Option.some.inj this).symm
        subst hcs
        have hbb:b1=fun m=>if m=n then ⟨(st.b n).real,cs'⟩ else st.b m:=by
         funext m
         by_cases hm:m=n
         ·subst hm;rw[if_pos rfl,hb1]
         ·rw[if_neg hm,hoth m hm]
        rw[hbb] at s1
        have hr:=run_clear1 (P:=C.P) w t el o.type zv z z1 hzv hza hz1 b' lo (hi-lo) (cap-lo) (by omega) (fun j hj=>(hcell (lo+j) (by omega) (by omega)).1) (fun j hj=>(hcell (lo+j) (by omega) (by omega)).2)
        refine ⟨G1,_,.tuple #[],.inl ?_,by rw[hd];exact s1⟩
        unfold execOp
        simp only[ho,resolve,hc,hargm,hat',invoke,builtin,Sem.run_bind,Sem.run_pure,Result.andThen_ok,hr]
       ·have hlh:lo=hi:=by omega
        subst hlh
        have hcs:setAt (st.b n).cells p (.sl .own (clearL es lo lo z))=some (st.b n).cells:=by
         unfold clearL
         rw[Nat.sub_self,List.replicate_zero,List.append_nil,List.take_append_drop]
         exact setAt_id p hrow
        rw[hset] at hcs
        have hcs:=Option.some.inj hcs
        subst hcs
        have hbb:(fun m=>if m=n then ⟨(st.b n).real,(st.b n).cells⟩ else st.b m)=st.b:=by
         funext m
         by_cases hm:m=n
         ·subst hm;rw[if_pos rfl]
         ·rw[if_neg hm]
        refine ⟨G,w,.tuple #[],.inl ?_,by rw[hd,hbb];exact s⟩
        unfold execOp
        have hcl:(Builtin.clear_ #[t] o.type #[.slice ad' 0 (cap-lo)]).run C.P w=.ok (.tuple #[]) w:=by
         cases ad'<;>simp [Builtin.clear_,run_underlying z1]
        rw[Nat.sub_self] at hev
        rw[hev] at hargm
        simp only[ho,resolve,hc,hargm,hat',invoke,builtin,Sem.run_bind,Sem.run_pure,Result.andThen_ok,hcl]
      ·cases h
     ·cases h
    ·cases h
   ·cases h
  ·cases h
 ·cases h
end
end TM
namespace TM
open Go
section
variable {C:Ctx} {G:Gh} {st st1 st':St} {hs:List (T×Value)} {a:Act} {w:World}
theorem bounds_run {P:Program} (isSlice:Bool) (len cap:Nat) (low high:Option Value) (x y:Int) (hl:low=none∧x=0∨low=some (.int .i64 x)) (hh:high=none∧y=len∨high=some (.int .i64 y))
  (h0:0≤x) (hxy:x≤y) (hyc:y≤cap):(Instr.sliceBounds isSlice len cap low high none).run P w=.ok (x.toNat,y.toNat,cap) w:=by
 have hy0:0≤y:=by omega
 have hsb:∀ code,(Instr.sliceBound (.int .i64 y) cap code).run P w=.ok y.toNat w:=by
  intro code
  simp [Instr.sliceBound,asIntOf,hy0,hyc]
 have hsa:∀ code,(Instr.sliceBound (.int .i64 x) y.toNat code).run P w=.ok x.toNat w:=by
  intro code
  have hm:x≤(y.toNat:Int):=by omega
  have hc:0≤x∧x≤(y.toNat:Int):=⟨h0,hm⟩
  simp only[Instr.sliceBound,asIntOf,Sem.run_bind,Sem.run_pure,Result.andThen_ok]
  rw[if_pos hc]
  rfl
 rcases hl with ⟨rfl,rfl⟩ | rfl<;>rcases hh with ⟨rfl,rfl⟩ | rfl<;>(simp [Instr.sliceBounds] ;try simp [hsb] )<;>(try simp [hsa])<;>(try (have:=hsa;simp at this;simp [this]))
theorem opt_ev {x:Option Operand} {d:Value} {k:Int} (s:Sim C G st hs a w) (h:st.ev (x.getD (.const d))=some (.t (.v (.int .i64 k)))) (hd:∀ k,ofConst d=.t (.v (.int .i64 k))→d=.int .i64 k) :
  (x=none∧d=.int .i64 k)∨x.map a.eval=some (.int .i64 k):=by
 cases x with
 |none=>
  refine .inl ⟨rfl,?_⟩
  simp only[Option.getD_none,St.ev,Option.some.injEq] at h
  exact hd k h
 |some o=>
  refine .inr ?_
  have:=RepV_v (s.ev h)
  simp only[Option.map_some]
  exact congrArg some this
theorem ofConst_int {n k:Int} (h:ofConst (.int .i64 n)=.t (.v (.int .i64 k))):(Value.int .i64 n)=.int .i64 k:=by
 simp only[ofConst,ofC] at h
 cases h
 rfl
theorem add_add (b o i j:Nat):((⟨b,o,none⟩:Addr).add i).add j=(⟨b,o,none⟩:Addr).add (i+j):=by
 simp only[add_off,Nat.add_assoc]
theorem RepC.window {Z:Fl→Nat→Prop} {L:Labs} {l:Lab} {f:Fl} {es:List (List T)} {ad:Option Addr} {n cap wd x y:Nat} (hf:f≠.own) (h:RepC Z w L l (.sl f es) (.slice ad n cap)) (hw:∀ e∈es,e.length=wd) (hxy:x≤y) (hy:y≤es.length) :
  RepC Z w L l (.sl f ((es.take y).drop x)) (.slice (if cap=x then ad else ad.map (·.add (x * wd))) (y-x) (cap-x)):=by
 rw[RepC] at *
 obtain ⟨a,cap',hu,h1,h2,h3⟩:=h
 cases hu
 have hlen:((es.take y).drop x).length=y-x:=by simp;omega
 refine ⟨_,cap-x,by rw[hlen],by omega,by omega,?_⟩
 by_cases hnil:(es.take y).drop x=[]
 ·exact .inl ⟨hnil,fun h=>(hf h).elim⟩
 ·have hlt:x<y:=by
   rcases Nat.lt_or_ge x y with h | h
   ·exact h
   ·exact (hnil (List.length_eq_zero_iff.1 (by omega))).elim
  rcases h3 with ⟨h,_⟩ | ⟨b,off,vs,ty,fr,wd',ha,hwd,hh,hsz,hes,ho,hz,hr⟩
  ·subst h;simp at hnil
  ·have hne:es≠[]:=by intro h;subst h;simp at hnil
   have hww:wd'=wd:=by
    cases es with
    |nil=>exact (hne rfl).elim
    |cons e es=>rw[← hes e (by simp),hw e (by simp)]
   subst hww
   refine .inr ⟨b,off+x * wd',vs,ty,fr,wd',?_,⟨hwd.1,fun h=>(hf h).elim⟩,hh,?_,fun e he=>hes e (List.mem_of_mem_take (List.mem_of_mem_drop he)),fun h=>(hf h).elim,hz,?_⟩
   ·rw[if_neg (by omega),ha]
    simp only[Option.map_some,add_off]
   ·rw[hlen]
    have:x * wd'+(y-x) * wd'=y * wd':=by rw[← Nat.add_mul];congr 1;omega
    have:y * wd'≤es.length * wd':=Nat.mul_le_mul_right _ hy
    omega
   ·have e1:f.labs L=noLab:=by cases f<;>simp_all [Fl.labs]
    rw[e1] at hr ⊢
    refine RepLL.of_get (wd:=wd') (fun e he=>hes e (List.mem_of_mem_take (List.mem_of_mem_drop he))) fun i e he=>?_
    rw[List.getElem?_drop,List.getElem?_take] at he
    split at he
    ·have:=RepLL.get hes hr _ e he
     rw[List.drop_drop] at this ⊢
     rw[show off+x * wd'+i * wd'=off+(x+i) * wd' by rw[Nat.add_mul];omega]
     exact this.any
    ·cases he
theorem op_slice (s:Sim C G st [] a w) {o:Oper} {t:TypeId} {x:Operand} {lo hi mx:Option Operand} (ho:o.op=.slice t x lo hi mx) (h:(opM C.P o).run C.N st=some ((),st')):OpOK C o st' a w:=by
 unfold opM at h;rw[ho] at h
 cases mx with
 |some mx=>simp only at h;cases h
 |none=>
 simp only at h
 obtain ⟨v,hv,h⟩:=run_ev_some h
 obtain ⟨l,hl,h⟩:=run_ev_some h
 have he:=s.ev hv
 split at h
 ·rename_i str _
  obtain ⟨hh,hhv,h⟩:=run_ev_some h
  split at h
  ·rename_i p q ht _
   split at h
   ·rename_i hb
    have hs:=RepV_v he
    have e1:=opt_ev s hl (fun k=>ofConst_int)
    have e2:=opt_ev s hhv (fun k=>ofConst_int)
    have hbr:=bounds_run (P:=C.P) (w:=w) false str.size str.size (lo.map a.eval) (hi.map a.eval) p q
     (by rcases e1 with ⟨rfl,e⟩ | e
         ·left;cases e;exact ⟨rfl,rfl⟩
         ·exact .inr e)
     (by rcases e2 with ⟨rfl,e⟩ | e
         ·left;cases e;exact ⟨rfl,rfl⟩
         ·exact .inr e) hb.1 hb.2.1 hb.2.2
    refine OpOK.of_out s ?_ (RepV_mk (.string (str.extract p.toNat q.toNat))) h
    unfold execOp;rw[ho]
    refine exec_v ?_
    simp [Instr.sliceAt,Instr.slice,r_und ht,hs,hbr]
   ·cases h
  ·cases h
 ·rename_i f es _
  obtain ⟨hh,hhv,h⟩:=run_ev_some h
  split at h
  ·rename_i p q _
   split at h
   ·rename_i hb
    obtain ⟨b1,b2,b3,b4,b5,b6⟩:=hb
    obtain ⟨z,hz⟩:=Option.isSome_iff_exists.1 b5
    obtain ⟨e,i,zv,h1,h2,h3,h4,h5,h6,h7,h8⟩:=rowInfo_some hz
    rw[hz,Option.getD_some] at b6
    rw[RepV] at he
    have he':=he
    rw[RepC] at he'
    obtain ⟨ad,cap,hu,g1,g2,_⟩:=he'
    have e1:=opt_ev s hl (fun k=>ofConst_int)
    have e2:=opt_ev s hhv (fun k=>ofConst_int)
    have hbr:=bounds_run (P:=C.P) (w:=w) true es.length cap (lo.map a.eval) (hi.map a.eval) p q
     (by rcases e1 with ⟨rfl,e⟩ | e
         ·left;cases e;exact ⟨rfl,rfl⟩
         ·exact .inr e)
     (by rcases e2 with ⟨rfl,e⟩ | e
         ·left;cases e;exact ⟨rfl,rfl⟩
         ·exact .inr e) b1 b2 (by omega)
    rw[hu] at he
    have hw:=he.window b4 b6 (x:=p.toNat) (y:=q.toNat) (by omega) (by omega)
    refine OpOK.of_out s (u:=.slice (if cap=p.toNat then ad else ad.map (·.add (p.toNat * z.length))) (q.toNat-p.toNat) (cap-p.toNat)) ?_ (by rw[RepV];exact hw) h
    unfold execOp;rw[ho]
    refine exec_v ?_
    simp [Instr.sliceAt,Instr.slice,r_und h1,hu,hbr,r_size h2,h6]
   ·cases h
  ·cases h
 ·rename_i n p0 lo' hi' _
  simp only[M.run] at h
  split at h
  ·rename_i es r hrow
   obtain ⟨hh,hhv,h⟩:=run_ev_some h
   split at h
   ·rename_i p q _
    split at h
    ·rename_i hb
     obtain ⟨b1,b2,b3,b5,b6⟩:=hb
     obtain ⟨z,hz⟩:=Option.isSome_iff_exists.1 b5
     obtain ⟨e,i,zv,h1,h2,h3,h4,h5,h6,h7,h8⟩:=rowInfo_some hz
     rw[hz,Option.getD_some] at b6
     rw[RepV] at he
     obtain ⟨es',r',ad,cap,g1,g2,g3,g4,a',hu,g5⟩:=he
     rw[hrow] at g1
     cases g1
     have e1:=opt_ev s hl (fun k=>ofConst_int)
     have e2:=opt_ev s hhv (fun k=>ofConst_int)
     have hcap:es.length≤cap:=g4.1
     have hbr:=bounds_run (P:=C.P) (w:=w) true (hi'-lo') (cap-lo') (lo.map a.eval) (hi.map a.eval) p q
      (by rcases e1 with ⟨rfl,e⟩ | e
          ·left;cases e;exact ⟨rfl,rfl⟩
          ·exact .inr e)
      (by rcases e2 with ⟨rfl,e⟩ | e
          ·left;cases e;exact ⟨rfl,by omega⟩
          ·exact .inr e) b1 b2 (by omega)
     refine OpOK.of_out s (u:=.slice (if cap-lo'=p.toNat then a' else a'.map (·.add (p.toNat * z.length))) (q.toNat-p.toNat) (cap-lo'-p.toNat)) ?_ ?_ h
     ·unfold execOp;rw[ho]
      refine exec_v ?_
      simp [Instr.sliceAt,Instr.slice,r_und h1,hu,hbr,r_size h2,h6]
     ·rw[RepV]
      refine ⟨es,r,ad,cap,hrow,by omega,by omega,g4,(if cap-lo'=p.toNat then a' else a'.map (·.add (p.toNat * z.length))),?_,fun hc=>?_⟩
      ·congr 1
       ·omega
       ·omega
      ·rcases g4 with ⟨_,_,⟨hn,hc0⟩ | ⟨b,cs,ty,wd,ha,hwd,hL,hhp,hcs,hes⟩⟩
       ·subst hn
        subst hc0
        simp at hcap g3
        have hl0:lo'=0:=by omega
        subst hl0
        have:=g5 (.inr rfl)
        rw[if_pos (by omega),this]
        simp [shift]
       ·cases es with
        |nil=>exact (hwd.2 rfl).elim
        |cons e0 es0=>
         have hz0:=b6 e0 (by simp)
         have hlo:lo'<hi'∨lo'=0:=by omega
         have:=g5 hlo
         rw[this,ha]
         simp only[shift,Option.map_some]
         split
         ·rename_i hcp
          have:p.toNat=0:=by
           rcases hc with hc | hc
           ·omega
           ·omega
          rw[this,Nat.add_zero]
         ·rw[add_add,hz0,Nat.add_mul]
    ·cases h
   ·cases h
  ·cases h
 ·cases h
theorem bytes_vals {Z:Fl→Nat→Prop} {L:Labs} {l:Lab}:∀ {es:List (List T)} {i:Nat} {us:List Value} {bs:List UInt8},RepLL Z w L l i es us→bytesL es=some bs→∃ ns:List Int,us.take es.length=ns.map (Value.int .u8)∧bs=ns.map (fun n=>UInt8.ofNat n.toNat)∧∀ e∈es,e.length=1
 |[],i,us,bs,_,h=>by
  simp only[bytesL,Option.some.injEq] at h
  subst h
  exact ⟨[],by simp,rfl,fun e he=>by simp at he⟩
 |e :: es,i,us,bs,hr,h=>by
  unfold bytesL at h
  split at h
  ·rename_i heq;cases heq
  ·rename_i n es' heq
   cases heq
   split at h
   ·rename_i bs' hb
    simp only[Option.some.injEq] at h
    subst h
    rw[RepLL] at hr
    cases us with
    |nil=>have:=hr.1;rw[RepL] at this;exact this.elim
    |cons u us=>
     have h1:=hr.1
     rw[RepL,RepC] at h1
     obtain ⟨ns,q1,q2,q3⟩:=bytes_vals hr.2 hb
     refine ⟨n :: ns,?_,by rw[q2];rfl,fun e he=>?_⟩
     ·simp only[List.length_cons,List.length_nil,List.drop_succ_cons,List.drop_zero] at q1
      simp only[List.length_cons,List.take_succ_cons,q1,List.map_cons,h1.1.1]
     ·rcases List.mem_cons.1 he with rfl | he
      ·rfl
      ·exact q3 e he
   ·cases h
  ·cases h
theorem bytes_run {P:Program} {Z:Fl→Nat→Prop} {L:Labs} {l:Lab} {f:Fl} {es:List (List T)} {u:Value} {bs:List UInt8} {src dst e:TypeId} (hs:P.underlying src=some (.slice e)) (he:P.underlying e=some (.int .u8)) (hd:P.underlying dst=some .string)
  (h:RepC Z w L l (.sl f es) u) (hb:bytesL es=some bs):(convert src dst u).run P w=.ok (.string ⟨bs.toArray⟩) w:=by
 rw[RepC] at h
 obtain ⟨ad,cap,rfl,_,_,h⟩:=h
 rw[run_convert_bytes_string w src dst e _ _ _ hs he hd]
 have nil:es=[]→(Conv.bytesToString (.slice ad es.length cap)).run P w=.ok (.string ⟨bs.toArray⟩) w:=by
  rintro rfl
  simp only[bytesL,Option.some.injEq] at hb
  subst hb
  cases ad with
  |none=>simp [Conv.bytesToString];rfl
  |some a=>simp [Conv.bytesToString,loadCells,loadCellsFrom];rfl
 rcases h with ⟨h,_⟩ | ⟨b,off,cs,ty,fr,wd,rfl,_,h3,h4,h5,_,_,h8⟩
 ·exact nil h
 ·cases es with
  |nil=>exact nil rfl
  |cons e0 es0=>
   obtain ⟨ns,q1,q2,q3⟩:=bytes_vals h8 hb
   have hwd:wd=1:=by rw[← h5 e0 (by simp),q3 e0 (by simp)]
   subst hwd
   rw[Nat.mul_one] at h4
   have hl:=r_loadCells (P:=P) (n:=(e0 :: es0).length) h3 h4
   rw[q1] at hl
   rw[run_bytesToString w _ _ _ ns hl,foldl_push_bytes,q2]
   simp [ByteArray.empty,ByteArray.emptyWithCapacity]
   rfl
theorem Sim.ref_rep (s:Sim C G st hs a w) {n:Nm} {p:List Nat} {es:List (List T)} {r:List T} {u:Value} (hrow:rowAt (st.b n).cells p=some (.sl .own es :: r)) (hu:RepV C G w st.b (.ref n p 0 es.length) u):∃ L l,RepC (C.Z G) w L l (.sl .own es) u:=by
 obtain ⟨urow,blk,off,k1,k2,_,k4⟩:=s.place hrow
 cases hur:urow with
 |nil=>rw[hur,RepL] at k2;exact k2.elim
 |cons hv us1=>
 have e0:=pathLab_last p (l:=(.box n,[])) hrow
 rw[hur,RepL,e0] at k2
 have h1:=k2.1
 have h0:=h1
 rw[RepC] at h1
 obtain ⟨ad,cap,hhv,g1,g2,g3⟩:=h1
 rw[RepV] at hu
 obtain ⟨es2,r2,ad2,cap2,q1,q2,q3,⟨q4,q5,q6⟩,a',q7,q8⟩:=hu
 rw[hrow] at q1
 cases q1
 have ha':=q8 (.inr rfl)
 rw[shift_zero] at ha'
 subst ha'
 rcases q6 with ⟨e1,e2⟩ | ⟨b2,vs2,ty2,wd2,h1,h2,h3,h4,h5,h6⟩
 ·subst e1
  subst e2
  exact ⟨G.L,(.box n,p),by rw[RepC];exact ⟨a',0,by rw[q7];rfl,Nat.le_refl _,by omega,.inl ⟨rfl,fun _=>rfl⟩⟩⟩
 ·rcases g3 with ⟨e1,_⟩ | ⟨b,o,vs,ty,fr,wd,e1,e2,e3,e4,e5,e6,e7,e8⟩
  ·exact absurd e1 h2.2
  ·obtain ⟨o1,o2,o3,o4⟩:=e6 rfl
   have hbb:=s.inj _ _ _ o1 (by simpa using h3)
   subst hbb
   rw[e3] at h4
   cases h4
   have hwd:wd=wd2:=by
    cases es with
    |nil=>exact absurd rfl h2.2
    |cons e es=>rw[← e5 e (by simp),← h6 e (by simp)]
   subst hwd
   have hcap:cap=cap2:=Nat.eq_of_mul_eq_mul_right h2.1 (o4.symm.trans h5)
   have:u=hv:=by rw[hhv,q7,e1,h1,o2,hcap];rfl
   subst this
   exact ⟨_,_,h0⟩
theorem op_convert (s:Sim C G st [] a w) {o:Oper} {t t2:TypeId} {x:Operand} (ho:o.op=.convert t t2 x) (h:(opM C.P o).run C.N st=some ((),st')):OpOK C o st' a w:=by
 unfold opM at h;rw[ho] at h
 simp only at h
 split at h
 ·rename_i k0 k h1 h2
  obtain ⟨v,hv,h⟩:=run_ev_some h
  have he:=s.ev hv
  split at h
  ·have e:=RepV_v he
   refine OpOK.of_out s ?_ (RepV_mk _) h
   unfold execOp;rw[ho]
   refine exec_v ?_
   simp [convert,r_und h1,r_und h2,e,Conv.intToInt]
  ·cases h
 ·rename_i h1 h2
  obtain ⟨v,hv,h⟩:=run_ev_some h
  have he:=s.ev hv
  split at h
  ·have e:=RepV_v he
   refine OpOK.of_out s ?_ (RepV_mk _) h
   unfold execOp;rw[ho]
   refine exec_v ?_
   simp [convert,r_und h1,r_und h2,e]
  ·cases h
 ·rename_i el h1 h2
  split at h
  ·rename_i h3
   obtain ⟨v,hv,h⟩:=run_ev_some h
   have he:=s.ev hv
   split at h
   ·rename_i f es
    split at h
    ·rename_i bs hb
     rw[RepV] at he
     refine OpOK.of_out s ?_ (RepV_mk _) h
     unfold execOp;rw[ho]
     exact exec_v (bytes_run h1 h3 h2 he hb)
    ·cases h
   ·rename_i n p hi
    simp only[M.run] at h
    split at h
    ·rename_i es r hrow
     split at h
     ·rename_i bs hb
      split at h
      ·rename_i hhi
       subst hhi
       obtain ⟨L,l,hr⟩:=s.ref_rep hrow he
       refine OpOK.of_out s ?_ (RepV_mk _) h
       unfold execOp;rw[ho]
       exact exec_v (bytes_run h1 h3 h2 hr hb)
      ·cases h
     ·cases h
    ·cases h
   ·cases h
  ·cases h
 ·cases h
theorem op_all (s:Sim C G st [] a w) {o:Oper} (h:(opM C.P o).run C.N st=some ((),st')):OpOK C o st' a w:=by
 cases ho:o.op with
 |move x=>exact op_move s (.inl ho) h
 |assign x=>exact op_move s (.inr ho) h
 |pick c x y=>exact op_pick s ho h
 |alloc t=>exact op_alloc s ho h
 |box t x=>exact op_box s ho h
 |build t ps=>exact op_build s ho h
 |buildSlice t n ps=>exact op_buildSlice s ho h
 |makeSlice t l c=>exact op_makeSlice s ho h
 |load t x=>exact op_load s ho h
 |store t x y=>exact op_store s ho h
 |nilCheck x=>exact op_nilCheck s ho h
 |binOp b t x y t2=>exact op_binOp s ho h
 |unOp b t x=>exact op_unOp s ho h
 |fieldAddr t x f=>exact op_fieldAddr s ho h
 |field t x f=>exact op_field s ho h
 |indexAddr t x i=>exact op_indexAddr s ho h
 |index t x i=>exact op_index s ho h
 |extract x i=>exact op_extract s ho h
 |makeFunc g f c=>exact op_makeFunc s ho h
 |slice t x lo hi mx=>exact op_slice s ho h
 |convert t t2 x=>exact op_convert s ho h
 |call c=>
  have h':=h
  unfold opM at h'
  rw[ho] at h'
  simp only at h'
  split at h'
  ·rename_i hc hx;exact op_len s ho hc hx h
  ·rename_i hc hx;exact op_max s ho hc hx h
  ·rename_i hc hx;exact op_append s ho hc h
  ·rename_i hc hx;exact op_clear s ho hc hx h
  ·cases h'
 |_=>unfold opM at h;rw[ho] at h;cases h
end
end TM
namespace TM
open Go
def It.item:It→Item
 |.c x=>.code x
 |.blk id=>.inBlock id
 |.lp x=>.inLoop x
 |.ops all rest=>.inRegion all ((List.range all.size).drop (all.size-rest.length))
def WF:It→Prop
 |.ops all rest=>∃ pre,all.toList=pre++rest
 |_=>True
def FinAt (P:Program) (f:FuncId) (R:Value→World→Prop) (k:List It) (a:Act) (w:World):Prop:=
 ∀ (b:Frame) (cs:List Frame),b.fn=f→b.kind=.normal→∃ v w' fr,R v w'∧Steps P (lone (b.at a (k.map It.item)) cs w) (lone fr cs w')∧fr.fn=f∧fr.leaving P w' (.returned v)
def Good (C:Ctx) (f:FuncId) (R:Value→World→Prop) (k:List It) (st:St):Prop:=
 ∀ G a w,Sim C G st [] a w→FinAt C.P f R k a w
def GoodRet (C:Ctx) (f:FuncId) (R:Value→World→Prop) (st:St):Prop:=
 ∀ G a w,Sim C G st [] a w→∃ fn v,C.P.funcs[f]?=some fn∧(results fn a.tmps).run C.P w=.ok v w∧R v w
def TreeOK (C:Ctx) (f:FuncId) (R:Value→World→Prop):Tree→Prop
 |.ret st=>GoodRet C f R st
 |.susp k st=>Good C f R k st
 |.bad=>False
theorem FinAt.step {P:Program} {f:FuncId} {R:Value→World→Prop} {k k':List It} {a a':Act} {w w':World} (h:FinAt P f R k' a' w')
  (hs:∀ (b:Frame) (cs:List Frame),b.kind=.normal→step P (lone (b.at a (k.map It.item)) cs w)=.next (lone (b.at a' (k'.map It.item)) cs w')):FinAt P f R k a w:=by
 intro b cs hb hk
 obtain ⟨v,w2,fr,h1,h2,h3⟩:=h b cs hb hk
 exact ⟨v,w2,fr,h1,.head (hs b cs hk) h2,h3⟩
theorem step_op {P:Program} {b:Frame} {a:Act} {k:List Item} {cs:List Frame} {w w':World} {ops:Array Oper} {i:Nat} {rest:List Nat} {o:Oper} {v:Value}
  (ho:ops[i]?=some o) (hw:Region.wanted o (yielded ops a.tmps)=true) (hr:(execOp a.eval o).run P w=.ok (.value v) w'∨((execOp a.eval o).run P w=.ok .skip w'∧v=undef)) :
  step P (lone (b.at a (.inRegion ops (i :: rest) :: k)) cs w)=.next (lone (b.at (a.put o.dst v) (.inRegion ops rest :: k)) cs w'):=by
 have hfin:(b.at a (.inRegion ops (i :: rest) :: k)).finish v=b.at (a.put o.dst v) (.inRegion ops rest :: k):=by
  rw[Frame.finish_at,ho];rfl
 have hg:=stepG_op (P:=P) (b:=b) (k:=k) (cs:=cs) (w:=w) (rest:=rest) ho hw
 refine step_lone_go ?_
 rw[hg,← hfin]
 rcases hr with hr | ⟨hr,rfl⟩
 ·simp [stepG.apply,hr]
 ·simp [stepG.apply,hr]
theorem idx_cons {all:Array Oper} {pre:List Oper} {o:Oper} {rest:List Oper} (h:all.toList=pre++o :: rest) :
  (List.range all.size).drop (all.size-(o :: rest).length)=pre.length :: (List.range all.size).drop (all.size-rest.length)∧all[pre.length]?=some o:=by
 have hl:all.size=pre.length+(rest.length+1):=by
  have:=congrArg List.length h
  simpa using this
 constructor
 ·have h1:all.size-(o :: rest).length=pre.length:=by simp;omega
  have h2:all.size-rest.length=pre.length+1:=by omega
  rw[h1,h2,List.drop_eq_getElem_cons (by simp;omega)]
  simp
 ·rw[← Array.getElem?_toList,h]
  simp
section
variable {C:Ctx} {G:Gh} {st st1 st':St} {a:Act} {w:World} {f:FuncId} {R:Value→World→Prop}
theorem know_same {t:Nat} {b:Bool} (h:st.s t=.t (.v (.bool b))):st.know t b=st:=by
 unfold St.know
 have:(fun u=>if u=t then LV.t (.v (.bool b)) else st.s u)=st.s:=by
  funext u
  split
  ·rename_i e;rw[e,h]
  ·rfl
 rw[this]
theorem Sim.undef (s:Sim C G st [] a w) {d:Option Nat} (h:(out d .dead).run C.N st=some ((),st')):Sim C G st' [] (a.put d undef) w:=by
 rw[run_out] at h
 cases d with
 |none=>simp at h;subst h;exact s
 |some d=>
  simp only at h
  split at h
  ·rename_i hlt
   cases h
   exact s.put hlt (by rw[RepV];trivial)
  ·cases h
theorem Sim.undef2 (s:Sim C G st [] a w) {d:Option Nat} (h:(out d (.tup [])).run C.N st=some ((),st')):Sim C G st' [] (a.put d Go.undef) w:=by
 rw[run_out] at h
 cases d with
 |none=>simp at h;subst h;exact s
 |some d=>
  simp only at h
  split at h
  ·rename_i hlt
   cases h
   exact s.put hlt (by rw[RepV];exact ⟨#[],rfl,rfl⟩)
  ·cases h
theorem Sim.unyields (s:Sim C G st [] a w) {all:Array Oper} {j d:Nat} (hj:(all[j]?).bind (·.dst)=some d) (h:st.s d=.tup []):yielded all a.tmps j=none:=by
 have hv:=s.slot d
 rw[h,RepV] at hv
 obtain ⟨us,e,_⟩:=hv
 unfold yielded
 rw[hj,Option.bind_some]
 rw[Array.getD_eq_getD_getElem?] at e
 cases ht:a.tmps[d]? with
 |none=>rfl
 |some x=>rw[ht] at e;simp at e;rw[e]
theorem Sim.yields (s:Sim C G st [] a w) {all:Array Oper} {j d:Nat} {r:Bool} (hj:(all[j]?).bind (·.dst)=some d) (h:st.s d=.t (.v (.bool r))):yielded all a.tmps j=some r:=by
 have hv:=s.slot d
 rw[h] at hv
 have e:=RepV_v hv
 unfold yielded
 rw[hj,Option.bind_some]
 rw[Array.getD_eq_getD_getElem?] at e
 cases ht:a.tmps[d]? with
 |none=>rw[ht] at e;simp [Go.undef] at e
 |some x=>rw[ht] at e;simp at e;rw[e]
theorem exits_item {id:Nat}:∀ {k k':List It},exits id k=some k'→exitTo id (k.map It.item)=some (k'.map It.item)∧∀ i∈k',i∈k
 |[],k',h=>by cases h
 |.blk i :: k,k',h=>by
  simp only[exits] at h
  split at h
  ·rename_i e;subst e;cases h
   exact ⟨by simp [It.item,exitTo],fun j hj=>by simp [hj]⟩
  ·rename_i e
   obtain ⟨h1,h2⟩:=exits_item h
   refine ⟨?_,fun j hj=>by simp [h2 j hj]⟩
   have:(i==id)=false:=by simpa using e
   have e2:(id==i)=false:=by simp;exact fun h=>e h.symm
   simp [It.item,exitTo,this,h1]
 |.c c :: k,k',h=>by
  obtain ⟨h1,h2⟩:=exits_item (k:=k) h
  exact ⟨by simpa [It.item,exitTo] using h1,fun j hj=>by simp [h2 j hj]⟩
 |.lp c :: k,k',h=>by
  obtain ⟨h1,h2⟩:=exits_item (k:=k) h
  exact ⟨by simpa [It.item,exitTo] using h1,fun j hj=>by simp [h2 j hj]⟩
 |.ops x y :: k,k',h=>by
  obtain ⟨h1,h2⟩:=exits_item (k:=k) h
  exact ⟨by simpa [It.item,exitTo] using h1,fun j hj=>by simp [h2 j hj]⟩
theorem good_ret (h:GoodRet C f R st) (k:List It) (hs:∀ (b:Frame) cs a w,∃ todo,Steps C.P (lone (b.at a (k.map It.item)) cs w) (lone { b.at a todo with mode:=.returning } cs w)):Good C f R k st:=by
 intro G a w s b cs hb hk
 obtain ⟨fn,v,h1,h2,h3⟩:=h G a w s
 obtain ⟨todo,hst⟩:=hs b cs a w
 exact ⟨v,w,_,h3,hst,hb,rfl,s.dfr,hk,fn,by rw[← hb] at h1;exact h1,h2⟩
theorem ex_sound:∀ (n:Nat) (k:List It) (st:St),(∀ i∈k,WF i)→TreeOK C f R (ex C.P C.N n k st)→Good C f R k st
 |0,_,_,_,h=>by rw[ex] at h;exact h.elim
 |n+1,[],st,hw,h=>by
  rw[ex] at h
  exact good_ret h [] fun b cs a w=>⟨[],.one step_end⟩
 |n+1,.blk i :: k,st,hw,h=>by
  rw[ex] at h
  exact fun G a w s=>(ex_sound n k st (fun i hi=>hw i (by simp [hi])) h G a w s).step fun b cs _=>step_inBlock
 |n+1,.lp x :: k,st,hw,h=>by rw[ex] at h;exact h
 |n+1,.ops all [] :: k,st,hw,h=>by
  rw[ex] at h
  refine fun G a w s=>(ex_sound n k st (fun i hi=>hw i (by simp [hi])) h G a w s).step fun b cs _=>?_
  have e:(It.ops all []).item=.inRegion all []:=by simp [It.item]
  rw[List.map_cons,e]
  exact step_region_end
 |n+1,.ops all (o :: rest) :: k,st,hw,h=>by
  obtain ⟨pre,hpre⟩:=hw (.ops all (o :: rest)) (by simp)
  obtain ⟨hidx,ho⟩:=idx_cons hpre
  have hw':∀ i∈(.ops all rest :: k:List It),WF i:=by
   intro i hi
   rcases List.mem_cons.1 hi with rfl | hi
   ·exact ⟨pre++[o],by rw[hpre];simp⟩
   ·exact hw i (by simp [hi])
  have hitem:(It.ops all (o :: rest)).item=.inRegion all (pre.length :: (List.range all.size).drop (all.size-rest.length)):=by rw[It.item,hidx]
  have run:∀ st st',Region.wanted o (fun _=>none)=true∨True→(opM C.P o).run C.N st=some ((),st')→TreeOK C f R (ex C.P C.N n (.ops all rest :: k) st') →
    ∀ G a w,Sim C G st [] a w→Region.wanted o (yielded all a.tmps)=true→FinAt C.P f R (.ops all (o :: rest) :: k) a w:=by
   intro st st' _ hop hok G a w s hwant
   obtain ⟨G',w',v,hx,s'⟩:=op_all s hop
   refine (ex_sound n _ st' hw' hok G' _ w' s').step fun b cs _=>?_
   rw[List.map_cons,List.map_cons,hitem]
   exact step_op ho hwant hx
  rw[ex] at h
  unfold guardOf at h
  cases hg:o.guard with
  |none=>
   rw[hg] at h
   simp only at h
   split at h
   ·exact h
   ·split at h
    ·rename_i st' hop
     exact fun G a w s=>run st st' (.inr trivial) hop h G a w s (by unfold Region.wanted;rw[hg])
    ·exact h.elim
  |some jw=>
   obtain ⟨j,want⟩:=jw
   rw[hg] at h
   simp only at h
   split at h
   ·rename_i heq
    cases heq
   ·rename_i d w0 heq
    simp only[Option.some.injEq,Prod.mk.injEq] at heq
    obtain ⟨hd,rfl⟩:=heq
    split at h
    ·rename_i r hr
     split at h
     ·rename_i hrw
      subst hrw
      rw[know_same hr] at h
      split at h
      ·exact h
      ·split at h
       ·rename_i st' hop
        exact fun G a w s=>run st st' (.inr trivial) hop h G a w s (by unfold Region.wanted;rw[hg];simp [s.yields hd hr])
       ·exact h.elim
     ·rename_i hrw
      have hrw':r=!want:=by cases r<;>cases want<;>simp_all
      subst hrw'
      rw[know_same hr] at h
      split at h
      ·rename_i st' hop
       intro G a w s
       refine (ex_sound n _ st' hw' h G _ w (s.undef hop)).step fun b cs _=>?_
       rw[List.map_cons,List.map_cons,hitem]
       have:=step_op_skip (P:=C.P) (b:=b) (a:=a) (k:=k.map It.item) (cs:=cs) (w:=w) (ops:=all) (i:=pre.length) (rest:=(List.range all.size).drop (all.size-rest.length)) (by
        rw[ho]
        simp only[Option.map_some,Option.getD_some]
        unfold Region.wanted
        rw[hg]
        simp only
        rw[s.yields hd hr]
        cases want<;>rfl)
       rw[ho] at this
       exact this
      ·exact h.elim
    ·exact h.elim
   ·exact h.elim
 |n+1,.c .skip :: k,st,hw,h=>by
  rw[ex] at h
  exact fun G a w s=>(ex_sound n k st (fun i hi=>hw i (by simp [hi])) h G a w s).step fun b cs _=>step_skip
 |n+1,.c .ret :: k,st,hw,h=>by
  rw[ex] at h
  exact good_ret h _ fun b cs a w=>⟨_,.one step_ret⟩
 |n+1,.c (.seq x y) :: k,st,hw,h=>by
  rw[ex] at h
  exact fun G a w s=>(ex_sound n (.c x :: .c y :: k) st (fun i hi=>by
   simp only[List.mem_cons] at hi
   rcases hi with rfl | rfl | hi
   ·trivial
   ·trivial
   ·exact hw i (by simp [hi])) h G a w s).step fun b cs _=>step_seq
 |n+1,.c (.block i x) :: k,st,hw,h=>by
  rw[ex] at h
  exact fun G a w s=>(ex_sound n (.c x :: .blk i :: k) st (fun i hi=>by
   simp only[List.mem_cons] at hi
   rcases hi with rfl | rfl | hi
   ·trivial
   ·trivial
   ·exact hw i (by simp [hi])) h G a w s).step fun b cs _=>step_block
 |n+1,.c (.exit i) :: k,st,hw,h=>by
  rw[ex] at h
  split at h
  ·rename_i k' hk
   obtain ⟨h1,h2⟩:=exits_item hk
   exact fun G a w s=>(ex_sound n k' st (fun i hi=>hw i (by simp [h2 i hi])) h G a w s).step fun b cs _=>step_exit h1
  ·exact h.elim
 |n+1,.c (.cond c x y) :: k,st,hw,h=>by
  cases c with
  |const v=>simp [ex] at h;exact h.elim
  |global v=>simp [ex] at h;exact h.elim
  |func v=>simp [ex] at h;exact h.elim
  |tmp t=>
   simp only[ex] at h
   split at h
   ·rename_i b hb
    have hwf:∀ z:Code,∀ i∈(.c z :: k:List It),WF i:=fun z i hi=>by
     simp only[List.mem_cons] at hi
     rcases hi with rfl | hi
     ·trivial
     ·exact hw i (by simp [hi])
    intro G a w s
    have hev:a.eval (.tmp t)=.bool b:=by
     have:=s.slot t
     rw[hb] at this
     exact RepV_v this
    split at h
    ·rename_i hbt
     subst hbt
     rw[know_same hb] at h
     refine (ex_sound n (.c x :: k) st (hwf x) h G a w s).step fun b' cs _=>?_
     exact step_cond hev
    ·rename_i hbt
     have:b=false:=by simpa using hbt
     subst this
     rw[know_same hb] at h
     refine (ex_sound n (.c y :: k) st (hwf y) h G a w s).step fun b' cs _=>?_
     exact step_cond hev
   ·exact h.elim
 |n+1,.c (.region i ops false) :: k,st,hw,h=>by
  rw[ex] at h
  refine fun G a w s=>(ex_sound n (.ops ops ops.toList :: k) st (fun i hi=>by
   simp only[List.mem_cons] at hi
   rcases hi with rfl | hi
   ·exact ⟨[],rfl⟩
   ·exact hw i (by simp [hi])) h G a w s).step fun b cs _=>?_
  rw[List.map_cons,List.map_cons]
  have e:(It.ops ops ops.toList).item=.inRegion ops (List.range ops.size):=by simp [It.item]
  rw[e]
  exact step_region
 |n+1,.c (.region i ops true) :: k,st,hw,h=>by rw[ex] at h;exact h
 |n+1,.c (.loop x) :: k,st,hw,h=>by rw[ex] at h;exact h
 |n+1,.c (.label l) :: k,st,hw,h=>by simp [ex] at h;exact h.elim
 |n+1,.c (.goto l) :: k,st,hw,h=>by simp [ex] at h;exact h.elim
 |n+1,.c (.scope l) :: k,st,hw,h=>by simp [ex] at h;exact h.elim
 |n+1,.c (.rangeFunc _ _ _ _) :: k,st,hw,h=>by simp [ex] at h;exact h.elim
 |n+1,.c (.refuse _) :: k,st,hw,h=>by simp [ex] at h;exact h.elim
theorem good_loop {x:Code} {k:List It} (h:Good C f R (.c x :: .lp x :: k) st):Good C f R (.c (.loop x) :: k) st:=
 fun G a w s=>(h G a w s).step fun _ _ _=>step_loop
theorem good_again {x:Code} {k:List It} (h:Good C f R (.c x :: .lp x :: k) st):Good C f R (.lp x :: k) st:=
 fun G a w s=>(h G a w s).step fun _ _ _=>step_inLoop
end
end TM
namespace TM
open Go
inductive Arg where
 |one (x:T)
 |agg (cs:List T)
 |ptr (cs:List T)
 |own (x:T)
 |owns (cs:List T)
def Arg.cells:Arg→List T
 |.ptr cs=>cs
 |.own x=>[x]
 |.owns cs=>cs
 |_=>[]
def Arg.real:Arg→Bool
 |.ptr _=>true
 |_=>false
def Arg.given:Arg→List T
 |.one x=>[x]
 |.agg cs=>cs
 |.ptr cs=>[.pt .own cs]
 |_=>[]
mutual
def inLV:T→LV
 |.pt .own _=>.dead
 |.pt .nw cs=>.raddr cs
 |.pt .fz cs=>.raddr cs
 |.fn g caps=>.fn g (inLVs caps)
 |.v x=>.t (.v x)
 |.sl f es=>.t (.sl f es)
 |.hole=>.dead
def inLVs:List T→List LV
 |[]=>[]
 |x :: xs=>inLV x :: inLVs xs
end
def Arg.lv (i:Nat):Arg→LV
 |.one x=>inLV x
 |.agg cs=>.agg (inLVs cs)
 |.ptr _=>.addr (i,1) [0]
 |.own x=>seen (i,1) [0] x
 |.owns cs=>.agg (seens (i,1) [0] 0 cs)
def entry (args:List Arg):St:=
 ⟨fun t=>match args[t]? with | some c=>c.lv t | none=>.dead,fun n=>if n.2=1 then (match args[n.1]? with | some c=>⟨c.real,c.cells⟩ | none=>⟨false,[]⟩) else ⟨false,[]⟩⟩
def Arg.rep (C:Ctx) (L:Labs) (i:Nat) (u:Value):Arg→Prop
 |.one x=>RepC (Zof C.Zf C.Zn) C.w0 noLab noWhere x u∧C.real0 i=false∧C.vals0 i=[]
 |.agg cs=>(∃ us:Array Value,u=.agg us∧us.size=cs.length∧RepL (Zof C.Zf C.Zn) C.w0 noLab noWhere 0 cs us.toList)∧C.real0 i=false∧C.vals0 i=[]
 |.ptr cs=>u=.pointer (some ⟨C.blk0 i,0,none⟩)∧C.real0 i=true∧L (C.blk0 i)=some (.box (i,1),[]) ∧
   ∃ (us:List Value) (ty:TypeId),C.w0.heap[C.blk0 i]?=some (.cells us.toArray ty (0,0))∧us.length=cs.length∧RepL (Zof C.Zf C.Zn) C.w0 L (.box (i,1),[]) 0 cs us
 |.own x=>C.real0 i=false∧C.vals0 i=[u]∧RepL (Zof C.Zf C.Zn) C.w0 L (.box (i,1),[]) 0 [x] [u]
 |.owns cs=>∃ us:Array Value,u=.agg us∧C.real0 i=false∧C.vals0 i=us.toList∧us.size=cs.length∧RepL (Zof C.Zf C.Zn) C.w0 L (.box (i,1),[]) 0 cs us.toList
def ResRep:List Arg→List (T×Value)→List Value→Prop
 |[],hs,vs=>hs=[]∧vs=[]
 |.agg cs :: rs,hs,v :: vs=>∃ (us:Array Value) (hs1 hs2:List (T×Value)),v=.agg us∧hs=hs1++hs2∧hs1.map (·.1)=cs∧hs1.map (·.2)=us.toList∧ResRep rs hs2 vs
 |.one x :: rs,(y,u) :: hs,v :: vs=>x=y∧u=v∧ResRep rs hs vs
 |.ptr cs :: rs,(y,u) :: hs,v :: vs=>y=.pt .own cs∧u=v∧ResRep rs hs vs
 |_,_,_=>False
def oneOrTuple (vs:List Value):Value:=match vs with | [v]=>v | _=>.tuple vs.toArray
def OutsOK (st:St):Nat→List (List T)→Prop
 |_,[]=>True
 |i,c :: cs=>(st.b (i,1)).cells=c∧OutsOK st (i+1) cs
def Post (C:Ctx) (outs:List (List T)) (res:List Arg) (v:Value) (w':World):Prop:=
 ∃ N G st hs a vs,Sim { C with N:=N } G st hs a w'∧OutsOK st 0 outs∧v=oneOrTuple vs∧ResRep res hs vs
def callable (P:Program) (f:FuncId):Prop:=∃ fn,P.funcs[f]?=some fn∧(fn.name== "runtime.NumGoroutine")=false∧fn.body.isNone=false
def Fun (P:Program) (f:FuncId) (args:List Arg) (outs:List (List T)) (res:List Arg):Prop:=
 callable P f∧∀ (C:Ctx) (L:Labs) (us:List Value),C.P=P→us.length=args.length →
  (∀ b b' l,L b=some l→L b'=some l→b=b')→(∀ b l,L b=some l→b<C.w0.heap.size∧C.F0 b) →
  (∀ b,C.Zf b∨C.Zn b→L b=none∧b<C.w0.heap.size)→(∀ i,args.length≤i→C.real0 i=false∧C.vals0 i=[]) →
  (∀ (i:Nat) (c:Arg) (u:Value),args[i]?=some c→us[i]?=some u→c.rep C L i u) →
  Calls P f us.toArray C.w0 (fun e w'=>match e with | .returned v=>Post C outs res v w' | _=>False)
section
variable {C:Ctx} {G:Gh} {st st1 st':St} {hs:List (T×Value)} {a:Act} {w:World}
mutual
theorem inLV_rep:∀ (x:T) {u:Value},RepC (C.Z G) w noLab noWhere x u→RepV C G w st.b (inLV x) u
 |.v x,u,h=>by rw[inLV,RepV];exact h
 |.sl f es,u,h=>by rw[inLV,RepV];exact h
 |.hole,u,h=>by rw[inLV,RepV];trivial
 |.pt .own cs,u,h=>by rw[inLV,RepV];trivial
 |.pt .nw cs,u,h=>by rw[inLV];exact RepV_raddr (by simp) h
 |.pt .fz cs,u,h=>by rw[inLV];exact RepV_raddr (by simp) h
 |.fn g caps,u,h=>by
  rw[inLV,RepV]
  rw[RepC] at h
  obtain ⟨vs,hu,hs,hr⟩:=h
  exact ⟨vs,hu,inLVs_rep caps (us:=vs.toList) (by simpa using hs) hr.any⟩
theorem inLVs_rep:∀ (xs:List T) {us:List Value},us.length=xs.length→RepL (C.Z G) w noLab noWhere 0 xs us→RepVs C G w st.b (inLVs xs) us
 |[],us,hl,h=>by rw[inLVs,RepVs];exact List.length_eq_zero_iff.1 hl
 |x :: xs,[],hl,h=>by simp at hl
 |x :: xs,u :: us,hl,h=>by
  rw[RepL] at h
  rw[inLVs,RepVs]
  have h1:RepC (C.Z G) w noLab noWhere x u:=RepC.move (fun f b hz=>⟨hz,rfl⟩) x (fun b r hb=>by simp [noLab] at hb) h.1
  exact ⟨inLV_rep x h1,inLVs_rep xs (by simpa using hl) h.2.any⟩
end
theorem entry_sim {_P:Program} {fn:Func} {_f:FuncId} {args:List Arg} {us:List Value} {L:Labs} (hN:C.N=fn.ntmps) (hl:us.length=args.length) (hle:args.length≤fn.ntmps)
  (h1:∀ b b' l,L b=some l→L b'=some l→b=b') (h2:∀ b l,L b=some l→b<C.w0.heap.size∧C.F0 b)
  (h3:∀ b,C.Zf b∨C.Zn b→L b=none∧b<C.w0.heap.size) (h4:∀ i,args.length≤i→C.real0 i=false∧C.vals0 i=[])
  (h5:∀ (i:Nat) (c:Arg) (u:Value),args[i]?=some c→us[i]?=some u→c.rep C L i u) :
  ∃ G,Sim C G (entry args) [] { tmps:=us.toArray++Array.replicate (fn.ntmps-us.toArray.size) undef,defers:=[] } C.w0:=by
 have hbox:∀ i,∃ vals:List Value,(C.real0 i=false→vals=C.vals0 i)∧RepL (Zof C.Zf C.Zn) C.w0 L (.box (i,1),[]) 0 ((entry args).b (i,1)).cells vals∧vals.length=((entry args).b (i,1)).cells.length ∧
   ((entry args).b (i,1)).real=C.real0 i∧(C.real0 i=true→L (C.blk0 i)=some (.box (i,1),[])∧∃ ty,C.w0.heap[C.blk0 i]?=some (.cells vals.toArray ty (0,0))):=by
  intro i
  simp only[entry,if_true]
  cases hc:args[i]? with
  |none=>
   obtain ⟨k1,k2⟩:=h4 i (by
    rcases Nat.lt_or_ge i args.length with h | h
    ·rw[List.getElem?_eq_getElem h] at hc;cases hc
    ·exact h)
   exact ⟨[],fun _=>k2.symm,by rw[RepL];trivial,rfl,k1.symm,fun h=>by rw[k1] at h;cases h⟩
  |some c=>
   have hi:i<us.length:=by
    have:=(List.getElem?_eq_some_iff.1 hc).1
    omega
   have hr:=h5 i c us[i] hc (by simp)
   cases c with
   |one x=>
    obtain ⟨_,k1,k2⟩:=hr
    exact ⟨[],fun _=>k2.symm,by simp only[Arg.cells];rw[RepL];trivial,rfl,k1.symm,fun h=>by rw[k1] at h;cases h⟩
   |agg cs=>
    obtain ⟨_,k1,k2⟩:=hr
    exact ⟨[],fun _=>k2.symm,by simp only[Arg.cells];rw[RepL];trivial,rfl,k1.symm,fun h=>by rw[k1] at h;cases h⟩
   |ptr cs=>
    obtain ⟨_,k1,k2,vs,ty,k3,k4,k5⟩:=hr
    exact ⟨vs,(fun h=>by rw[k1] at h;cases h),k5,k4,k1.symm,fun _=>⟨k2,ty,k3⟩⟩
   |own x=>
    obtain ⟨k1,k2,k3⟩:=hr
    exact ⟨[us[i]],fun _=>k2.symm,k3,rfl,k1.symm,fun h=>by rw[k1] at h;cases h⟩
   |owns cs=>
    obtain ⟨vs,_,k1,k2,k3,k4⟩:=hr
    exact ⟨vs.toList,fun _=>k2.symm,k4,by simpa [Arg.cells] using k3,k1.symm,fun h=>by rw[k1] at h;cases h⟩
 refine ⟨⟨L,C.Zn,fun n=>if n.2=1 then C.blk0 n.1 else 0,fun n=>if n.2=1 then Classical.choose (hbox n.1) else []⟩,h1,fun b l h=>⟨(h2 b l h).1,.inr (h2 b l h).2⟩,h3,fun b h=>.inl h,fun b h=>h,fun b _ _=>rfl,Nat.le_refl _,⟨rfl,rfl,rfl⟩,fun n=>?_,fun j x u h=>by simp at h,fun t=>?_,fun i=>?_,?_,rfl⟩
 ·obtain ⟨i,k⟩:=n
  by_cases hk:k=1
  ·subst hk
   obtain ⟨q1,q2,q3,q4,q5⟩:=Classical.choose_spec (hbox i)
   simp only[if_true]
   refine ⟨q2,q3,fun hr=>?_⟩
   rw[q4] at hr
   exact q5 hr
  ·simp only[hk,if_false,entry]
   exact ⟨by rw[RepL];trivial,rfl,fun h=>by cases h⟩
 ·cases hc:args[t]? with
  |none=>
   simp only[entry,hc]
   rw[RepV];trivial
  |some c=>
   have hi:t<us.length:=by
    have:=(List.getElem?_eq_some_iff.1 hc).1
    omega
   have hr:=h5 t c us[t] hc (by simp)
   have hg:(us.toArray++Array.replicate (fn.ntmps-us.toArray.size) undef).getD t undef=us[t]:=by
    rw[Array.getD_eq_getD_getElem?,Array.getElem?_append_left (by simpa using hi)]
    simp [hi]
   rw[show ({ tmps:=us.toArray++Array.replicate (fn.ntmps-us.toArray.size) undef,defers:=[] }:Act).tmps=us.toArray++Array.replicate (fn.ntmps-us.toArray.size) undef from rfl,hg]
   obtain ⟨q1,q2,q3,q4,q5⟩:=Classical.choose_spec (hbox t)
   have hb1:((entry args).b (t,1)).cells=c.cells:=by simp [entry,hc]
   have hr1:((entry args).b (t,1)).real=c.real:=by simp [entry,hc]
   have hs1:(entry args).s t=c.lv t:=by simp [entry,hc]
   rw[hs1]
   cases c with
   |one x=>exact inLV_rep (st:=entry args) x hr.1
   |agg cs=>
    obtain ⟨⟨vs,hu,hs,hl⟩,_⟩:=hr
    simp only[Arg.lv]
    rw[RepV]
    exact ⟨vs,hu,inLVs_rep (st:=entry args) cs (by simpa using hs) hl⟩
   |ptr cs=>
    obtain ⟨hu,k1,k2,vs,ty,k3,k4,k5⟩:=hr
    simp only[Arg.lv]
    rw[RepV]
    refine ⟨C.blk0 t,cs,by rw[hu];simp [offOf],?_,?_,fun _=>?_⟩
    ·rw[hb1];simp [Arg.cells,rowAt]
    ·simpa [hdOf] using k2
    ·rw[hr1];rfl
   |own x=>
    obtain ⟨k1,k2,k3⟩:=hr
    simp only[Arg.lv]
    refine RepV_seen (st:=entry args) (row:=[]) ?_ ?_
    ·rw[hb1];simp [Arg.cells,rowAt]
    ·rw[RepL] at k3
     simpa [Lab.add] using k3.1
   |owns cs=>
    obtain ⟨vs,hu,k1,k2,k3,k4⟩:=hr
    simp only[Arg.lv]
    rw[RepV]
    refine ⟨vs,hu,?_⟩
    refine RepVs_seens (st:=entry args) (p:=[0]) (by simp) cs vs.toList 0 (row:=[]) ?_ (by simpa using k3) ?_
    ·rw[hb1];simp [Arg.cells,rowAt,bump]
    ·simpa [pathLab,lastOf] using k4
 ·obtain ⟨q1,q2,q3,q4,q5⟩:=Classical.choose_spec (hbox i)
  refine ⟨by simp,q4,fun h=>?_⟩
  simp only[if_true]
  exact q1 h
 ·simp [hN]
  omega
theorem fun_intro {P:Program} {f:FuncId} {fn:Func} {c:Code} {args:List Arg} {outs:List (List T)} {res:List Arg} (hf:P.funcs[f]?=some fn) (hb:fn.body=some c)
  (hn:(fn.name== "runtime.NumGoroutine")=false) (hle:args.length≤fn.ntmps)
  (h:∀ C:Ctx,C.P=P→C.N=fn.ntmps→Good C f (Post C outs res) [.c c] (entry args)):Fun P f args outs res:=by
 refine ⟨⟨fn,hf,hn,by rw[hb];rfl⟩,fun C L us hP hl h1 h2 h3 h4 h5 cs=>?_⟩
 have hg:=h { C with N:=fn.ntmps } hP rfl
 obtain ⟨G,s⟩:=entry_sim (C:={ C with N:=fn.ntmps }) (_P:=P) (_f:=f) (fn:=fn) (args:=args) (us:=us) (L:=L) rfl hl hle h1 h2 h3 h4 (fun i c u hc hu=>by
  have:=h5 i c u hc hu
  cases c<;>exact this)
 let b:Frame:={ (default:Frame) with fn:=f,kind:=.normal }
 obtain ⟨v,w',fr,k1,k2,k3,k4⟩:=hg G _ _ s b cs rfl rfl
 have henter:Frame.enter P f us.toArray .normal=b.at { tmps:=us.toArray++Array.replicate (fn.ntmps-us.toArray.size) undef,defers:=[] } [.code c]:=by
  simp [Frame.enter,Frame.at,hf,hb,b]
 refine ⟨.returned v,w',fr,?_,?_,k3,?_⟩
 ·exact k1
 ·rw[henter]
  subst hP
  exact k2
 ·subst hP
  exact k4
end
end TM
namespace TM
open Go
def St.finLV (P:Program) (st:St):ResultVar→Option LV
 |.tmp t=>some (st.s t)
 |.cell a t=>match st.s a with
  |.addr n p=>match rowAt (st.b n).cells p with
   |some row=>match isAgg P t with
    |some true=>if P.cellsOf t≤row.length then some (.agg (seens n p 0 (row.take (P.cellsOf t)))) else none
    |some false=>match row with
     |y :: _=>some (seen n (bump 0 p) y)
     |[]=>none
    |none=>none
   |none=>none
  |_=>none
def St.finLVs (P:Program) (st:St):List ResultVar→Option (List LV)
 |[]=>some []
 |r :: rs=>match st.finLV P r with
  |some v=>match st.finLVs P rs with
   |some vs=>some (v :: vs)
   |none=>none
  |none=>none
def resArgs:List LV→List T→List Arg
 |[],_=>[]
 |.agg xs :: vs,ts=>.agg (ts.take xs.length) :: resArgs vs (ts.drop xs.length)
 |_ :: vs,t :: ts=>.one t :: resArgs vs ts
 |_ :: _,[]=>[]
def finish (P:Program) (st:St) (rs:List ResultVar):Option (List Arg×St):=match st.finLVs P rs with
 |some vs=>match st.closesS (vs.flatMap LV.cells) with
  |some (ts,st1)=>some (resArgs vs ts,st1)
  |none=>none
 |none=>none
def Fin (P:Program) (rs:List ResultVar) (outs:List (List T)) (res:List Arg) (st:St):Prop:=(match finish P st rs with
 |some (r,st1)=>r=res∧OutsOK st1 0 outs
 |none=>False) ∨
 ∃ n,st.finLVs P rs=some [.addr n [0]]∧n.2≠1∧(st.b n).real=true∧res=[.ptr (st.b n).cells]∧OutsOK st 0 outs
section
variable {C:Ctx} {G:Gh} {st st1 st':St} {hs:List (T×Value)} {a:Act} {w:World}
def resGet (tmps:Array Value):ResultVar→Sem Value
 |.tmp t=>pure (tmps.getD t undef)
 |.cell a t=>do loadVar t (← asAddr (tmps.getD a undef))
theorem finLV_rep (s:Sim C G st hs a w) {r:ResultVar} {v:LV} (h:st.finLV C.P r=some v):∃ u,(resGet a.tmps r).run C.P w=.ok u w∧RepV C G w st.b v u:=by
 cases r with
 |tmp t=>
  simp only[St.finLV,Option.some.injEq] at h
  subst h
  exact ⟨_,rfl,s.slot t⟩
 |cell ad t=>
  simp only[St.finLV] at h
  have he:=s.slot ad
  split at h
  ·rename_i n p hsl
   rw[hsl] at he
   split at h
   ·rename_i row hrow
    rw[RepV] at he
    obtain ⟨b,row',h3,h1,h2,h4⟩:=he
    obtain ⟨vs,ty,urow,hh,hu,k2,_⟩:=s.addr hrow h2 h4
    have hlen:=k2.length
    have hul:urow.length=vs.size-offOf (st.b n).cells 0 p:=by rw[hu];simp
    split at h
    ·rename_i hag
     split at h
     ·rename_i hle
      cases h
      refine ⟨.agg ((vs.toList.drop (offOf (st.b n).cells 0 p)).take (C.P.cellsOf t)).toArray,?_,?_⟩
      ·have hl:(Instr.loadAt t (.pointer (some ⟨b,offOf (st.b n).cells 0 p,none⟩))).run C.P w=.ok (.agg ((vs.toList.drop (offOf (st.b n).cells 0 p)).take (C.P.cellsOf t)).toArray) w:=by
        by_cases h0:C.P.cellsOf t=0
        ·obtain ⟨d,hd⟩:=und_of_isAgg hag
         obtain ⟨i,hi,hsz⟩:=info_of_und hd
         rw[h0] at hsz ⊢
         simp [Instr.loadAt,Instr.sureAddr,loadVar,r_isAgg hag,r_size hi,← hsz,loadCells,loadCellsFrom]
        ·exact r_loadVar_agg hag hh (by omega)
       simp only[resGet,h3,asAddr]
       simpa [Instr.loadAt,Instr.sureAddr] using hl
      ·rw[RepV]
       refine ⟨_,rfl,?_⟩
       rw[List.toList_toArray,← hu]
       have hb0:=bump_zero p
       refine RepVs_seens (rowAt_ne hrow) (row.take (C.P.cellsOf t)) (urow.take (C.P.cellsOf t)) 0 (row:=row.drop (C.P.cellsOf t)) ?_ ?_ (k2.take _)
       ·rw[hb0,List.take_append_drop];exact hrow
       ·simp;omega
     ·cases h
    ·rename_i hag
     split at h
     ·rename_i y r
      cases h
      cases hur:urow with
      |nil=>rw[hur] at hlen;simp at hlen
      |cons u us=>
       have hvo:vs[offOf (st.b n).cells 0 p]?=some u:=by
        have:=congrArg (fun l=>l[0]?) (hu.symm.trans hur)
        simpa using this
       rw[hur,RepL] at k2
       refine ⟨u,?_,?_⟩
       ·have hl:=r_loadVar_one (P:=C.P) (w:=w) (b:=b) (off:=offOf (st.b n).cells 0 p) hag hh hvo
        simp only[resGet,h3,asAddr]
        simpa [Instr.loadAt,Instr.sureAddr] using hl
       ·rw[bump_zero]
        have e:=pathLab_last p (l:=(.box n,[])) hrow
        rw[e] at k2
        exact RepV_seen hrow k2.1
     ·cases h
    ·cases h
   ·cases h
  ·cases h
theorem finLVs_rep (s:Sim C G st hs a w):∀ (rs:List ResultVar) {vs:List LV},st.finLVs C.P rs=some vs→∃ us,(rs.mapM (resGet a.tmps)).run C.P w=.ok us w∧RepVs C G w st.b vs us∧us.length=rs.length
 |[],vs,h=>by
  simp only[St.finLVs,Option.some.injEq] at h
  subst h
  exact ⟨[],rfl,by rw[RepVs],rfl⟩
 |r :: rs,vs,h=>by
  simp only[St.finLVs] at h
  split at h
  ·rename_i v hv
   split at h
   ·rename_i vs' hvs
    cases h
    obtain ⟨u,h1,h2⟩:=finLV_rep s hv
    obtain ⟨us,h3,h4,h5⟩:=finLVs_rep s rs hvs
    refine ⟨u :: us,?_,by rw[RepVs];exact ⟨h2,h4⟩,by simp [h5]⟩
    rw[List.mapM_cons]
    simp only[Sem.run_bind,h1,h3,Result.andThen_ok,Sem.run_pure]
   ·cases h
  ·cases h
theorem flat_rep:∀ (vs:List LV) {us:List Value} {st1 st2:St} {ts:List T},RepVs C G w st.b vs us→st1.closesS (vs.flatMap LV.cells)=some (ts,st2) →
  RepVs C G w st.b (vs.flatMap LV.cells) (us.flatMap fun u=>u.cells.toList)∧ResRep (resArgs vs ts) (ts.zip (us.flatMap fun u=>u.cells.toList)) us
 |[],us,st1,st2,ts,h,hc=>by
  rw[RepVs] at h
  subst h
  simp only[List.flatMap_nil,St.closesS,Option.some.injEq,Prod.mk.injEq] at hc
  obtain ⟨rfl,_⟩:=hc
  exact ⟨by simp [RepVs],by simp [resArgs,ResRep]⟩
 |v :: vs,[],_,_,_,h,_=>by rw[RepVs] at h;exact h.elim
 |v :: vs,u :: us,st1,st2,ts,h,hc=>by
  rw[RepVs] at h
  simp only[List.flatMap_cons] at hc ⊢
  rw[closesS_append] at hc
  split at hc
  ·rename_i ts1 st3 hc1
   split at hc
   ·rename_i ts2 st4 hc2
    cases hc
    obtain ⟨g1,g2⟩:=flat_rep vs h.2 hc2
    have hv:=cells_rep h.1 hc1
    have hl1:=closesS_length _ hc1
    have hll:=hv.length
    refine ⟨hv.append g1,?_⟩
    have hz:(ts1++ts2).zip (u.cells.toList++us.flatMap fun u=>u.cells.toList)=ts1.zip u.cells.toList++ts2.zip (us.flatMap fun u=>u.cells.toList):=List.zip_append (by omega)
    rw[hz]
    have single:∀ (_:v.cells=[v]) (_:u.oneCell'=true) (_:∀ t ts,resArgs (v :: vs) (t :: ts)=.one t :: resArgs vs ts),ResRep (resArgs (v :: vs) (ts1++ts2)) (ts1.zip u.cells.toList++ts2.zip (us.flatMap fun u=>u.cells.toList)) (u :: us):=by
     intro e1 e2 e3
     rw[e1] at hl1
     match ts1,hl1 with
     |[t1],_=>
      rw[List.cons_append,List.nil_append,e3,cells_one e2]
      simp only[List.cons_append,List.nil_append,List.zip_cons_cons,List.zip_nil_right,ResRep]
      exact ⟨trivial,trivial,g2⟩
    cases v with
    |agg xs=>
     obtain ⟨us0,e,hr⟩:=(show ∃ us0,u=.agg us0∧RepVs C G w st.b xs us0.toList by
      have:=h.1
      rw[RepV] at this
      exact this)
     subst e
     have hlx:xs.length=ts1.length:=hl1.symm
     simp only[resArgs,ResRep]
     have hul:us0.toList.length=ts1.length:=by rw[hr.length];exact hlx
     refine ⟨us0,ts1.zip us0.toList,ts2.zip (us.flatMap fun u=>u.cells.toList),rfl,rfl,?_,?_,?_⟩
     ·rw[List.map_fst_zip (by omega),hlx,List.take_left]
     ·rw[List.map_snd_zip (by omega)]
     ·rw[hlx,List.drop_left];exact g2
    |t x=>
     refine single rfl ?_ ?_
     ·have:=h.1
      rw[RepV] at this
      exact this.one
     ·intro t ts;rfl
    |ref n p lo hi=>
     refine single rfl ?_ ?_
     ·have:=h.1
      rw[RepV] at this
      obtain ⟨_,_,_,_,_,_,_,_,_,rfl,_⟩:=this
      rfl
     ·intro t ts;rfl
    |fn g caps=>
     refine single rfl ?_ ?_
     ·have:=h.1
      rw[RepV] at this
      obtain ⟨_,rfl,_⟩:=this
      rfl
     ·intro t ts;rfl
    |addr n p=>simp [LV.cells,St.closesS,St.closeS] at hc1
    |raddr n=>simp [LV.cells,St.closesS,St.closeS] at hc1
    |tup n=>simp [LV.cells,St.closesS,St.closeS] at hc1
    |va n=>simp [LV.cells,St.closesS,St.closeS] at hc1
    |dead=>simp [LV.cells,St.closesS,St.closeS] at hc1
   ·cases hc
  ·cases hc
theorem oneOrTuple_eq (us:List Value):(if h:us.toArray.size=1 then us.toArray[0] else Value.tuple us.toArray)=oneOrTuple us:=by
 match us with
 |[]=>rfl
 |[u]=>rfl
 |u :: v :: us=>simp [oneOrTuple]
theorem Sim.holdBox (s:Sim C G st [] a w) {n:Nm} (hn:n.2≠1) (hr:(st.b n).real=true) :
  ∃ G',Sim C G' ⟨fun u=>killV n [] (st.s u),fun m=>if m=n then ⟨false,[]⟩ else st.b m⟩ [(.pt .own (st.b n).cells,.pointer (some ⟨G.blk n,0,none⟩))] a w:=by
 obtain ⟨b1,b2,b3⟩:=s.box n
 obtain ⟨c1,ty,c2⟩:=b3 hr
 have s2:=s.newBox (w':=w) n hn ⟨false,[]⟩ [] 0 (relab (.box n,[]) (.held 0,[]) G.L) (relab_inj s.inj)
  (fun b l h=>by
   rcases relab_some h with ⟨r',h1,_⟩ | ⟨h1,_,_⟩
   ·exact s.lab b _ h1
   ·exact s.lab b _ h1)
  (fun m hm b r hb=>⟨relab_other hb (not_under_root (by simpa using hm)) (not_under_root (by simp)),rfl⟩)
  (fun b h=>⟨relab_none (s.zone b h).1,rfl⟩) (fun _ _ _=>rfl) (Nat.le_refl _) ⟨rfl,rfl,rfl⟩ (by rw[RepL];trivial) rfl (fun h=>by cases h)
 refine ⟨_,{ s2 with held:=fun j x u h=>?_ }⟩
 cases j with
 |succ j=>simp at h
 |zero=>
  simp only[List.getElem?_cons_zero,Option.some.injEq,Prod.mk.injEq] at h
  obtain ⟨rfl,rfl⟩:=h
  rw[RepC]
  refine ⟨G.blk n,0,(G.vals n).toArray,ty,(0,0),rfl,c2,fun _=>⟨?_,rfl,rfl,by simpa using b2⟩,fun h=>absurd rfl h,?_⟩
  ·have:=relab_src (dst:=(.held 0,[])) (r:=[]) (by simpa using c1:G.L (G.blk n)=some ((Root.box n,([]:List Nat)).1,(Root.box n,([]:List Nat)).2++[]))
   simpa using this
  ·show RepL _ _ (relab (.box n,[]) (.held 0,[]) G.L) _ _ _ _
   refine RepL.move (fun f b hz=>⟨hz,rfl⟩) _ (fun b q hb=>⟨relab_src hb,rfl⟩) ?_
   simpa using b1
theorem killOuts {n:Nm} (hn:n.2≠1) {x:Box} {f:LV→LV}:∀ {outs:List (List T)} {i:Nat},OutsOK st i outs→OutsOK ⟨fun u=>f (st.s u),fun m=>if m=n then x else st.b m⟩ i outs
 |[],_,_=>trivial
 |_ :: _,i,h=>⟨by
  have:((i,1):Nm)≠n:=fun e=>hn (by rw[← e])
  simp only[this,if_false]
  exact h.1,killOuts hn h.2⟩
theorem results_run {fn:Func} {us:List Value} (h1:(fn.results.toList.mapM (resGet a.tmps)).run C.P w=.ok us w):(results fn a.tmps).run C.P w=.ok (oneOrTuple us) w:=by
 have hm:(fn.results.mapM (resGet a.tmps)).run C.P w=.ok us.toArray w:=by
  have e:=Array.toArray_toList (xs:=fn.results)
  rw[← e,List.mapM_toArray]
  simp only[Sem.run_map,h1,Result.andThen_ok]
 have hres:results fn a.tmps=(do let vs ← fn.results.mapM (resGet a.tmps);pure (if h:vs.size=1 then vs[0] else .tuple vs)):=by
  unfold results
  congr 1
 rw[hres]
 simp only[Sem.run_bind,hm]
 simp only[Result.andThen_ok,Sem.run_pure]
 rw[oneOrTuple_eq]
theorem good_fin {f:FuncId} {fn:Func} {outs:List (List T)} {res:List Arg} (hf:C.P.funcs[f]?=some fn) (h:Fin C.P fn.results.toList outs res st):GoodRet C f (Post C outs res) st:=by
 intro G a w s
 rcases h with h | ⟨n,hfin,hn,hr,rfl,hout⟩
 ·unfold finish at h
  split at h
  ·rename_i r st1 h0
   split at h0
   ·rename_i vs hvs
    split at h0
    ·rename_i ts st2 hts
     cases h0
     obtain ⟨rfl,hout⟩:=h
     obtain ⟨us,h1,h2,h3⟩:=finLVs_rep s _ hvs
     obtain ⟨g1,g2⟩:=flat_rep vs h2 hts
     obtain ⟨G1,s1,_,_⟩:=closes_step _ s g1 hts
     exact ⟨fn,oneOrTuple us,hf,results_run h1,C.N,G1,_,_,a,us,s1,hout,rfl,g2⟩
    ·cases h0
   ·cases h0
  ·exact h.elim
 ·obtain ⟨us,h1,h2,h3⟩:=finLVs_rep s _ hfin
  match us,h2 with
  |[u],h2=>
   rw[RepVs] at h2
   have h4:=h2.1
   rw[RepV] at h4
   obtain ⟨b,row,hu,hrow,hL,hre⟩:=h4
   obtain ⟨c1,_⟩:=(s.box n).2.2 hr
   have hb:=s.inj _ _ _ hL (by simpa [hdOf] using c1)
   subst hb
   obtain ⟨G',s'⟩:=s.holdBox hn hr
   refine ⟨fn,oneOrTuple [u],hf,results_run h1,C.N,G',_,_,a,[u],s',killOuts hn hout,rfl,?_⟩
   simp only[ResRep]
   refine ⟨trivial,?_,trivial,trivial⟩
   rw[hu]
   simp [offOf]
  |[],h2=>rw[RepVs] at h2;exact h2.elim
  |_ :: _ :: _,h2=>rw[RepVs,RepVs] at h2;exact absurd h2.2 (by simp)
end
end TM
namespace TM
open Go
def Ends (P:Program) (C:Ctx) (f:FuncId) (rs:List ResultVar) (outs:List (List T)) (res:List Arg):Tree→Prop
 |.ret st=>Fin P rs outs res st
 |.susp k st=>Good C f (Post C outs res) k st
 |.bad=>False
theorem go {C:Ctx} {P:Program} {f:FuncId} {fn:Func} {N:Nat} {outs:List (List T)} {res:List Arg} {k:List It} {st:St} (hP:C.P=P) (hf:P.funcs[f]?=some fn) (hN:C.N=N) (n:Nat) (hw:∀ i∈k,WF i)
  (h:Ends P C f fn.results.toList outs res (ex P N n k st)):Good C f (Post C outs res) k st:=by
 subst hP
 subst hN
 refine ex_sound n k st hw ?_
 cases ht:ex C.P C.N n k st with
 |ret st=>rw[ht] at h;exact good_fin hf h
 |susp k st=>rw[ht] at h;exact h
 |bad=>rw[ht] at h;exact h
theorem Ends_ite {P:Program} {C:Ctx} {f:FuncId} {rs:List ResultVar} {outs:List (List T)} {res:List Arg} {p:Prop} [Decidable p] {a b:Tree} (h1:p→Ends P C f rs outs res a) (h2:¬ p→Ends P C f rs outs res b):Ends P C f rs outs res (if p then a else b):=by
 split
 ·exact h1 (by assumption)
 ·exact h2 (by assumption)
section
variable {P:Program} {C:Ctx} {f:FuncId} {rs:List ResultVar} {outs:List (List T)} {res:List Arg}
theorem Ends_ret {st:St}:Ends P C f rs outs res (.ret st)=Fin P rs outs res st:=rfl
theorem Ends_susp {st:St} {k:List It}:Ends P C f rs outs res (.susp k st)=Good C f (Post C outs res) k st:=rfl
theorem Ends_bad:Ends P C f rs outs res .bad=False:=rfl
theorem Ends_if {p:Prop} [Decidable p] {a b:Tree}:Ends P C f rs outs res (if p then a else b)=((p→Ends P C f rs outs res a)∧(¬ p→Ends P C f rs outs res b)):=by
 split<;>simp_all
end
theorem wrapI {n:Int} (h1 : -9223372036854775808≤n) (h2:n≤9223372036854775807):IntKind.i64.wrap n=n:=by rw[IntKind.wrap_i64];omega
end TM
namespace TM
open Go
mutual
def noFz:T→Prop
 |.sl f es=>f≠.fz∧noFzLL es
 |.pt f cs=>f≠.fz∧noFzL cs
 |.fn _ caps=>noFzL caps
 |.v _=>True
 |.hole=>True
def noFzL:List T→Prop
 |[]=>True
 |x :: xs=>noFz x∧noFzL xs
def noFzLL:List (List T)→Prop
 |[]=>True
 |x :: xs=>noFzL x∧noFzLL xs
end
section
variable {Z Z':Fl→Nat→Prop} {w:World}
mutual
theorem RepC.noFz (hZ:∀ f b,f≠.fz→Z f b→Z' f b):∀ (t:T) {L:Labs} {l:Lab} {u:Value},TM.noFz t→RepC Z w L l t u→RepC Z' w L l t u
 |.v x,_,_,_,_,h=>by rw[RepC] at *;exact h
 |.hole,_,_,_,_,h=>by rw[RepC] at *;exact h
 |.sl f es,L,l,u,hn,h=>by
  rw[TM.noFz] at hn
  rw[RepC] at *
  obtain ⟨a,cap,hu,h1,h2,h3⟩:=h
  refine ⟨a,cap,hu,h1,h2,?_⟩
  rcases h3 with h3 | ⟨b,off,cs,ty,fr,wd,ha,hwd,hh,hsz,hes,ho,hz,hr⟩
  ·exact .inl h3
  ·exact .inr ⟨b,off,cs,ty,fr,wd,ha,hwd,hh,hsz,hes,ho,fun hf=>hZ f b hn.1 (hz hf),RepLL.noFz hZ es hn.2 hr⟩
 |.pt f cs,L,l,u,hn,h=>by
  rw[TM.noFz] at hn
  rw[RepC] at *
  obtain ⟨b,off,vs,ty,fr,hu,hh,ho,hz,hr⟩:=h
  exact ⟨b,off,vs,ty,fr,hu,hh,ho,fun hf=>hZ f b hn.1 (hz hf),RepL.noFz hZ cs hn.2 hr⟩
 |.fn g caps,L,l,u,hn,h=>by
  rw[TM.noFz] at hn
  rw[RepC] at *
  obtain ⟨vs,hu,hs,hr⟩:=h
  exact ⟨vs,hu,hs,RepL.noFz hZ caps hn hr⟩
theorem RepL.noFz (hZ:∀ f b,f≠.fz→Z f b→Z' f b):∀ (ts:List T) {L:Labs} {l:Lab} {c:Nat} {us:List Value},noFzL ts→RepL Z w L l c ts us→RepL Z' w L l c ts us
 |[],_,_,_,_,_,_=>by rw[RepL];trivial
 |t :: ts,_,_,_,[],_,h=>by rw[RepL] at h;exact h.elim
 |t :: ts,L,l,c,u :: us,hn,h=>by
  rw[noFzL] at hn
  rw[RepL] at *
  exact ⟨RepC.noFz hZ t hn.1 h.1,RepL.noFz hZ ts hn.2 h.2⟩
theorem RepLL.noFz (hZ:∀ f b,f≠.fz→Z f b→Z' f b):∀ (es:List (List T)) {L:Labs} {l:Lab} {i:Nat} {us:List Value},noFzLL es→RepLL Z w L l i es us→RepLL Z' w L l i es us
 |[],_,_,_,_,_,_=>by rw[RepLL];trivial
 |e :: es,L,l,i,us,hn,h=>by
  rw[noFzLL] at hn
  rw[RepLL] at *
  exact ⟨RepL.noFz hZ e hn.1 h.1,RepLL.noFz hZ es hn.2 h.2⟩
end
end
def mvIdx (n:Nm):Nat→List (Option Nm)→Option Nat
 |_,[]=>none
 |i,some m :: rest=>if m=n then some i else mvIdx n (i+1) rest
 |i,none :: rest=>mvIdx n (i+1) rest
theorem mvIdx_some {n:Nm}:∀ {mv:List (Option Nm)} {i k:Nat},mvIdx n i mv=some k→i≤k∧mv[k-i]?=some (some n)
 |[],_,_,h=>by cases h
 |some m :: rest,i,k,h=>by
  simp only[mvIdx] at h
  split at h
  ·rename_i e;subst e;cases h;simp
  ·obtain ⟨h1,h2⟩:=mvIdx_some h
   refine ⟨by omega,?_⟩
   rw[show k-i=(k-(i+1))+1 by omega]
   simpa using h2
 |none :: rest,i,k,h=>by
  simp only[mvIdx] at h
  obtain ⟨h1,h2⟩:=mvIdx_some h
  refine ⟨by omega,?_⟩
  rw[show k-i=(k-(i+1))+1 by omega]
  simpa using h2
theorem mvIdx_none {n:Nm}:∀ {mv:List (Option Nm)} {i:Nat},mvIdx n i mv=none→∀ k:Nat,mv[k]?≠some (some n)
 |[],_,_,k=>by simp
 |some m :: rest,i,h,k=>by
  simp only[mvIdx] at h
  split at h
  ·cases h
  ·rename_i e
   cases k with
   |zero=>simp;exact e
   |succ k=>simpa using mvIdx_none h k
 |none :: rest,i,h,k=>by
  simp only[mvIdx] at h
  cases k with
  |zero=>simp
  |succ k=>simpa using mvIdx_none h k
def resBox:List Arg→Nat→Box
 |[],_=>⟨false,[]⟩
 |.ptr cs :: _,0=>⟨true,cs⟩
 |r :: _,0=>⟨false,r.given⟩
 |_ :: rs,j+1=>resBox rs j
def resOne (d j:Nat):Arg→LV
 |.one x=>seen (d,j) [0] x
 |.agg cs=>.agg (seens (d,j) [0] 0 cs)
 |.ptr _=>.addr (d,j) [0]
 |_=>.dead
def resLVs (d:Nat):Nat→List Arg→List LV
 |_,[]=>[]
 |j,r :: rs=>resOne d j r :: resLVs d (j+1) rs
theorem resLVs_get {d:Nat}:∀ {rs:List Arg} {j i:Nat},(resLVs d j rs)[i]?=rs[i]?.map (resOne d (j+i))
 |[],_,_=>by simp [resLVs]
 |r :: rs,j,0=>by simp [resLVs]
 |r :: rs,j,i+1=>by
  have:=resLVs_get (d:=d) (rs:=rs) (j:=j+1) (i:=i)
  rw[show j+1+i=j+(i+1) by omega] at this
  simpa [resLVs] using this
theorem resLVs_length {d:Nat}:∀ {rs:List Arg} {j:Nat},(resLVs d j rs).length=rs.length
 |[],_=>rfl
 |r :: rs,j=>by simp [resLVs,resLVs_length (rs:=rs)]
theorem resBox_get:∀ {rs:List Arg} {i:Nat} {r:Arg},rs[i]?=some r→resBox rs i=(match r with | .ptr cs=>⟨true,cs⟩ | r=>⟨false,r.given⟩)
 |[],_,_,h=>by simp at h
 |r :: rs,0,r',h=>by simp at h;subst h;cases r<;>rfl
 |r :: rs,i+1,r',h=>by
  have:=resBox_get (rs:=rs) (i:=i) (r:=r') (by simpa using h)
  rw[← this]
  cases r<;>rfl
theorem resBox_noFz:∀ {rs:List Arg} {i:Nat},(∀ r∈rs,noFzL r.given)→noFzL (resBox rs i).cells
 |[],_,_=>by simp [resBox,noFzL]
 |r :: rs,0,h=>by
  have:=h r (by simp)
  cases r with
  |ptr cs=>simp [Arg.given,noFzL,noFz] at this;exact this
  |one x=>exact this
  |agg x=>exact this
  |own x=>exact this
  |owns x=>exact this
 |r :: rs,i+1,h=>by
  have:=resBox_noFz (rs:=rs) (i:=i) (fun r hr=>h r (by simp [hr]))
  cases r<;>exact this
def tupLV:List LV→LV
 |[v]=>v
 |vs=>.tup vs
def resLV (d:Nat) (res:List Arg):LV:=tupLV (resLVs d 2 res)
def gone (d:Nat) (m:Nm):Bool:=m.1==d&&2≤m.2
mutual
def callV (d:Nat) (mv:List (Option Nm)) (args:List Arg) (outs:List (List T)):LV→LV
 |.ref m q lo hi=>if gone d m=true then .dead else match mvIdx m 0 mv with
  |none=>.ref m q lo hi
  |some i=>match args[i]?,q with
   |some (.ptr _),_=>.dead
   |_,[j]=>(match (outs.getD i [])[j]?,lo with
    |some (.sl .own _),0=>.ref m q lo hi
    |_,_=>.dead)
   |_,_=>.dead
 |.addr m q=>if gone d m=true then .dead else match mvIdx m 0 mv with
  |none=>.addr m q
  |some _=>if q.length=1 then .addr m q else .dead
 |.agg xs=>.agg (callVs d mv args outs xs)
 |.tup xs=>.tup (callVs d mv args outs xs)
 |.fn g xs=>.fn g (callVs d mv args outs xs)
 |.va xs=>.va (callVs d mv args outs xs)
 |.t x=>.t x
 |.raddr cs=>.raddr cs
 |.dead=>.dead
def callVs (d:Nat) (mv:List (Option Nm)) (args:List Arg) (outs:List (List T)):List LV→List LV
 |[]=>[]
 |x :: xs=>callV d mv args outs x :: callVs d mv args outs xs
end
def afterCall (st:St) (d:Nat) (mv:List (Option Nm)) (args:List Arg) (outs:List (List T)) (res:List Arg):St:=
 ⟨fun u=>if u=d then resLV d res else callV d mv args outs (st.s u),
  fun m=>if gone d m=true then resBox res (m.2-2) else match mvIdx m 0 mv with
   |some i=>⟨(st.b m).real,outs.getD i []⟩
   |none=>st.b m⟩
def labIn (mv:List (Option Nm)) (L:Labs):Labs:=fun b=>match L b with
 |some (.box n,r)=>(mvIdx n 0 mv).map fun i=>(.box (i,1),r)
 |_=>none
def ctxIn (C:Ctx) (G:Gh) (st:St) (w:World) (mv:List (Option Nm)) (lent:Bool):Ctx where
 P:=C.P
 w0:=w
 Zf b:=C.Zf b∨(lent=true∧∃ l,G.L b=some l∧labIn mv G.L b=none)
 Zn:=G.Zn
 F0 b:=∃ l,labIn mv G.L b=some l
 N:=0
 blk0 i:=match mv[i]? with | some (some n)=>G.blk n | _=>0
 real0 i:=match mv[i]? with | some (some n)=>(st.b n).real | _=>false
 vals0 i:=match mv[i]? with | some (some n)=>if (st.b n).real=true then [] else G.vals n | _=>[]
def resPlace:Nat→List Arg→Nat→Option (Nat×List Nat)
 |_,[],_=>none
 |j,.agg cs :: rs,k=>if k<cs.length then some (j,[k]) else resPlace (j+1) rs (k-cs.length)
 |j,.one _ :: _,0=>some (j,[0])
 |j,.one _ :: rs,k+1=>resPlace (j+1) rs k
 |j,.ptr _ :: _,0=>some (j,[])
 |j,.ptr _ :: rs,k+1=>resPlace (j+1) rs k
 |j,_ :: rs,k=>resPlace (j+1) rs k
theorem resPlace_ge:∀ {rs:List Arg} {j k j':Nat} {p:List Nat},resPlace j rs k=some (j',p)→j≤j'
 |[],_,_,_,_,h=>by cases h
 |.agg cs :: rs,j,k,j',p,h=>by
  simp only[resPlace] at h
  split at h
  ·cases h;omega
  ·have:=resPlace_ge h;omega
 |.one _ :: rs,j,0,j',p,h=>by cases h;omega
 |.one _ :: rs,j,k+1,j',p,h=>by have:=resPlace_ge (rs:=rs) (k:=k) h;omega
 |.ptr _ :: rs,j,0,j',p,h=>by cases h;omega
 |.ptr _ :: rs,j,k+1,j',p,h=>by have:=resPlace_ge (rs:=rs) (k:=k) h;omega
 |.own _ :: rs,j,k,j',p,h=>by have:=resPlace_ge (rs:=rs) (j:=j+1) (k:=k) h;omega
 |.owns _ :: rs,j,k,j',p,h=>by have:=resPlace_ge (rs:=rs) (j:=j+1) (k:=k) h;omega
theorem resPlace_inj:∀ {rs:List Arg} {j k k' j':Nat} {p p' r r':List Nat},resPlace j rs k=some (j',p)→resPlace j rs k'=some (j',p')→p++r=p'++r'→k=k'∧p=p'
 |[],_,_,_,_,_,_,_,_,h,_,_=>by cases h
 |.agg cs :: rs,j,k,k',j',p,p',r,r',h,h',e=>by
  simp only[resPlace] at h h'
  split at h
  ·cases h
   split at h'
   ·cases h';simp at e;exact ⟨e.1,by rw[e.1]⟩
   ·have:=resPlace_ge h';omega
  ·split at h'
   ·cases h';have:=resPlace_ge h;omega
   ·obtain ⟨e1,e2⟩:=resPlace_inj h h' e
    exact ⟨by omega,e2⟩
 |.one _ :: rs,j,0,0,j',p,p',r,r',h,h',e=>by cases h;cases h';exact ⟨rfl,rfl⟩
 |.one _ :: rs,j,0,k'+1,j',p,p',r,r',h,h',e=>by cases h;have:=resPlace_ge (rs:=rs) (k:=k') h';omega
 |.one _ :: rs,j,k+1,0,j',p,p',r,r',h,h',e=>by cases h';have:=resPlace_ge (rs:=rs) (k:=k) h;omega
 |.one _ :: rs,j,k+1,k'+1,j',p,p',r,r',h,h',e=>by
  obtain ⟨e1,e2⟩:=resPlace_inj (rs:=rs) (k:=k) (k':=k') h h' e
  exact ⟨by omega,e2⟩
 |.ptr _ :: rs,j,0,0,j',p,p',r,r',h,h',e=>by cases h;cases h';exact ⟨rfl,rfl⟩
 |.ptr _ :: rs,j,0,k'+1,j',p,p',r,r',h,h',e=>by cases h;have:=resPlace_ge (rs:=rs) (k:=k') h';omega
 |.ptr _ :: rs,j,k+1,0,j',p,p',r,r',h,h',e=>by cases h';have:=resPlace_ge (rs:=rs) (k:=k) h;omega
 |.ptr _ :: rs,j,k+1,k'+1,j',p,p',r,r',h,h',e=>by
  obtain ⟨e1,e2⟩:=resPlace_inj (rs:=rs) (k:=k) (k':=k') h h' e
  exact ⟨by omega,e2⟩
 |.own _ :: rs,j,k,k',j',p,p',r,r',h,h',e=>resPlace_inj (rs:=rs) (j:=j+1) h h' e
 |.owns _ :: rs,j,k,k',j',p,p',r,r',h,h',e=>resPlace_inj (rs:=rs) (j:=j+1) h h' e
def labOut (d:Nat) (mv:List (Option Nm)) (res:List Arg) (n0:Nat) (L L1:Labs):Labs:=fun b=>match L1 b with
 |some (.box (i,k),r)=>if k=1 then (match mv[i]? with
  |some (some n)=>if gone d n=true then none else some (.box n,r)
  |_=>none) else none
 |some (.held k,r)=>(match resPlace 2 res k with
  |some (j,p)=>some (.box (d,j),p++r)
  |none=>none)
 |none=>if b<n0∧labIn mv L b=none then (match L b with
  |some (.box n,r)=>if gone d n=true then none else some (.box n,r)
  |_=>none) else none
end TM
namespace TM
open Go
section
variable {C:Ctx} {G:Gh} {st st1 st':St} {hs:List (T×Value)} {a:Act} {w:World}
theorem labIn_some {mv:List (Option Nm)} {L:Labs} {b:Nat} {l:Lab} (h:labIn mv L b=some l):∃ n r i,L b=some (.box n,r)∧mv[i]?=some (some n)∧l=(.box (i,1),r):=by
 unfold labIn at h
 split at h
 ·rename_i n r hL
  obtain ⟨i,hi,rfl⟩:=Option.map_eq_some_iff.1 h
  exact ⟨n,r,i,hL,by simpa using (mvIdx_some hi).2,rfl⟩
 ·cases h
theorem mvIdx_mk {mv:List (Option Nm)} (hd:∀ (i j:Nat) (n:Nm),mv[i]?=some (some n)→mv[j]?=some (some n)→i=j) {i:Nat} {n:Nm} (h:mv[i]?=some (some n)):mvIdx n 0 mv=some i:=by
 cases hm:mvIdx n 0 mv with
 |none=>exact (mvIdx_none hm i h).elim
 |some k=>
  have:=(mvIdx_some hm).2
  rw[Nat.sub_zero] at this
  rw[hd _ _ _ this h]
theorem labIn_mk {mv:List (Option Nm)} (hd:∀ (i j:Nat) (n:Nm),mv[i]?=some (some n)→mv[j]?=some (some n)→i=j) {L:Labs} {b i:Nat} {n:Nm} {r:List Nat} (h:mv[i]?=some (some n)) (hL:L b=some (.box n,r)) :
  labIn mv L b=some (.box (i,1),r):=by
 unfold labIn
 rw[hL]
 simp only[mvIdx_mk hd h,Option.map_some]
theorem res_rep {Z Z':Fl→Nat→Prop} {w':World} {L1 L2:Labs} {d:Nat} (hz:∀ f b,Z f b→Z' f b):∀ (rs:List Arg) {hs:List (T×Value)} {vs:List Value} {j k0:Nat},ResRep rs hs vs →
  (∀ k x u,hs[k]?=some (x,u)→RepC Z w' L1 (.held (k0+k),[]) x u) →
  (∀ b k r j' p,L1 b=some (.held (k0+k),r)→resPlace j rs k=some (j',p)→L2 b=some (.box (d,j'),p++r)) →
  vs.length=rs.length∧(∀ i,∃ us b,RepL Z' w' L2 (.box (d,j+i),[]) 0 (resBox rs i).cells us∧us.length=(resBox rs i).cells.length∧((resBox rs i).real=true→L2 b=some (.box (d,j+i),[])∧∃ ty,w'.heap[b]?=some (.cells us.toArray ty (0,0))) ∧
   ∀ r v,rs[i]?=some r→vs[i]?=some v→match r with | .one _=>us=[v] | .agg _=>v=.agg us.toArray | .ptr _=>v=.pointer (some ⟨b,0,none⟩) | _=>True)
 |[],hs,vs,j,k0,hr,_,_=>by
  cases vs with
  |nil=>exact ⟨rfl,fun i=>⟨[],0,by simp only[resBox];rw[RepL];trivial,rfl,(fun h=>by cases h),fun r v h=>by simp at h⟩⟩
  |cons v vs=>simp [ResRep] at hr
 |.agg cs :: rs,hs,[],j,k0,hr,_,_=>by simp [ResRep] at hr
 |.agg cs :: rs,hs,v :: vs,j,k0,hr,hh,hl=>by
  simp only[ResRep] at hr
  obtain ⟨us,hs1,hs2,rfl,rfl,e1,e2,hr⟩:=hr
  have hl1:hs1.length=cs.length:=by rw[← e1];simp
  have hlu:us.toList.length=cs.length:=by rw[← e2];simp [hl1]
  obtain ⟨g1,g2⟩:=res_rep hz rs (j:=j+1) (k0:=k0+cs.length) hr (fun k x u hk=>by
   have:=hh (hs1.length+k) x u (by rw[List.getElem?_append_right (by omega)];simpa using hk)
   rw[hl1] at this
   rw[Nat.add_assoc];exact this) (fun b k r j' p hb hp=>by
   refine hl b (cs.length+k) r j' p (by rw[← Nat.add_assoc];exact hb) ?_
   simp only[resPlace]
   rw[if_neg (by omega),show cs.length+k-cs.length=k by omega]
   exact hp)
  refine ⟨by simp [g1],fun i=>?_⟩
  cases i with
  |succ i=>
   obtain ⟨us',b,k1,k2,k3,k4⟩:=g2 i
   rw[show j+1+i=j+(i+1) by omega] at k1 k3
   exact ⟨us',b,k1,k2,k3,fun r v h1 h2=>k4 r v (by simpa using h1) (by simpa using h2)⟩
  |zero=>
   refine ⟨us.toList,0,?_,hlu,(fun h=>by cases h),fun r v h1 h2=>by simp at h1 h2;subst h1;subst h2;rfl⟩
   refine RepL.of_get fun c t hc=>?_
   simp only[resBox,Arg.given] at hc
   have hlt:c<cs.length:=(List.getElem?_eq_some_iff.1 hc).1
   refine ⟨us.toList[c],by simp,?_⟩
   have h1:hs1[c]?=some (t,us.toList[c]'(by omega)):=by
    have q1:(hs1.map (·.1))[c]?=some t:=by rw[e1];exact hc
    have q2:(hs1.map (·.2))[c]?=some (us.toList[c]'(by omega)):=by rw[e2];simp
    rw[List.getElem?_map] at q1 q2
    obtain ⟨y,hy,rfl⟩:=Option.map_eq_some_iff.1 q1
    rw[hy] at q2
    simp only[Option.map_some,Option.some.injEq] at q2
    rw[hy,← q2]
   have h2:=hh c t _ (by rw[List.getElem?_append_left (by omega)];exact h1)
   refine RepC.move (fun f b hb=>⟨hz f b hb,rfl⟩) t (fun b r hb=>⟨?_,rfl⟩) h2
   have:=hl b c r j [c] (by simpa using hb) (by simp [resPlace,hlt])
   simpa [Lab.add] using this
 |.one y :: rs,[],vs,j,k0,hr,_,_=>by simp [ResRep] at hr
 |.one y :: rs,h :: hs,[],j,k0,hr,_,_=>by simp [ResRep] at hr
 |.one y :: rs,(x,u) :: hs,v :: vs,j,k0,hr,hh,hl=>by
  simp only[ResRep] at hr
  obtain ⟨rfl,rfl,hr⟩:=hr
  obtain ⟨g1,g2⟩:=res_rep hz rs (j:=j+1) (k0:=k0+1) hr (fun k x u hk=>by
   have:=hh (k+1) x u (by simpa using hk)
   rw[show k0+1+k=k0+(k+1) by omega];exact this) (fun b k r j' p hb hp=>by
   refine hl b (k+1) r j' p (by rw[show k0+(k+1)=k0+1+k by omega];exact hb) ?_
   simpa [resPlace] using hp)
  refine ⟨by simp [g1],fun i=>?_⟩
  cases i with
  |succ i=>
   obtain ⟨us',b,k1,k2,k3,k4⟩:=g2 i
   rw[show j+1+i=j+(i+1) by omega] at k1 k3
   exact ⟨us',b,k1,k2,k3,fun r v h1 h2=>k4 r v (by simpa using h1) (by simpa using h2)⟩
  |zero=>
   refine ⟨[u],0,?_,rfl,(fun h=>by cases h),fun r v h1 h2=>by simp at h1 h2;subst h1;subst h2;rfl⟩
   simp only[resBox,Arg.given]
   rw[RepL,RepL]
   refine ⟨RepC.move (fun f b hb=>⟨hz f b hb,rfl⟩) y (fun b r hb=>⟨?_,rfl⟩) (hh 0 y u rfl),trivial⟩
   have:=hl b 0 r j [0] (by simpa using hb) rfl
   simpa [Lab.add] using this
 |.ptr cs :: rs,[],vs,j,k0,hr,_,_=>by simp [ResRep] at hr
 |.ptr cs :: rs,h :: hs,[],j,k0,hr,_,_=>by simp [ResRep] at hr
 |.ptr cs :: rs,(x,u) :: hs,v :: vs,j,k0,hr,hh,hl=>by
  simp only[ResRep] at hr
  obtain ⟨rfl,rfl,hr⟩:=hr
  obtain ⟨g1,g2⟩:=res_rep hz rs (j:=j+1) (k0:=k0+1) hr (fun k x u hk=>by
   have:=hh (k+1) x u (by simpa using hk)
   rw[show k0+1+k=k0+(k+1) by omega];exact this) (fun b k r j' p hb hp=>by
   refine hl b (k+1) r j' p (by rw[show k0+(k+1)=k0+1+k by omega];exact hb) ?_
   simpa [resPlace] using hp)
  refine ⟨by simp [g1],fun i=>?_⟩
  cases i with
  |succ i=>
   obtain ⟨us',b,k1,k2,k3,k4⟩:=g2 i
   rw[show j+1+i=j+(i+1) by omega] at k1 k3
   exact ⟨us',b,k1,k2,k3,fun r v h1 h2=>k4 r v (by simpa using h1) (by simpa using h2)⟩
  |zero=>
   have h0:=hh 0 _ u rfl
   rw[RepC] at h0
   obtain ⟨b,off,vs',ty,fr,hu,hhp,ho,hzz,hr0⟩:=h0
   obtain ⟨hL,rfl,rfl,hsz⟩:=ho rfl
   refine ⟨vs'.toList,b,?_,by simp only[resBox];simpa using hsz,fun _=>⟨?_,ty,by simpa using hhp⟩,fun r v h1 h2=>by simp at h1 h2;subst h1;subst h2;exact hu⟩
   ·simp only[resBox]
    refine RepL.move (fun f b hb=>⟨hz f b hb,rfl⟩) cs (fun b r hb=>⟨?_,rfl⟩) (by simpa using hr0)
    have:=hl b 0 r j [] (by simpa [Fl.labs] using hb) rfl
    simpa using this
   ·have:=hl b 0 [] j [] (by simpa using hL) rfl
    simpa using this
 |.own y :: rs,hs,vs,j,k0,hr,_,_=>by simp [ResRep] at hr
 |.owns y :: rs,hs,vs,j,k0,hr,_,_=>by simp [ResRep] at hr
end
end TM
namespace TM
open Go
section
variable {C:Ctx} {G:Gh} {st st1 st':St} {hs:List (T×Value)} {a:Act} {w:World}
def ArgS (C:Ctx) (G:Gh) (st:St) (w:World) (mv:List (Option Nm)) (lent:Bool) (i:Nat) (u:Value) (c:Arg):Prop:=match mv[i]? with
 |some (some n)=>(match c with
  |.ptr cs=>u=.pointer (some ⟨G.blk n,0,none⟩)∧(st.b n).real=true∧(st.b n).cells=cs
  |.own x=>(st.b n).real=false∧(st.b n).cells=[x]∧G.vals n=[u]
  |.owns cs=>(st.b n).real=false∧(st.b n).cells=cs∧∃ us:Array Value,u=.agg us∧G.vals n=us.toList
  |_=>False)
 |_=>(match c with
  |.one x=>RepC (Zof (ctxIn C G st w mv lent).Zf G.Zn) w noLab noWhere x u
  |.agg cs=>∃ us:Array Value,u=.agg us∧us.size=cs.length∧RepL (Zof (ctxIn C G st w mv lent).Zf G.Zn) w noLab noWhere 0 cs us.toList
  |_=>False)
theorem gone_iff {d:Nat} {m:Nm}:gone d m=true↔m.1=d∧2≤m.2:=by simp [gone]
theorem zone_in {mv:List (Option Nm)} {lent:Bool}:∀ f b,C.Z G f b→Zof (ctxIn C G st w mv lent).Zf G.Zn f b:=by
 intro f b h
 cases f
 ·exact h
 ·exact h
 ·rcases h with h | h
  ·exact .inl (.inl h)
  ·exact .inr h
theorem call_in (s:Sim C G st [] a w) {f:FuncId} {args res:List Arg} {outs:List (List T)} {us:List Value} {mv:List (Option Nm)} {lent:Bool} (F:Fun C.P f args outs res)
  (hd:∀ (i j:Nat) (n:Nm),mv[i]?=some (some n)→mv[j]?=some (some n)→i=j) (hl:us.length=args.length) (hm:mv.length=args.length)
  (hrep:∀ (i:Nat) (c:Arg) (u:Value),args[i]?=some c→us[i]?=some u→ArgS C G st w mv lent i u c) :
  Calls C.P f us.toArray w (fun e w'=>match e with | .returned v=>Post (ctxIn C G st w mv lent) outs res v w' | _=>False):=by
 refine F.2 (ctxIn C G st w mv lent) (labIn mv G.L) us rfl hl ?_ ?_ ?_ ?_ ?_
 ·intro b b' l h h'
  obtain ⟨n,r,i,h1,h2,rfl⟩:=labIn_some h
  obtain ⟨n',r',i',k1,k2,e⟩:=labIn_some h'
  simp only[Prod.mk.injEq,Root.box.injEq,and_true] at e
  obtain ⟨rfl,rfl⟩:=e
  rw[h2] at k2
  cases k2
  exact s.inj _ _ _ h1 k1
 ·intro b l h
  obtain ⟨n,r,i,h1,_⟩:=labIn_some h
  exact ⟨(s.lab _ _ h1).1,l,h⟩
 ·intro b h
  have hnone:G.L b=none→labIn mv G.L b=none:=fun e=>by unfold labIn;rw[e]
  rcases h with (h | ⟨_,l,h1,h2⟩) | h
  ·exact ⟨hnone (s.zone b (.inl h)).1,(s.zone b (.inl h)).2⟩
  ·exact ⟨h2,(s.lab _ _ h1).1⟩
  ·exact ⟨hnone (s.zone b (.inr h)).1,(s.zone b (.inr h)).2⟩
 ·intro i hi
  have:mv[i]?=none:=List.getElem?_eq_none (by omega)
  simp [ctxIn,this]
 ·intro i c u hc hu
  have h:=hrep i c u hc hu
  have hi:i<mv.length:=by
   have:=(List.getElem?_eq_some_iff.1 hc).1
   omega
  unfold ArgS at h
  have move:∀ n,mv[i]?=some (some n)→RepL (Zof (ctxIn C G st w mv lent).Zf G.Zn) w (labIn mv G.L) (.box (i,1),[]) 0 (st.b n).cells (G.vals n):=by
   intro n hn
   refine RepL.move (fun f b hb=>⟨zone_in f b hb,rfl⟩) _ (fun b r hb=>⟨?_,rfl⟩) (s.box n).1
   have:=labIn_mk hd hn (r:=r) (by simpa using hb)
   simpa using this
  cases hn:mv[i]? with
  |none=>rw[List.getElem?_eq_getElem hi] at hn;cases hn
  |some o=>
   rw[hn] at h
   cases o with
   |none=>
    simp only at h
    cases c with
    |one x=>exact ⟨h,by simp [ctxIn,hn],by simp [ctxIn,hn]⟩
    |agg cs=>exact ⟨h,by simp [ctxIn,hn],by simp [ctxIn,hn]⟩
    |ptr cs=>exact h.elim
    |own x=>exact h.elim
    |owns cs=>exact h.elim
   |some n=>
    simp only at h
    have hmn:=move n hn
    cases c with
    |one x=>exact h.elim
    |agg cs=>exact h.elim
    |ptr cs=>
     obtain ⟨rfl,h1,rfl⟩:=h
     obtain ⟨k1,k2,k3⟩:=s.box n
     obtain ⟨k4,ty,k5⟩:=k3 h1
     refine ⟨by simp [ctxIn,hn],by simp [ctxIn,hn,h1],?_,G.vals n,ty,?_,k2,hmn⟩
     ·simp only[ctxIn,hn]
      exact labIn_mk hd hn k4
     ·simp only[ctxIn,hn]
      exact k5
    |own x=>
     obtain ⟨h1,h2,h3⟩:=h
     rw[h2,h3] at hmn
     exact ⟨by simp [ctxIn,hn,h1],by simp [ctxIn,hn,h1,h3],hmn⟩
    |owns cs=>
     obtain ⟨h1,rfl,us',rfl,h3⟩:=h
     have hlen:=(s.box n).2.1
     rw[h3] at hmn hlen
     exact ⟨us',rfl,by simp [ctxIn,hn,h1],by simp [ctxIn,hn,h1,h3],by simpa using hlen,hmn⟩
end
end TM
namespace TM
open Go
theorem labOut_some {d:Nat} {mv:List (Option Nm)} {res:List Arg} {n0:Nat} {L L1:Labs} {b:Nat} {l:Lab} (h:labOut d mv res n0 L L1 b=some l) :
  (∃ i n r,L1 b=some (.box (i,1),r)∧mv[i]?=some (some n)∧gone d n=false∧l=(.box n,r)) ∨
  (∃ k r j p,L1 b=some (.held k,r)∧resPlace 2 res k=some (j,p)∧l=(.box (d,j),p++r)) ∨
  (L1 b=none∧b<n0∧labIn mv L b=none∧∃ n r,L b=some (.box n,r)∧gone d n=false∧l=(.box n,r)):=by
 unfold labOut at h
 split at h
 ·rename_i i k r h1
  split at h
  ·rename_i hk
   subst hk
   split at h
   ·rename_i n hn
    split at h
    ·cases h
    ·rename_i hg
     cases h
     exact .inl ⟨i,n,r,h1,hn,by simpa using hg,rfl⟩
   ·cases h
  ·cases h
 ·rename_i k r h1
  split at h
  ·rename_i j p hp
   cases h
   exact .inr (.inl ⟨k,r,j,p,h1,hp,rfl⟩)
  ·cases h
 ·rename_i h1
  split at h
  ·rename_i hc
   split at h
   ·rename_i n r hL
    split at h
    ·cases h
    ·rename_i hg
     cases h
     exact .inr (.inr ⟨h1,hc.1,hc.2,n,r,hL,by simpa using hg,rfl⟩)
   ·cases h
  ·cases h
section
variable {C:Ctx} {G:Gh} {st st1 st':St} {hs:List (T×Value)} {a:Act} {w:World}
theorem outsOK_get {st1:St}:∀ {outs:List (List T)} {i0:Nat},OutsOK st1 i0 outs→∀ (i:Nat) (c:List T),outs[i]?=some c→(st1.b (i0+i,1)).cells=c
 |[],_,_,i,c,h=>by simp at h
 |o :: outs,i0,h,i,c,hi=>by
  rw[OutsOK] at h
  cases i with
  |zero=>simp at hi;subst hi;exact h.1
  |succ i=>
   have:=outsOK_get h.2 i c (by simpa using hi)
   rw[show i0+(i+1)=i0+1+i by omega]
   exact this
theorem RepV.call {G2:Gh} {w':World} {b2:Nm→Box} {d:Nat} {mv:List (Option Nm)} {args:List Arg} {outs:List (List T)} (k:Keeps C G G2 w w')
  (hr:∀ m q lo hi v,RepV C G w st.b (.ref m q lo hi) v→RepV C G2 w' b2 (callV d mv args outs (.ref m q lo hi)) v)
  (ha:∀ m q v,RepV C G w st.b (.addr m q) v→RepV C G2 w' b2 (callV d mv args outs (.addr m q)) v) :
  ∀ (x:LV) {u:Value},RepV C G w st.b x u→RepV C G2 w' b2 (callV d mv args outs x) u:=by
 suffices H:(∀ (x:LV) {u:Value},RepV C G w st.b x u→RepV C G2 w' b2 (callV d mv args outs x) u)∧True from H.1
 refine ⟨?_,trivial⟩
 intro x
 induction x using LV.rec (motive_2:=fun xs=>∀ us,RepVs C G w st.b xs us→RepVs C G2 w' b2 (callVs d mv args outs xs) us) with
 |t x=>intro u h;rw[callV,RepV] at *;exact h.keeps k
 |ref m q lo hi=>intro u h;exact hr m q lo hi u h
 |addr m q=>intro u h;exact ha m q u h
 |raddr cs=>
  intro u h
  rw[callV]
  rw[RepV] at *
  obtain ⟨f,b,off,vs,ty,fr,h1,h2,h3,h4⟩:=h
  exact ⟨f,b,off,vs,ty,fr,h1,(k.Z f b h3).2.trans h2,(k.Z f b h3).1,RepL.move k.Z cs noLab_under h4⟩
 |agg xs ih=>
  intro u h
  rw[callV]
  rw[RepV] at *
  obtain ⟨us,h1,h2⟩:=h
  exact ⟨us,h1,ih _ h2⟩
 |tup xs ih=>
  intro u h
  rw[callV]
  rw[RepV] at *
  obtain ⟨us,h1,h2⟩:=h
  exact ⟨us,h1,ih _ h2⟩
 |fn g xs ih=>
  intro u h
  rw[callV]
  rw[RepV] at *
  obtain ⟨us,h1,h2⟩:=h
  exact ⟨us,h1,ih _ h2⟩
 |va xs ih=>
  intro u h
  rw[callV]
  rw[RepV] at *
  obtain ⟨b,off,vs,ty,fr,h1,h2,h3,h4⟩:=h
  exact ⟨b,off,vs,ty,fr,h1,(k.Z .nw b h3).2.trans h2,(k.Z .nw b h3).1,ih _ h4⟩
 |dead=>intro u h;rw[callV,RepV];trivial
 |nil=>rename_i us h;rw[callVs];rw[RepVs] at *;exact h
 |cons x xs ihx ihxs=>
  rename_i us h
  cases us with
  |nil=>rw[RepVs] at h;exact h.elim
  |cons u us=>
   rw[RepVs] at h
   rw[callVs,RepVs]
   exact ⟨ihx h.1,ihxs us h.2⟩
theorem oneOrTuple_rep {bx:Nm→Box} {xs:List LV} {vs:List Value} (h:RepVs C G w bx xs vs):RepV C G w bx (tupLV xs) (oneOrTuple vs):=by
 match xs,vs,h with
 |[],[],h=>show RepV C G w bx (.tup []) _;rw[RepV];exact ⟨#[],rfl,by rw[RepVs]⟩
 |[x],[v],h=>rw[RepVs] at h;exact h.1
 |x :: y :: xs,u :: v :: vs,h=>show RepV C G w bx (.tup (x :: y :: xs)) _;rw[RepV];exact ⟨_,rfl,by simpa using h⟩
 |[],v :: vs,h=>rw[RepVs] at h;cases h
 |x :: xs,[],h=>rw[RepVs] at h;exact h.elim
 |[x],u :: v :: vs,h=>rw[RepVs,RepVs] at h;cases h.2
 |x :: y :: xs,[u],h=>rw[RepVs,RepVs] at h;exact h.2.elim
theorem call_out (s:Sim C G st [] a w) {args res:List Arg} {outs:List (List T)} {mv:List (Option Nm)} {lent:Bool} {v:Value} {w':World} (p:Post (ctxIn C G st w mv lent) outs res v w') (d:Nat) (hdN:d<C.N)
  (hd:∀ (i j:Nat) (n:Nm),mv[i]?=some (some n)→mv[j]?=some (some n)→i=j)
  (hargs:∀ (i:Nat) (n:Nm),mv[i]?=some (some n)→(st.b n).real=false∨∃ cs,args[i]?=some (.ptr cs))
  (houts:∀ (i:Nat) (n:Nm),mv[i]?=some (some n)→i<outs.length)
  (hnf:lent=true→(∀ r∈res,noFzL r.given)∧∀ o∈outs,noFzL o) :
  ∃ G2,Sim C G2 (afterCall st d mv args outs res) [] (a.put (some d) v) w'∧∀ m i,gone d m=false→mvIdx m 0 mv=some i→(st.b m).real=false→G2.vals m=G.vals m:=by
 obtain ⟨N',G1,st1,hs1,a1,vs,s1,hout,rfl,hres⟩:=p
 let L2:=labOut d mv res w.heap.size G.L G1.L
 have l_res:∀ b k r j q,G1.L b=some (.held k,r)→resPlace 2 res k=some (j,q)→L2 b=some (.box (d,j),q++r):=by
  intro b k r j q h1 h2
  show labOut d mv res w.heap.size G.L G1.L b=_
  unfold labOut
  rw[h1]
  simp only[h2]
 have l_mv:∀ b i r n,G1.L b=some (.box (i,1),r)→mv[i]?=some (some n)→gone d n=false→L2 b=some (.box n,r):=by
  intro b i r n h1 h2 h3
  show labOut d mv res w.heap.size G.L G1.L b=_
  unfold labOut
  rw[h1]
  simp [h2,h3]
 have notF:∀ b,labIn mv G.L b=none→b<w.heap.size→G1.L b=none∧w'.heap[b]?=w.heap[b]?:=by
  intro b h1 h2
  refine ⟨?_,s1.old b h2 (by rintro ⟨l,hl⟩;rw[h1] at hl;cases hl)⟩
  cases h:G1.L b with
  |none=>rfl
  |some l=>
   rcases (s1.lab b l h).2 with h3 | ⟨l',h3⟩
   ·exact absurd h2 (Nat.not_lt.2 h3)
   ·rw[h1] at h3;cases h3
 have in_none:∀ b n r,G.L b=some (.box n,r)→mvIdx n 0 mv=none→labIn mv G.L b=none:=by
  intro b n r h1 h2
  unfold labIn
  rw[h1]
  simp [h2]
 have l_old:∀ b n r,G.L b=some (.box n,r)→mvIdx n 0 mv=none→gone d n=false→L2 b=some (.box n,r)∧w'.heap[b]?=w.heap[b]?:=by
  intro b n r h1 h2 h3
  have h4:=in_none b n r h1 h2
  have hb:=(s.lab _ _ h1).1
  obtain ⟨h5,h6⟩:=notF b h4 hb
  refine ⟨?_,h6⟩
  show labOut d mv res w.heap.size G.L G1.L b=_
  unfold labOut
  rw[h5]
  simp [hb,h4,h1,h3]
 have zone_same:∀ b,C.Zf b∨G.Zn b→w'.heap[b]?=w.heap[b]?:=by
  intro b h
  have:=s.zone b h
  exact (notF b (by unfold labIn;rw[this.1]) this.2).2
 let ZO:Fl→Nat→Prop:=Zof C.Zf G1.Zn
 have znG:∀ b,G.Zn b→G1.Zn b:=fun b h=>s1.zin b h
 have hZG:∀ f b,C.Z G f b→ZO f b:=by
  intro f b h
  cases f
  ·exact h
  ·exact znG b h
  ·exact h.imp id (znG b)
 have nw1:∀ f b,f≠.fz→Zof (ctxIn C G st w mv lent).Zf G1.Zn f b→ZO f b:=by
  intro f b hf h
  cases f
  ·exact h
  ·exact h
  ·exact (hf rfl).elim
 have all1:lent=false→∀ f b,Zof (ctxIn C G st w mv lent).Zf G1.Zn f b→ZO f b:=by
  intro hl f b h
  cases f
  ·exact h
  ·exact h
  ·rcases h with (h | ⟨h,_⟩) | h
   ·exact .inl h
   ·rw[hl] at h;cases h
   ·exact .inr h
 have convL:∀ {L:Labs} {l:Lab} {c:Nat} {ts:List T} {us:List Value},(lent=true→noFzL ts)→RepL (Zof (ctxIn C G st w mv lent).Zf G1.Zn) w' L l c ts us→RepL ZO w' L l c ts us:=by
  intro L l c ts us h0 h
  cases hl:lent with
  |true=>rw[hl] at h nw1;exact RepL.noFz nw1 ts (h0 hl) h
  |false=>rw[hl] at h;exact RepL.move (fun f b hb=>⟨all1 hl f b (by rw[hl];exact hb),rfl⟩) ts (fun b r hb=>⟨hb,rfl⟩) h
 obtain ⟨hvl,hbx⟩:=res_rep (Z:=Zof (ctxIn C G st w mv lent).Zf G1.Zn) (Z':=Zof (ctxIn C G st w mv lent).Zf G1.Zn) (w':=w') (L1:=G1.L) (L2:=L2) (d:=d) (fun _ _ h=>h) res (j:=2) (k0:=0) hres (fun k x u hk=>by
  have:=s1.held k x u hk
  rw[Nat.zero_add];exact this) (fun b k r j' p hb hp=>by
  rw[Nat.zero_add] at hb
  exact l_res b k r j' p hb hp)
 let usR:Nat→List Value:=fun i=>Classical.choose (hbx i)
 let bR:Nat→Nat:=fun i=>Classical.choose (Classical.choose_spec (hbx i))
 have hR:∀ i,RepL ZO w' L2 (.box (d,2+i),[]) 0 (resBox res i).cells (usR i)∧(usR i).length=(resBox res i).cells.length∧((resBox res i).real=true→L2 (bR i)=some (.box (d,2+i),[])∧∃ ty,w'.heap[bR i]?=some (.cells (usR i).toArray ty (0,0))) ∧
   ∀ r v,res[i]?=some r→vs[i]?=some v→match r with | .one _=>usR i=[v] | .agg _=>v=.agg (usR i).toArray | .ptr _=>v=.pointer (some ⟨bR i,0,none⟩) | _=>True:=by
  intro i
  obtain ⟨q1,q2,q3,q4⟩:=Classical.choose_spec (Classical.choose_spec (hbx i))
  exact ⟨convL (fun h=>resBox_noFz (hnf h).1) q1,q2,q3,q4⟩
 let G2:Gh:=⟨L2,G1.Zn,fun m=>if gone d m=true then bR (m.2-2) else G.blk m,fun m=>if gone d m=true then usR (m.2-2) else match mvIdx m 0 mv with | some i=>G1.vals (i,1) | none=>G.vals m⟩
 have k:Keeps C G G2 w w':=⟨znG,zone_same⟩
 have ng1:∀ i,gone d (i,1)=false:=by intro i;simp [gone]
 have mvbox:∀ m i,mvIdx m 0 mv=some i→mv[i]?=some (some m):=fun m i h=>by simpa using (mvIdx_some h).2
 have outs_at:∀ (i:Nat) (m:Nm),mv[i]?=some (some m)→(st1.b (i,1)).cells=outs.getD i []:=by
  intro i m h
  have hi:=houts i m h
  have:=outsOK_get hout i outs[i] (by simp [hi])
  rw[Nat.zero_add] at this
  rw[this,List.getD_eq_getElem?_getD]
  simp [hi]
 have hLF:∀ b l,G1.L b=some l→C.w0.heap.size≤b∨C.F0 b:=by
  intro b l h
  rcases (s1.lab b l h).2 with h | ⟨l',h⟩
  ·exact .inl (Nat.le_trans s.size h)
  ·obtain ⟨n,r,i,h1,_⟩:=labIn_some h
   exact (s.lab _ _ h1).2
 have boxMv:∀ m i,gone d m=false→mvIdx m 0 mv=some i→RepL ZO w' L2 (.box m,[]) 0 (outs.getD i []) (G1.vals (i,1))∧(G1.vals (i,1)).length=(outs.getD i []).length ∧
   ((st.b m).real=true→L2 (G.blk m)=some (.box m,[])∧∃ ty,w'.heap[G.blk m]?=some (.cells (G1.vals (i,1)).toArray ty (0,0))):=by
  intro m i hg hi
  have hm:=mvbox m i hi
  obtain ⟨q1,q2,q3⟩:=s1.box (i,1)
  rw[outs_at i m hm] at q1 q2
  refine ⟨?_,q2,fun hr=>?_⟩
  ·refine RepL.move (fun f b hb=>⟨hb,rfl⟩) _ (fun b r hb=>⟨?_,rfl⟩) (convL (fun h=>(hnf h).2 _ (by
    have:=houts i m hm
    rw[List.getD_eq_getElem?_getD]
    simp [this])) q1)
   have:=l_mv b i r m (by simpa using hb) hm hg
   simpa using this
  ·obtain ⟨e1,e2,_⟩:=s1.ino i
   have er:(st1.b (i,1)).real=true:=by rw[e2];simp [ctxIn,hm,hr]
   have eb:G1.blk (i,1)=G.blk m:=by rw[e1];simp [ctxIn,hm]
   obtain ⟨e3,ty,e4⟩:=q3 er
   rw[eb] at e3 e4
   exact ⟨l_mv _ i [] m e3 hm hg,ty,e4⟩
 refine ⟨G2,⟨?_,?_,?_,?_,?_,?_,Nat.le_trans s.size s1.size,⟨s1.rest.1.trans s.rest.1,s1.rest.2.1.trans s.rest.2.1,s1.rest.2.2.trans s.rest.2.2⟩,?_,fun j x u h=>by simp at h,?_,?_,by simp [Act.put,s.len],s.dfr⟩,fun m i hg hi hr=>by
  have hm:=mvbox m i hi
  have e3:=(s1.ino i).2.2 (by simp [ctxIn,hm,hr])
  show (if gone d m=true then _ else match mvIdx m 0 mv with | some i=>G1.vals (i,1) | none=>G.vals m)=_
  rw[if_neg (by rw[hg];simp),hi]
  simp only
  rw[e3]
  simp [ctxIn,hm,hr]⟩
 ·-- inj
  intro b b' l h h'
  rcases labOut_some h with ⟨i,n,r,h1,h2,h3,rfl⟩ | ⟨k,r,j,q,h1,h2,rfl⟩ | ⟨h0,h1,h2,n,r,h3,h4,rfl⟩
  ·rcases labOut_some h' with ⟨i',n',r',k1,k2,k3,e⟩ | ⟨k',r',j,q,k1,k2,e⟩ | ⟨k0,k1,k2,n',r',k3,k4,e⟩
   ·cases e
    have:=hd _ _ _ h2 k2
    subst this
    exact s1.inj _ _ _ h1 k1
   ·cases e
    have:=resPlace_ge k2
    simp [gone] at h3
    omega
   ·cases e
    rw[labIn_mk hd h2 k3] at k2
    cases k2
  ·rcases labOut_some h' with ⟨i',n',r',k1,k2,k3,e⟩ | ⟨k',r',j',q',k1,k2,e⟩ | ⟨k0,k1,k2,n',r',k3,k4,e⟩
   ·cases e
    have:=resPlace_ge h2
    simp [gone] at k3
    omega
   ·simp only[Prod.mk.injEq,Root.box.injEq,true_and] at e
    obtain ⟨rfl,e⟩:=e
    obtain ⟨e1,e2⟩:=resPlace_inj h2 k2 e
    subst e1
    subst e2
    have:=List.append_cancel_left e
    subst this
    exact s1.inj _ _ _ h1 k1
   ·cases e
    have:=resPlace_ge h2
    simp [gone] at k4
    omega
  ·rcases labOut_some h' with ⟨i',n',r',k1,k2,k3,e⟩ | ⟨k',r',j',q',k1,k2,e⟩ | ⟨k0,k1,k2,n',r',k3,k4,e⟩
   ·cases e
    rw[labIn_mk hd k2 h3] at h2
    cases h2
   ·cases e
    have:=resPlace_ge k2
    simp [gone] at h4
    omega
   ·cases e
    exact s.inj _ _ _ h3 k3
 ·-- lab
  intro b l h
  rcases labOut_some h with ⟨i,n,r,h1,h2,h3,rfl⟩ | ⟨k,r,j,q,h1,h2,rfl⟩ | ⟨h0,h1,h2,n,r,h3,h4,rfl⟩
  ·exact ⟨(s1.lab _ _ h1).1,hLF _ _ h1⟩
  ·exact ⟨(s1.lab _ _ h1).1,hLF _ _ h1⟩
  ·exact ⟨Nat.lt_of_lt_of_le h1 s1.size,(s.lab _ _ h3).2⟩
 ·-- zone
  intro b h
  have h1:G1.L b=none∧b<w'.heap.size:=by
   rcases h with h | h
   ·exact s1.zone b (.inl (.inl h))
   ·exact s1.zone b (.inr h)
  refine ⟨?_,h1.2⟩
  cases hl:L2 b with
  |none=>exact hl
  |some l=>
   rcases labOut_some hl with ⟨i,n,r,k1,_⟩ | ⟨k,r,j,q,k1,_⟩ | ⟨k0,k1,k2,n,r,k3,_⟩
   ·rw[h1.1] at k1;cases k1
   ·rw[h1.1] at k1;cases k1
   ·rcases h with h | h
    ·rw[(s.zone b (.inl h)).1] at k3;cases k3
    ·rcases s1.fresh b h with h | h | ⟨l',h⟩
     ·rw[(s.zone b (.inr h)).1] at k3;cases k3
     ·exact absurd k1 (Nat.not_lt.2 h)
     ·rw[k2] at h;cases h
 ·-- fresh
  intro b h
  rcases s1.fresh b h with h | h | ⟨l',h⟩
  ·exact s.fresh b h
  ·exact .inr (.inl (Nat.le_trans s.size h))
  ·obtain ⟨n,r,i,h1,_⟩:=labIn_some h
   exact .inr ((s.lab _ _ h1).2)
 ·exact fun b h=>znG b (s.zin b h)
 ·-- old
  intro b h1 h2
  refine ((notF b ?_ (Nat.lt_of_lt_of_le h1 s.size)).2).trans (s.old b h1 h2)
  cases hl:labIn mv G.L b with
  |none=>rfl
  |some l=>
   obtain ⟨n,r,i,h3,_⟩:=labIn_some hl
   rcases (s.lab _ _ h3).2 with h | h
   ·omega
   ·exact (h2 h).elim
 ·-- boxes
  intro m
  show RepL ZO w' L2 (.box m,[]) 0 ((afterCall st d mv args outs res).b m).cells (G2.vals m)∧_
  cases hg:gone d m with
  |true=>
   obtain ⟨e1,e2⟩:=gone_iff.1 hg
   have em:m=(d,2+(m.2-2)):=by
    obtain ⟨m1,m2⟩:=m
    simp at e1 e2 ⊢
    exact ⟨e1,by omega⟩
   obtain ⟨q1,q2,q3,_⟩:=hR (m.2-2)
   rw[← em] at q1 q3
   simp only[afterCall,hg,if_true,G2]
   exact ⟨q1,q2,q3⟩
  |false=>
   cases hi:mvIdx m 0 mv with
   |some i=>
    obtain ⟨q1,q2,q3⟩:=boxMv m i hg hi
    simp only[afterCall,hg,hi,G2,Bool.false_eq_true,if_false]
    exact ⟨q1,q2,q3⟩
   |none=>
    obtain ⟨q1,q2,q3⟩:=s.box m
    simp only[afterCall,hg,hi,G2,Bool.false_eq_true,if_false]
    refine ⟨RepL.move (fun f b hb=>⟨hZG f b hb,zone_same b (by
     cases f
     ·exact hb.elim
     ·exact .inr hb
     ·exact hb)⟩) _ (fun b r hb=>?_) q1,q2,fun hr=>?_⟩
    ·have:=l_old b m r (by simpa using hb) hi hg
     simpa using this
    ·obtain ⟨e1,ty,e2⟩:=q3 hr
     obtain ⟨e3,e4⟩:=l_old _ _ _ e1 hi hg
     exact ⟨e3,ty,e4.trans e2⟩
 ·-- slots
  intro t
  have hput:=getD_put (a:=a) (d:=d) (t:=t) (u:=oneOrTuple vs) (by rw[s.len];exact hdN)
  rw[hput]
  by_cases ht:t=d
  ·subst ht
   have hsl:(afterCall st t mv args outs res).s t=resLV t res:=by simp [afterCall]
   rw[hsl]
   simp only[if_true]
   have hAb:∀ i,(afterCall st t mv args outs res).b (t,2+i)=resBox res i:=by
    intro i
    have:gone t (t,2+i)=true:=by simp [gone]
    simp only[afterCall,this,if_true]
    congr 1
    omega
   refine oneOrTuple_rep (bx:=(afterCall st t mv args outs res).b) ?_
   refine RepVs.of_get (st:=afterCall st t mv args outs res) (by rw[resLVs_length,hvl]) fun i x u hx hu=>?_
   rw[resLVs_get] at hx
   obtain ⟨r,hr,rfl⟩:=Option.map_eq_some_iff.1 hx
   obtain ⟨q1,q2,q3,q4⟩:=hR i
   have q5:=q4 r u hr hu
   have hbi:=hAb i
   rw[resBox_get hr] at q1 q2 q3 hbi
   cases r with
   |one y=>
    simp only at q5
    rw[q5] at q1
    simp only[Arg.given] at q1 hbi
    rw[RepL] at q1
    refine RepV_seen (st:=afterCall st t mv args outs res) (row:=[]) (by rw[hbi];rfl) ?_
    simpa [Lab.add] using q1.1
   |agg cs=>
    simp only at q5
    rw[q5,resOne,RepV]
    refine ⟨_,rfl,?_⟩
    simp only[Arg.given] at q1 q2 hbi
    refine RepVs_seens (st:=afterCall st t mv args outs res) (p:=[0]) (by simp) cs (usR i) 0 (row:=[]) ?_ q2 ?_
    ·rw[hbi];simp [rowAt,bump]
    ·simpa [pathLab,lastOf] using q1
   |ptr cs=>
    simp only at q5
    rw[q5,resOne,RepV]
    refine ⟨bR i,cs,by simp [offOf],by rw[hbi];simp [rowAt],?_,fun _=>by rw[hbi]⟩
    exact (q3 rfl).1
   |own y=>show RepV C G2 w' _ .dead _;rw[RepV];trivial
   |owns y=>show RepV C G2 w' _ .dead _;rw[RepV];trivial
  ·simp only[ht,if_false,afterCall]
   have hstA:∀ m,gone d m=false→mvIdx m 0 mv=none→(afterCall st d mv args outs res).b m=st.b m:=by
    intro m hg hi
    simp only[afterCall,hg,hi,Bool.false_eq_true,if_false]
   have hstM:∀ m i,gone d m=false→mvIdx m 0 mv=some i→(afterCall st d mv args outs res).b m=⟨(st.b m).real,outs.getD i []⟩:=by
    intro m i hg hi
    simp only[afterCall,hg,hi,Bool.false_eq_true,if_false]
   refine RepV.call (b2:=(afterCall st d mv args outs res).b) k (fun m q lo hi u h=>?_) (fun m q u h=>?_) _ (s.slot t)
   ·rw[callV]
    cases hg:gone d m with
    |true=>simp only[if_true];rw[RepV];trivial
    |false=>
     simp only[Bool.false_eq_true,if_false]
     cases hi0:mvIdx m 0 mv with
     |none=>
      simp only
      rw[RepV] at *
      obtain ⟨es,r,ad,cap,h1,h2,h3,h4,h5⟩:=h
      refine ⟨es,r,ad,cap,by rw[hstA m hg hi0];exact h1,h2,h3,?_,h5⟩
      refine h4.like rfl fun b hb=>?_
      obtain ⟨k1,k2⟩:=l_old b m q hb hi0 hg
      exact ⟨k1,fun cs ty hh=>⟨cs,k2.trans hh,rfl⟩⟩
     |some i=>
      simp only
      have hm:=mvbox m i hi0
      split
      ·rw[RepV];trivial
      ·rename_i j hnp
       split
       ·rename_i es' hout'
        have hreal:(st.b m).real=false:=by
         rcases hargs i m hm with h | ⟨cs,h⟩
         ·exact h
         ·exact (hnp cs h).elim
        rw[RepV] at *
        obtain ⟨es,r,ad,cap,h1,h2,h3,h4,a',h5,h6⟩:=h
        obtain ⟨_,_,q3⟩:=s1.ino i
        have hvals:G1.vals (i,1)=G.vals m:=by
         rw[q3 (by simp [ctxIn,hm,hreal])]
         simp [ctxIn,hm,hreal]
        obtain ⟨b1,b2,_⟩:=boxMv m i hg hi0
        rw[hvals] at b1
        have hc:(st.b m).cells[j]?=some (.sl .own es):=by
         simp only[rowAt,Option.some.injEq] at h1
         exact drop_head h1
        obtain ⟨uj,e1,e2⟩:=(s.box m).1.get j _ hc
        obtain ⟨uj',e3,e4⟩:=b1.get j _ hout'
        rw[e1] at e3
        cases e3
        obtain ⟨a1,c1,rfl,hd1⟩:=Hdr.of_rep e2
        obtain ⟨a2,c2,e5,hd2⟩:=Hdr.of_rep e4
        simp only[Value.slice.injEq] at e5
        obtain ⟨rfl,el,rfl⟩:=e5
        simp only[Nat.zero_add] at hd1 hd2
        have hd2':Hdr L2 w' (.box m,[j]) es' a1 c1:=by simpa [Lab.add] using hd2
        have hd1':Hdr G.L w (.box m,[j]) es a1 c1:=by simpa [Lab.add] using hd1
        have hrow:rowAt ((afterCall st d mv args outs res).b m).cells [j]=some (.sl .own es' :: (outs.getD i []).drop (j+1)):=by
         rw[hstM m i hg hi0]
         simp only[rowAt]
         rw[head_drop hout']
        by_cases hne:es=[]
        ·have hn':es'=[]:=List.length_eq_zero_iff.1 (by rw[← el,hne];rfl)
         have hc0:cap=0:=by
          rcases h4.2.2 with ⟨_,h⟩ | ⟨_,_,_,_,_,⟨_,h⟩,_⟩
          ·exact h
          ·exact (h hne).elim
         subst hc0
         refine ⟨es',_,a',0,hrow,h2,by rw[← el];exact h3,⟨by rw[hn'];simp,by unfold maxCap;omega,.inl ⟨hn',rfl⟩⟩,a',h5,fun _=>?_⟩
         rw[hn'];rfl
        ·have hac:ad=a1∧cap=c1:=by
          rcases h4.2.2 with ⟨h,_⟩ | ⟨x1,x2,x3,x4,x5,x6,x7,x8,x9,x10⟩
          ·exact (hne h).elim
          ·rcases hd1'.2.2 with ⟨h,_⟩ | ⟨y1,y2,y3,y4,y5,y6,y7,y8,y9,y10⟩
           ·exact (hne h).elim
           ·have hbb:=s.inj _ _ _ x7 y7
            subst hbb
            rw[x8] at y8
            cases y8
            refine ⟨by rw[x5,y5],?_⟩
            cases es with
            |nil=>exact (hne rfl).elim
            |cons e0 es0=>
             have z1:=x10 e0 (by simp)
             have z2:=y10 e0 (by simp)
             have:x4=y4:=by omega
             subst this
             have:cap * x4=c1 * x4:=by omega
             exact Nat.eq_of_mul_eq_mul_right x6.1 this
         obtain ⟨rfl,rfl⟩:=hac
         refine ⟨es',_,ad,cap,hrow,h2,by rw[← el];exact h3,hd2',a',h5,fun _=>?_⟩
         rw[h6 (.inr rfl),shift_zero,shift_zero]
       ·rw[RepV];trivial
      ·rw[RepV];trivial
   ·rw[callV]
    cases hg:gone d m with
    |true=>simp only[if_true];rw[RepV];trivial
    |false=>
     simp only[Bool.false_eq_true,if_false]
     cases hi0:mvIdx m 0 mv with
     |none=>
      simp only
      rw[RepV] at *
      obtain ⟨b,row,h0,h1,h2,h3⟩:=h
      rw[hstA m hg hi0]
      exact ⟨b,row,h0,h1,(l_old b m _ h2 hi0 hg).1,h3⟩
     |some i=>
      simp only
      by_cases hq:q.length=1
      ·rw[if_pos hq]
       match q,hq,h with
       |[c],_,h=>
        rw[RepV] at *
        obtain ⟨b,row,h0,h1,h2,h3⟩:=h
        have hre:=h3 rfl
        obtain ⟨_,_,b3⟩:=boxMv m i hg hi0
        obtain ⟨e1,_⟩:=b3 hre
        have hbb:=s.inj _ _ _ h2 ((s.box m).2.2 hre).1
        subst hbb
        rw[hstM m i hg hi0]
        exact ⟨G.blk m,(outs.getD i []).drop c,by rw[h0];simp [offOf],by simp [rowAt],e1,fun _=>hre⟩
      ·rw[if_neg hq,RepV];trivial
 ·-- the arguments' boxes
  intro i
  obtain ⟨e1,e2,e3⟩:=s.ino i
  refine ⟨?_,?_,fun h=>?_⟩
  ·simp only[G2,ng1,Bool.false_eq_true,if_false];exact e1
  ·simp only[afterCall,ng1,Bool.false_eq_true,if_false]
   cases mvIdx (i,1) 0 mv<;>exact e2
  ·simp only[G2,ng1,Bool.false_eq_true,if_false]
   cases hi:mvIdx (i,1) 0 mv with
   |none=>exact e3 h
   |some j=>
    have hm:=mvbox _ _ hi
    obtain ⟨_,_,q3⟩:=s1.ino j
    have hreal:(st.b (i,1)).real=false:=by rw[e2];exact h
    have:=q3 (by simp [ctxIn,hm,hreal])
    simp only
    rw[this]
    simp only[ctxIn,hm,hreal,Bool.false_eq_true,if_false]
    exact e3 h
end
end TM
namespace TM
open Go
mutual
def frz:T→T
 |.sl _ es=>.sl .fz (frzLL es)
 |.pt _ cs=>.pt .fz (frzL cs)
 |.fn g caps=>.fn g (frzL caps)
 |.v x=>.v x
 |.hole=>.hole
def frzL:List T→List T
 |[]=>[]
 |x :: xs=>frz x :: frzL xs
def frzLL:List (List T)→List (List T)
 |[]=>[]
 |x :: xs=>frzL x :: frzLL xs
end
theorem frzL_map:∀ xs:List T,frzL xs=xs.map frz
 |[]=>rfl
 |x :: xs=>by rw[frzL,List.map_cons,frzL_map xs]
theorem frzLL_map:∀ xs:List (List T),frzLL xs=xs.map frzL
 |[]=>rfl
 |x :: xs=>by rw[frzLL,List.map_cons,frzLL_map xs]
section
variable {Z Z':Fl→Nat→Prop} {w:World}
theorem noLab_vac {l:Lab} {p:Nat→Prop}:∀ (b:Nat) (r:List Nat),noLab b=some (l.1,l.2++r)→p b:=by intro b r h;simp [noLab] at h
mutual
theorem RepC.frz (hZ:∀ f b,Z f b→Z' .fz b):∀ (t:T) {L:Labs} {l l':Lab} {u:Value},(∀ b r,L b=some (l.1,l.2++r)→Z' .fz b)→RepC Z w L l t u→RepC Z' w noLab l' (TM.frz t) u
 |.v x,_,_,_,_,_,h=>by rw[TM.frz];rw[RepC] at *;exact h
 |.hole,_,_,_,_,_,h=>by rw[TM.frz];rw[RepC] at *;exact h
 |.sl f es,L,l,l',u,hL,h=>by
  rw[TM.frz]
  rw[RepC] at *
  obtain ⟨a,cap,hu,h1,h2,h3⟩:=h
  have hlen:(frzLL es).length=es.length:=by rw[frzLL_map];simp
  refine ⟨a,cap,by rw[hlen];exact hu,by rw[hlen];exact h1,h2,?_⟩
  rcases h3 with ⟨h3,_⟩ | ⟨b,off,cs,ty,fr,wd,ha,hwd,hh,hsz,hes,ho,hz,hr⟩
  ·exact .inl ⟨by rw[h3];rfl,fun h=>by cases h⟩
  ·refine .inr ⟨b,off,cs,ty,fr,wd,ha,⟨hwd.1,fun h=>by cases h⟩,hh,by rw[hlen];exact hsz,?_,(fun h=>by cases h),fun _=>?_,?_⟩
   ·intro e he
    rw[frzLL_map] at he
    obtain ⟨e0,he0,rfl⟩:=List.mem_map.1 he
    rw[frzL_map]
    simpa using hes e0 he0
   ·by_cases hf:f=.own
    ·exact hL b [] (by simpa using (ho hf).1)
    ·exact hZ f b (hz hf)
   ·refine RepLL.frz hZ es (fun b r hb=>?_) hr
    cases f
    ·exact hL b r hb
    ·simp [Fl.labs,noLab] at hb
    ·simp [Fl.labs,noLab] at hb
 |.pt f cs,L,l,l',u,hL,h=>by
  rw[TM.frz]
  rw[RepC] at *
  obtain ⟨b,off,vs,ty,fr,hu,hh,ho,hz,hr⟩:=h
  refine ⟨b,off,vs,ty,fr,hu,hh,(fun h=>by cases h),fun _=>?_,RepL.frz hZ cs (fun b r hb=>?_) hr⟩
  ·by_cases hf:f=.own
   ·exact hL b [] (by simpa using (ho hf).1)
   ·exact hZ f b (hz hf)
  ·cases f
   ·exact hL b r hb
   ·simp [Fl.labs,noLab] at hb
   ·simp [Fl.labs,noLab] at hb
 |.fn g caps,L,l,l',u,hL,h=>by
  rw[TM.frz]
  rw[RepC] at *
  obtain ⟨vs,hu,hs,hr⟩:=h
  exact ⟨vs,hu,by rw[frzL_map];simpa using hs,RepL.frz hZ caps hL hr⟩
theorem RepL.frz (hZ:∀ f b,Z f b→Z' .fz b):∀ (ts:List T) {L:Labs} {l l':Lab} {c c':Nat} {us:List Value},(∀ b r,L b=some (l.1,l.2++r)→Z' .fz b)→RepL Z w L l c ts us→RepL Z' w noLab l' c' (frzL ts) us
 |[],_,_,_,_,_,_,_,_=>by rw[frzL,RepL];trivial
 |t :: ts,_,_,_,_,_,[],_,h=>by rw[RepL] at h;exact h.elim
 |t :: ts,L,l,l',c,c',u :: us,hL,h=>by
  rw[frzL]
  rw[RepL] at *
  exact ⟨RepC.frz hZ t (fun b r hb=>hL b (c :: r) (by simpa [Lab.add] using hb)) h.1,RepL.frz hZ ts hL h.2⟩
theorem RepLL.frz (hZ:∀ f b,Z f b→Z' .fz b):∀ (es:List (List T)) {L:Labs} {l l':Lab} {i i':Nat} {us:List Value},(∀ b r,L b=some (l.1,l.2++r)→Z' .fz b)→RepLL Z w L l i es us→RepLL Z' w noLab l' i' (frzLL es) us
 |[],_,_,_,_,_,_,_,_=>by rw[frzLL,RepLL];trivial
 |e :: es,L,l,l',i,i',us,hL,h=>by
  rw[frzLL]
  rw[RepLL] at *
  refine ⟨RepL.frz hZ e (fun b r hb=>hL b (i :: r) (by simpa [Lab.add] using hb)) h.1,?_⟩
  have:(frzL e).length=e.length:=by rw[frzL_map];simp
  rw[this]
  exact RepLL.frz hZ es hL h.2
end
end
mutual
def lend (st:St) (mv:List (Option Nm)) (lent:Bool):LV→T→Prop
 |.t x,y=>y=x∨y=frz x
 |.ref n p lo hi,.sl .fz es'=>lent=true∧mvIdx n 0 mv=none∧(match rowAt (st.b n).cells p with
  |some (.sl .own es :: _)=>es'=frzLL ((es.take hi).drop lo)
  |_=>False)
 |.addr n p,.pt .fz cs'=>lent=true∧mvIdx n 0 mv=none∧(match rowAt (st.b n).cells p with
  |some row=>cs'=frzL (row.take cs'.length)
  |_=>False)
 |.raddr cs,.pt f cs'=>f=.fz∧(cs'=cs∨cs'=frzL cs)
 |.fn g xs,.fn g' ys=>g=g'∧lends st mv lent xs ys
 |_,_=>False
def lends (st:St) (mv:List (Option Nm)) (lent:Bool):List LV→List T→Prop
 |[],[]=>True
 |x :: xs,y :: ys=>lend st mv lent x y∧lends st mv lent xs ys
 |_,_=>False
end
section
variable {C:Ctx} {G:Gh} {st st1 st':St} {hs:List (T×Value)} {a:Act} {w:World}
theorem lent_zone (_s:Sim C G st hs a w) {mv:List (Option Nm)} {n:Nm} (hm:mvIdx n 0 mv=none):∀ b r,G.L b=some (.box n,r)→Zof (ctxIn C G st w mv true).Zf G.Zn .fz b:=by
 intro b r h
 refine .inl (.inr ⟨rfl,_,h,?_⟩)
 unfold labIn
 rw[h]
 simp [hm]
theorem fz_zone {mv:List (Option Nm)} {lent:Bool}:∀ f b,C.Z G f b→Zof (ctxIn C G st w mv lent).Zf G.Zn .fz b:=by
 intro f b h
 cases f
 ·exact h.elim
 ·exact .inr h
 ·rcases h with h | h
  ·exact .inl (.inl h)
  ·exact .inr h
theorem pathLab_fst:∀ (p:List Nat) (l:Lab),(pathLab l p).1=l.1
 |[],_=>rfl
 |[_],_=>rfl
 |[_,_],_=>rfl
 |c :: i :: d :: rest,l=>by rw[pathLab,pathLab_fst];rfl
mutual
theorem lend_rep (s:Sim C G st hs a w) {mv:List (Option Nm)} {lent:Bool}:∀ (v:LV) {x:T} {u:Value},RepV C G w st.b v u→lend st mv lent v x→RepC (Zof (ctxIn C G st w mv lent).Zf G.Zn) w noLab noWhere x u
 |.t y,x,u,h,hl=>by
  rw[RepV] at h
  have hl':x=y∨x=TM.frz y:=by
   cases x<;>simpa [lend] using hl
  rcases hl' with rfl | rfl
  ·exact RepC.move (fun f b hb=>⟨zone_in f b hb,rfl⟩) x noLab_under h
  ·exact RepC.frz fz_zone y (noLab_vac (l:=noWhere)) h
 |.ref n p lo hi,.sl .fz es',u,h,hl=>by
  rw[lend] at hl
  obtain ⟨rfl,hm,hl⟩:=hl
  split at hl
  ·rename_i es r hrow
   subst hl
   rw[RepV] at h
   obtain ⟨es2,r2,ad,cap,g1,g2,g3,g4,a',rfl,g6⟩:=h
   rw[hrow] at g1
   cases g1
   have hlen:(frzLL ((es.take hi).drop lo)).length=hi-lo:=by rw[frzLL_map];simp;omega
   rw[RepC]
   refine ⟨a',cap-lo,by rw[hlen],by rw[hlen];have:=g4.1;omega,by have:=g4.2.1;omega,?_⟩
   by_cases hlt:lo<hi
   ·rcases g4.2.2 with ⟨hn,_⟩ | ⟨b,cs,ty,wd,ha,hwd,hL,hh,hcap,hes⟩
    ·subst hn;simp at g3;omega
    ·obtain ⟨urow,blk,off,_,k2,_,_⟩:=s.place hrow
     cases hur:urow with
     |nil=>rw[hur,RepL] at k2;exact k2.elim
     |cons hv us1=>
     have e0:=pathLab_last p (l:=(.box n,[])) hrow
     rw[hur,RepL,e0] at k2
     have khv:=k2.1
     rw[RepC] at khv
     obtain ⟨a3,cap3,z1,z2,z3,z4⟩:=khv
     rcases z4 with ⟨hn,_⟩ | ⟨b3,off3,vs3,ty3,fr3,wd3,hb3,hwd3,hh3,hsz3,hes3,ho3,hz3,hr3⟩
     ·exact (hwd.2 hn).elim
     ·obtain ⟨hL3,rfl,rfl,_⟩:=ho3 rfl
      have hbb:=s.inj _ _ _ hL3 (by simpa using hL)
      subst hbb
      have ha':=g6 (.inl hlt)
      have hwe:∀ e∈es,e.length=wd3:=hes3
      refine .inr ⟨b3,lo * wd3,vs3,ty3,(0,0),wd3,?_,⟨hwd3.1,fun h=>by cases h⟩,hh3,?_,?_,(fun h=>by cases h),fun _=>lent_zone s hm b3 _ hL3,?_⟩
      ·rw[ha',ha]
       cases es with
       |nil=>exact (hwd.2 rfl).elim
       |cons e0 es0=>
        simp only[shift,Option.map_some,add_off,Nat.zero_add]
        rw[hwe e0 (by simp)]
      ·rw[hlen,← Nat.add_mul]
       have:(lo+(hi-lo)) * wd3≤es.length * wd3:=Nat.mul_le_mul_right _ (by omega)
       omega
      ·intro e he
       rw[frzLL_map] at he
       obtain ⟨e0,he0,rfl⟩:=List.mem_map.1 he
       rw[frzL_map]
       simpa using hwe e0 (List.mem_of_mem_take (List.mem_of_mem_drop he0))
      ·have e1:Fl.fz.labs noLab=noLab:=rfl
       rw[e1]
       refine RepLL.of_get (wd:=wd3) ?_ fun i e he=>?_
       ·intro e he
        rw[frzLL_map] at he
        obtain ⟨e0,he0,rfl⟩:=List.mem_map.1 he
        rw[frzL_map]
        simpa using hwe e0 (List.mem_of_mem_take (List.mem_of_mem_drop he0))
       ·rw[frzLL_map,List.getElem?_map] at he
        obtain ⟨e0,he0,rfl⟩:=Option.map_eq_some_iff.1 he
        rw[List.getElem?_drop,List.getElem?_take] at he0
        split at he0
        ·have hrep:=RepLL.get hes3 hr3 _ e0 he0
         rw[List.drop_drop]
         rw[show lo * wd3+i * wd3=(lo+i) * wd3 by rw[Nat.add_mul]]
         rw[List.drop_zero] at hrep
         refine RepL.frz (Z:=C.Z G) fz_zone e0 (fun b r hb=>?_) hrep
         exact lent_zone s hm b (p++((0+(lo+i)) :: r)) (by simpa [Lab.add,Fl.labs] using hb)
        ·cases he0
   ·exact .inl ⟨List.length_eq_zero_iff.1 (by rw[hlen];omega),fun h=>by cases h⟩
  ·exact hl.elim
 |.addr n p,.pt .fz cs',u,h,hl=>by
  rw[lend] at hl
  obtain ⟨rfl,hm,hl⟩:=hl
  split at hl
  ·rename_i row hrow
   rw[RepV] at h
   obtain ⟨b,row',rfl,g1,g2,g3⟩:=h
   obtain ⟨vs,ty,urow,hh,hu,k2,_⟩:=s.addr hrow g2 g3
   rw[RepC]
   refine ⟨b,_,vs,ty,(0,0),rfl,hh,(fun h=>by cases h),fun _=>lent_zone s hm b _ g2,?_⟩
   rw[hl,← hu]
   have e1:Fl.fz.labs noLab=noLab:=rfl
   rw[e1]
   refine RepL.frz (Z:=C.Z G) fz_zone _ (fun b r hb=>?_) ((k2.take cs'.length).more fun i hi=>?_)
   ·rw[pathLab_fst] at hb
    exact lent_zone s hm b _ hb
   ·rw[List.getElem?_take]
    simp at hi
    rw[if_pos (by omega)]
  ·exact hl.elim
 |.raddr cs,.pt f cs',u,h,hl=>by
  rw[lend] at hl
  obtain ⟨rfl,hl⟩:=hl
  rw[RepV] at h
  obtain ⟨f',b,off,vs,ty,fr,rfl,h2,h3,h4⟩:=h
  rw[RepC]
  refine ⟨b,off,vs,ty,fr,rfl,h2,(fun h=>by cases h),fun _=>fz_zone f' b h3,?_⟩
  rcases hl with rfl | rfl
  ·exact RepL.move (fun f b hb=>⟨zone_in f b hb,rfl⟩) cs' noLab_under h4
  ·exact RepL.frz fz_zone cs (noLab_vac (l:=noWhere)) h4
 |.fn g xs,.fn g' ys,u,h,hl=>by
  rw[lend] at hl
  obtain ⟨rfl,hl⟩:=hl
  rw[RepV] at h
  obtain ⟨us,rfl,hus⟩:=h
  rw[RepC]
  obtain ⟨k1,k2⟩:=lends_rep s xs hus hl
  exact ⟨us,rfl,by simpa using k2,k1.any⟩
theorem lends_rep (s:Sim C G st hs a w) {mv:List (Option Nm)} {lent:Bool}:∀ (vs:List LV) {xs:List T} {us:List Value},RepVs C G w st.b vs us→lends st mv lent vs xs→RepL (Zof (ctxIn C G st w mv lent).Zf G.Zn) w noLab noWhere 0 xs us∧us.length=xs.length
 |[],[],us,h,_=>by rw[RepVs] at h;subst h;exact ⟨by rw[RepL];trivial,rfl⟩
 |[],_ :: _,_,_,hl=>by simp [lends] at hl
 |_ :: _,[],_,_,hl=>by simp [lends] at hl
 |v :: vs,x :: xs,[],h,_=>by rw[RepVs] at h;exact h.elim
 |v :: vs,x :: xs,u :: us,h,hl=>by
  rw[RepVs] at h
  rw[lends] at hl
  obtain ⟨k1,k2⟩:=lends_rep s vs h.2 hl.2
  rw[RepL]
  exact ⟨⟨RepC.move (fun f b hb=>⟨hb,rfl⟩) x noLab_under (lend_rep s v h.1 hl.1),k1.any⟩,by simp [k2]⟩
end
end
end TM
namespace TM
open Go
def St.evL (st:St):List Operand→Option (List LV)
 |[]=>some []
 |x :: xs=>match st.ev x with
  |some v=>match st.evL xs with
   |some vs=>some (v :: vs)
   |none=>none
  |none=>none
def callOf (st:St) (o:Oper):Option (FuncId×List LV×Nat):=match o.op,o.dst with
 |.call c,some d=>match c.callee with
  |.value fo=>match st.ev fo,st.evL c.args.toList with
   |some (.fn (.func f) caps),some vs=>some (f,vs++caps,d)
   |some (.t (.fn (.func f) [])),some vs=>some (f,vs,d)
   |_,_=>none
  |_=>none
 |_,_=>none
def argOK (st:St) (mv:List (Option Nm)) (lent:Bool) (o:Option Nm) (v:LV):Arg→Prop
 |.one x=>o=none∧lend st mv lent v x
 |.agg cs=>o=none∧(match v with
  |.agg vs=>lends st mv lent vs cs
  |_=>False)
 |.ptr cs=>(match o,v with
  |some n,.addr m p=>m=n∧p=[0]∧(st.b n).real=true∧(st.b n).cells=cs
  |_,_=>False)
 |_=>False
def argsOK (st:St) (mv:List (Option Nm)) (lent:Bool):List (Option Nm)→List LV→List Arg→Prop
 |[],[],[]=>True
 |o :: os,v :: vs,c :: cs=>argOK st mv lent o v c∧argsOK st mv lent os vs cs
 |_,_,_=>False
section
variable {C:Ctx} {G:Gh} {st st1 st':St} {hs:List (T×Value)} {a:Act} {w:World}
theorem evL_rep (s:Sim C G st hs a w):∀ (xs:List Operand) {vs:List LV},st.evL xs=some vs→RepVs C G w st.b vs (xs.map a.eval)
 |[],vs,h=>by simp only[St.evL,Option.some.injEq] at h;subst h;simp [RepVs]
 |x :: xs,vs,h=>by
  simp only[St.evL] at h
  split at h
  ·rename_i v hv
   split at h
   ·rename_i vs' hvs
    cases h
    rw[List.map_cons,RepVs]
    exact ⟨s.ev hv,evL_rep s xs hvs⟩
   ·cases h
  ·cases h
theorem callable_run {P:Program} {f:FuncId} (h:callable P f) (args:Array Value) (w:World):(callFunc f args).run P w=.ok (.enter f args) w:=by
 obtain ⟨fn,h1,h2,h3⟩:=h
 have h2':fn.name≠ "runtime.NumGoroutine":=by simpa using h2
 have h3':fn.body≠none:=by
  intro e
  rw[e] at h3
  cases h3
 simp [callFunc,h1,h2',h3']
theorem callOf_run (s:Sim C G st hs a w) {o:Oper} {f:FuncId} {vs:List LV} {d:Nat} (h:callOf st o=some (f,vs,d)) (hc:callable C.P f) :
  o.dst=some d∧∃ us,(execOp a.eval o).run C.P w=.ok (.enter f us.toArray) w∧RepVs C G w st.b vs us:=by
 unfold callOf at h
 split at h
 ·rename_i c d' ho hd
  split at h
  ·rename_i fo hcal
   split at h
   ·rename_i f' caps vs' hf hvs
    cases h
    refine ⟨hd,?_⟩
    have h1:=s.ev hf
    have h2:=evL_rep s _ hvs
    rw[RepV] at h1
    obtain ⟨cap,hcap,hr⟩:=h1
    refine ⟨c.args.toList.map a.eval++cap.toList,?_,h2.append hr⟩
    unfold execOp
    have e:(c.args.map a.eval++cap)=(c.args.toList.map a.eval++cap.toList).toArray:=by
     apply Array.ext'
     simp
    rw[← e]
    simp [ho,resolve,hcal,hcap,Deferred.ofValue,invoke,callable_run hc]
   ·rename_i f' vs' hf hvs
    cases h
    refine ⟨hd,?_⟩
    have h1:=s.ev hf
    have h2:=evL_rep s _ hvs
    rw[RepV,RepC] at h1
    obtain ⟨cap,hcap,hsz,hr⟩:=h1
    have hc0:cap=#[]:=Array.eq_empty_of_size_eq_zero hsz
    subst hc0
    refine ⟨c.args.toList.map a.eval,?_,h2⟩
    unfold execOp
    have e:(c.args.map a.eval)=(c.args.toList.map a.eval).toArray:=by
     apply Array.ext'
     simp
    rw[← e]
    simp [ho,resolve,hcal,hcap,Deferred.ofValue,invoke,callable_run hc]
   ·cases h
  ·cases h
 ·cases h
theorem argsOK_rep (s:Sim C G st hs a w) {mv:List (Option Nm)} {lent:Bool}:∀ (os:List (Option Nm)) {vs:List LV} {args:List Arg} {us:List Value},RepVs C G w st.b vs us→argsOK st mv lent os vs args →
  os.length=args.length∧us.length=args.length∧∀ (i:Nat) (c:Arg) (u:Value),args[i]?=some c→us[i]?=some u→∃ o v,os[i]?=some o∧argOK st mv lent o v c∧RepV C G w st.b v u
 |[],[],[],us,h,_=>by rw[RepVs] at h;subst h;exact ⟨rfl,rfl,fun i c u h=>by simp at h⟩
 |o :: os,v :: vs,c :: cs,[],h,_=>by rw[RepVs] at h;exact h.elim
 |o :: os,v :: vs,c :: cs,u :: us,h,hok=>by
  rw[RepVs] at h
  rw[argsOK] at hok
  obtain ⟨k1,k2,k3⟩:=argsOK_rep s os h.2 hok.2
  refine ⟨by simp [k1],by simp [k2],fun i c' u' hc hu=>?_⟩
  cases i with
  |zero=>simp at hc hu;subst hc;subst hu;exact ⟨o,v,rfl,hok.1,h.1⟩
  |succ i=>exact k3 i c' u' (by simpa using hc) (by simpa using hu)
 |[],[],_ :: _,_,_,h=>by simp [argsOK] at h
 |[],_ :: _,_,_,_,h=>by simp [argsOK] at h
 |_ :: _,[],_,_,_,h=>by simp [argsOK] at h
 |_ :: _,_ :: _,[],_,_,h=>by simp [argsOK] at h
def mvOK:List (Option Nm)→Prop
 |[]=>True
 |some n :: rest=>mvIdx n 0 rest=none∧mvOK rest
 |none :: rest=>mvOK rest
theorem mvOK_inj:∀ {mv:List (Option Nm)},mvOK mv→∀ (i j:Nat) (n:Nm),mv[i]?=some (some n)→mv[j]?=some (some n)→i=j
 |[],_,i,j,n,h,_=>by simp at h
 |o :: rest,hm,0,0,n,_,_=>rfl
 |o :: rest,hm,0,j+1,n,h1,h2=>by
  simp at h1
  subst h1
  exact (mvIdx_none hm.1 j (by simpa using h2)).elim
 |o :: rest,hm,i+1,0,n,h1,h2=>by
  simp at h2
  subst h2
  exact (mvIdx_none hm.1 i (by simpa using h1)).elim
 |o :: rest,hm,i+1,j+1,n,h1,h2=>by
  have hm':mvOK rest:=by cases o<;>simp [mvOK] at hm<;>first | exact hm.2 | exact hm
  rw[mvOK_inj hm' i j n (by simpa using h1) (by simpa using h2)]
def backOK (lent:Bool) (outs:List (List T)) (res:List Arg):Prop:=lent=true→(∀ r∈res,noFzL r.given)∧∀ o∈outs,noFzL o
def guardOK (st:St) (all:Array Oper) (o:Oper):Prop:=match guardOf all o with
 |none=>True
 |some (some d,b)=>st.s d=.t (.v (.bool b))
 |some (none,_)=>False
theorem good_call {P:Program} {f0 f:FuncId} {R:Value→World→Prop} {k:List It} {all:Array Oper} {o:Oper} {rest:List Oper} {vs:List LV} {d:Nat} {args res:List Arg} {outs:List (List T)} (mv:List (Option Nm)) (lent:Bool)
  (hP:C.P=P) (hdN:d<C.N) (hw:WF (.ops all (o :: rest))) (hg:guardOK st all o) (hc:callOf st o=some (f,vs,d)) (F:Fun P f args outs res) (hmv:mvOK mv) (hok:argsOK st mv lent mv vs args) (hol:mv=[]∨outs.length=mv.length∨mvOK mv∧∀ n∈mv,n=none) (hback:backOK lent outs res)
  (next:Good C f0 R (.ops all rest :: k) (afterCall st d mv args outs res)):Good C f0 R (.ops all (o :: rest) :: k) st:=by
 subst hP
 intro G a w s
 obtain ⟨pre,hpre⟩:=hw
 obtain ⟨hidx,ho⟩:=idx_cons hpre
 have hitem:(It.ops all (o :: rest)).item=.inRegion all (pre.length :: (List.range all.size).drop (all.size-rest.length)):=by rw[It.item,hidx]
 obtain ⟨hd,us,hrun,hus⟩:=callOf_run s hc F.1
 obtain ⟨h1,h2,h3⟩:=argsOK_rep s mv hus hok
 have hinj:=mvOK_inj hmv
 have hcall:=call_in s F hinj h2 h1 (lent:=lent) (fun i c u hci hui=>by
  obtain ⟨on,v,e1,e2,e3⟩:=h3 i c u hci hui
  unfold ArgS
  rw[e1]
  cases c with
  |one x=>
   obtain ⟨rfl,e2⟩:=e2
   exact lend_rep s v e3 e2
  |agg cs=>
   obtain ⟨rfl,e2⟩:=e2
   cases v with
   |agg vs0=>
    rw[RepV] at e3
    obtain ⟨us0,rfl,e3⟩:=e3
    obtain ⟨q1,q2⟩:=lends_rep s vs0 e3 e2
    exact ⟨us0,rfl,by simpa using q2,q1⟩
   |_=>exact e2.elim
  |ptr cs=>
   cases on with
   |none=>exact e2.elim
   |some n=>
    cases v with
    |addr m p=>
     obtain ⟨rfl,rfl,e4,e5⟩:=e2
     rw[RepV] at e3
     obtain ⟨b,row,rfl,e6,e7,_⟩:=e3
     have:=s.inj _ _ _ e7 ((s.box m).2.2 e4).1
     subst this
     exact ⟨by simp [offOf],e4,e5⟩
    |_=>exact e2.elim
  |own x=>exact e2.elim
  |owns x=>exact e2.elim)
 have hwant:Region.wanted o (yielded all a.tmps)=true:=by
  unfold Region.wanted
  unfold guardOK guardOf at hg
  cases hgd:o.guard with
  |none=>rfl
  |some jw=>
   obtain ⟨j,want⟩:=jw
   rw[hgd] at hg
   simp only at hg ⊢
   cases hj:(all[j]?).bind (·.dst) with
   |none=>rw[hj] at hg;exact hg.elim
   |some d'=>
    rw[hj] at hg
    rw[s.yields hj hg]
    simp
 intro b cs hb hk
 have hargs:∀ (i:Nat) (n:Nm),mv[i]?=some (some n)→(st.b n).real=false∨∃ cs,args[i]?=some (.ptr cs):=by
  intro i n hi
  have hlt:i<args.length:=by
   have:=(List.getElem?_eq_some_iff.1 hi).1
   omega
  obtain ⟨on,v,e1,e2,e3⟩:=h3 i args[i] us[i] (by simp) (by simp)
  rw[hi] at e1
  cases e1
  right
  cases hca:args[i] with
  |one x=>rw[hca] at e2;cases e2.1
  |agg x=>rw[hca] at e2;cases e2.1
  |ptr cs=>exact ⟨cs,by rw[List.getElem?_eq_getElem hlt,hca]⟩
  |own x=>rw[hca] at e2;exact e2.elim
  |owns x=>rw[hca] at e2;exact e2.elim
 have houts:∀ (i:Nat) (n:Nm),mv[i]?=some (some n)→i<outs.length:=by
  intro i n hi
  have hlt:=(List.getElem?_eq_some_iff.1 hi).1
  rcases hol with h | h | ⟨_,h⟩
  ·subst h;simp at hi
  ·omega
  ·have:=h _ (List.mem_of_getElem? hi)
   cases this
 obtain ⟨e,w',fr,hR,hcomes,hfn,hleave⟩:=hcall (b.at a ((It.ops all (o :: rest) :: k).map It.item) :: cs)
 cases e with
 |panicked ch=>exact hR.elim
 |outgrown=>exact hR.elim
 |returned v=>
  obtain ⟨G2,s2,_⟩:=call_out s hR d hdN hinj hargs houts hback
  obtain ⟨v2,w2,fr2,g1,g2,g3⟩:=next G2 _ w' s2 b cs hb hk
  refine ⟨v2,w2,fr2,g1,?_,g3⟩
  have hstep:step C.P (lone (b.at a ((It.ops all (o :: rest) :: k).map It.item)) cs w)=.next (lone (Frame.enter C.P f us.toArray .normal) (b.at a ((It.ops all (o :: rest) :: k).map It.item) :: cs) w):=by
   rw[List.map_cons,hitem]
   have hgo:=stepG_op (P:=C.P) (b:=b) (a:=a) (k:=k.map It.item) (cs:=cs) (w:=w) (rest:=(List.range all.size).drop (all.size-rest.length)) ho hwant
   refine step_lone_go ?_
   rw[hgo]
   simp [stepG.apply,hrun,Frame.at]
  have hfin:(b.at a ((It.ops all (o :: rest) :: k).map It.item)).finish v=b.at (a.put (some d) v) ((It.ops all rest :: k).map It.item):=by
   rw[List.map_cons,hitem,Frame.finish_at,ho]
   simp only[Option.bind_some,hd]
   rfl
  refine .head hstep (Steps.trans hcomes (.head (step_leave_returned hleave) ?_))
  rw[hfin]
  exact g2
end
end TM
namespace TM
open Go
inductive Ac where
 |rS (t:Nat) (v:LV)
 |rX (t i:Nat) (v:LV)
 |rB (n:Nm) (x:Box)
 |wS (t:Nat) (v:LV)
 |wB (n:Nm) (x:Box)
 |kl (n:Nm) (p:List Nat)
 |gn (d:Nat)
 |km (n:Nm)
 |rH (n:Nm) (c:Nat) (o:Option Nat)
 |ho (n:Nm) (p:List Nat)
mutual
def goneV (d:Nat):LV→LV
 |.ref m q lo hi=>if gone d m=true then .dead else .ref m q lo hi
 |.addr m q=>if gone d m=true then .dead else .addr m q
 |.agg xs=>.agg (goneVs d xs)
 |.tup xs=>.tup (goneVs d xs)
 |.fn g xs=>.fn g (goneVs d xs)
 |.va xs=>.va (goneVs d xs)
 |.t x=>.t x
 |.raddr cs=>.raddr cs
 |.dead=>.dead
def goneVs (d:Nat):List LV→List LV
 |[]=>[]
 |x :: xs=>goneV d x :: goneVs d xs
end
mutual
def kmV (n:Nm):LV→LV
 |.ref m q lo hi=>if m=n then .dead else .ref m q lo hi
 |.addr m q=>if m=n∧q.length≠1 then .dead else .addr m q
 |.agg xs=>.agg (kmVs n xs)
 |.tup xs=>.tup (kmVs n xs)
 |.fn g xs=>.fn g (kmVs n xs)
 |.va xs=>.va (kmVs n xs)
 |.t x=>.t x
 |.raddr cs=>.raddr cs
 |.dead=>.dead
def kmVs (n:Nm):List LV→List LV
 |[]=>[]
 |x :: xs=>kmV n x :: kmVs n xs
end
def M.runT {α:Type} (N:Nat):M α→St→Option (α×St×List Ac)
 |.ok a,st=>some (a,st,[])
 |.no,_=>none
 |.rdS t k,st=>((k (st.s t)).runT N st).map fun (a,st',l)=>(a,st',.rS t (st.s t) :: l)
 |.rdX t i k,st=>match partOf (st.s t) i with
  |some y=>((k y).runT N st).map fun (a,st',l)=>(a,st',.rX t i y :: l)
  |none=>none
 |.rdB n k,st=>((k (st.b n)).runT N st).map fun (a,st',l)=>(a,st',.rB n (st.b n) :: l)
 |.wrS t v k,st=>if t<N then (k.runT N ⟨fun u=>if u=t then v else st.s u,st.b⟩).map fun (a,st',l)=>(a,st',.wS t v :: l) else none
 |.wrB n x k,st=>(k.runT N ⟨st.s,fun m=>if m=n then x else st.b m⟩).map fun (a,st',l)=>(a,st',.wB n x :: l)
 |.kill n p k,st=>(k.runT N ⟨fun u=>killV n p (st.s u),st.b⟩).map fun (a,st',l)=>(a,st',.kl n p :: l)
 |.rdH n c k,st=>((k (hdrLen (st.b n).cells c)).runT N st).map fun (a,st',l)=>(a,st',.rH n c (hdrLen (st.b n).cells c) :: l)
 |.hoB n p k,st=>if (setAt (st.b n).cells p .hole).isSome=true then (k.runT N ⟨st.s,fun m=>if m=n then ⟨(st.b n).real,(setAt (st.b n).cells p .hole).getD []⟩ else st.b m⟩).map fun (a,st',l)=>(a,st',.ho n p :: l) else none
def Ac.app:Ac→St→St
 |.rS _ _,st=>st
 |.rX _ _ _,st=>st
 |.rB _ _,st=>st
 |.wS t v,st=>⟨fun u=>if u=t then v else st.s u,st.b⟩
 |.wB n x,st=>⟨st.s,fun m=>if m=n then x else st.b m⟩
 |.kl n p,st=>⟨fun u=>killV n p (st.s u),st.b⟩
 |.gn d,st=>⟨fun u=>goneV d (st.s u),fun m=>if gone d m=true then ⟨false,[]⟩ else st.b m⟩
 |.km n,st=>⟨fun u=>kmV n (st.s u),st.b⟩
 |.rH _ _ _,st=>st
 |.ho n p,st=>⟨st.s,fun m=>if m=n then ⟨(st.b n).real,(setAt (st.b n).cells p .hole).getD []⟩ else st.b m⟩
def Ac.fits (N:Nat):Ac→St→Prop
 |.rS t v,st=>st.s t=v
 |.rX t i v,st=>partOf (st.s t) i=some v
 |.rB n x,st=>st.b n=x
 |.wS t _,_=>t<N
 |.wB _ _,_=>True
 |.kl _ _,_=>True
 |.gn _,_=>True
 |.km _,_=>True
 |.rH n c o,st=>hdrLen (st.b n).cells c=o
 |.ho n p,st=>(setAt (st.b n).cells p .hole).isSome=true
def appT:List Ac→St→St
 |[],st=>st
 |x :: l,st=>appT l (x.app st)
def fitsT (N:Nat):List Ac→St→Prop
 |[],_=>True
 |x :: l,st=>x.fits N st∧fitsT N l (x.app st)
theorem runT_fits {α:Type} {N:Nat}:∀ (m:M α) {st st':St} {a:α} {l:List Ac},m.runT N st=some (a,st',l)→st'=appT l st∧fitsT N l st
 |.ok a,st,st',a',l,h=>by simp only[M.runT,Option.some.injEq,Prod.mk.injEq] at h;obtain ⟨_,rfl,rfl⟩:=h;exact ⟨rfl,trivial⟩
 |.no,_,_,_,_,h=>by cases h
 |.rdS t k,st,st',a,l,h=>by
  simp only[M.runT] at h
  obtain ⟨⟨a1,st1,l1⟩,h1,h2⟩:=Option.map_eq_some_iff.1 h
  cases h2
  obtain ⟨e1,e2⟩:=runT_fits (k (st.s t)) h1
  exact ⟨e1,rfl,e2⟩
 |.rdX t i k,st,st',a,l,h=>by
  simp only[M.runT] at h
  cases hp:partOf (st.s t) i with
  |none=>rw[hp] at h;cases h
  |some y=>
   rw[hp] at h
   obtain ⟨⟨a1,st1,l1⟩,h1,h2⟩:=Option.map_eq_some_iff.1 h
   cases h2
   obtain ⟨e1,e2⟩:=runT_fits (k y) h1
   exact ⟨e1,hp,e2⟩
 |.rdB n k,st,st',a,l,h=>by
  simp only[M.runT] at h
  obtain ⟨⟨a1,st1,l1⟩,h1,h2⟩:=Option.map_eq_some_iff.1 h
  cases h2
  obtain ⟨e1,e2⟩:=runT_fits (k (st.b n)) h1
  exact ⟨e1,rfl,e2⟩
 |.wrS t v k,st,st',a,l,h=>by
  simp only[M.runT] at h
  split at h
  ·rename_i hlt
   obtain ⟨⟨a1,st1,l1⟩,h1,h2⟩:=Option.map_eq_some_iff.1 h
   cases h2
   obtain ⟨e1,e2⟩:=runT_fits k h1
   exact ⟨e1,hlt,e2⟩
  ·cases h
 |.wrB n x k,st,st',a,l,h=>by
  simp only[M.runT] at h
  obtain ⟨⟨a1,st1,l1⟩,h1,h2⟩:=Option.map_eq_some_iff.1 h
  cases h2
  obtain ⟨e1,e2⟩:=runT_fits k h1
  exact ⟨e1,trivial,e2⟩
 |.kill n p k,st,st',a,l,h=>by
  simp only[M.runT] at h
  obtain ⟨⟨a1,st1,l1⟩,h1,h2⟩:=Option.map_eq_some_iff.1 h
  cases h2
  obtain ⟨e1,e2⟩:=runT_fits k h1
  exact ⟨e1,trivial,e2⟩
 |.rdH n c k,st,st',a,l,h=>by
  simp only[M.runT] at h
  obtain ⟨⟨a1,st1,l1⟩,h1,h2⟩:=Option.map_eq_some_iff.1 h
  cases h2
  obtain ⟨e1,e2⟩:=runT_fits _ h1
  exact ⟨e1,rfl,e2⟩
 |.hoB n p k,st,st',a,l,h=>by
  simp only[M.runT] at h
  split at h
  ·rename_i hs
   obtain ⟨⟨a1,st1,l1⟩,h1,h2⟩:=Option.map_eq_some_iff.1 h
   cases h2
   obtain ⟨e1,e2⟩:=runT_fits k h1
   exact ⟨e1,hs,e2⟩
  ·cases h
theorem run_fits {α:Type} {N:Nat}:∀ (m:M α) {st st' st2:St} {a:α} {l:List Ac},m.runT N st=some (a,st',l)→fitsT N l st2→m.run N st2=some (a,appT l st2)
 |.ok a,st,st',st2,a',l,h,_=>by simp only[M.runT,Option.some.injEq,Prod.mk.injEq] at h;obtain ⟨rfl,_,rfl⟩:=h;rfl
 |.no,_,_,_,_,_,h,_=>by cases h
 |.rdS t k,st,st',st2,a,l,h,hf=>by
  simp only[M.runT] at h
  obtain ⟨⟨a1,st1,l1⟩,h1,h2⟩:=Option.map_eq_some_iff.1 h
  cases h2
  obtain ⟨e1,e2⟩:=hf
  have:st2.s t=st.s t:=e1
  simp only[M.run]
  rw[this]
  show (k (st.s t)).run N st2=some (a1,appT l1 st2)
  exact run_fits _ h1 e2
 |.rdX t i k,st,st',st2,a,l,h,hf=>by
  simp only[M.runT] at h
  cases hp:partOf (st.s t) i with
  |none=>rw[hp] at h;cases h
  |some y=>
   rw[hp] at h
   obtain ⟨⟨a1,st1,l1⟩,h1,h2⟩:=Option.map_eq_some_iff.1 h
   cases h2
   obtain ⟨e1,e2⟩:=hf
   have:partOf (st2.s t) i=some y:=e1
   simp only[M.run]
   rw[this]
   show (k y).run N st2=some (a1,appT l1 st2)
   exact run_fits _ h1 e2
 |.rdB n k,st,st',st2,a,l,h,hf=>by
  simp only[M.runT] at h
  obtain ⟨⟨a1,st1,l1⟩,h1,h2⟩:=Option.map_eq_some_iff.1 h
  cases h2
  obtain ⟨e1,e2⟩:=hf
  have:st2.b n=st.b n:=e1
  simp only[M.run]
  rw[this]
  show (k (st.b n)).run N st2=some (a1,appT l1 st2)
  exact run_fits _ h1 e2
 |.wrS t v k,st,st',st2,a,l,h,hf=>by
  simp only[M.runT] at h
  split at h
  ·rename_i hlt
   obtain ⟨⟨a1,st1,l1⟩,h1,h2⟩:=Option.map_eq_some_iff.1 h
   cases h2
   simp only[M.run,hlt,if_true]
   exact run_fits k h1 hf.2
  ·cases h
 |.wrB n x k,st,st',st2,a,l,h,hf=>by
  simp only[M.runT] at h
  obtain ⟨⟨a1,st1,l1⟩,h1,h2⟩:=Option.map_eq_some_iff.1 h
  cases h2
  simp only[M.run]
  exact run_fits k h1 hf.2
 |.kill n p k,st,st',st2,a,l,h,hf=>by
  simp only[M.runT] at h
  obtain ⟨⟨a1,st1,l1⟩,h1,h2⟩:=Option.map_eq_some_iff.1 h
  cases h2
  simp only[M.run]
  exact run_fits k h1 hf.2
 |.rdH n c k,st,st',st2,a,l,h,hf=>by
  simp only[M.runT] at h
  obtain ⟨⟨a1,st1,l1⟩,h1,h2⟩:=Option.map_eq_some_iff.1 h
  cases h2
  obtain ⟨e1,e2⟩:=hf
  have:hdrLen (st2.b n).cells c=hdrLen (st.b n).cells c:=e1
  simp only[M.run]
  rw[this]
  show (k (hdrLen (st.b n).cells c)).run N st2=some (a1,appT l1 st2)
  exact run_fits _ h1 e2
 |.hoB n p k,st,st',st2,a,l,h,hf=>by
  simp only[M.runT] at h
  split at h
  ·obtain ⟨⟨a1,st1,l1⟩,h1,h2⟩:=Option.map_eq_some_iff.1 h
   cases h2
   obtain ⟨e1,e2⟩:=hf
   have e1:(setAt (st2.b n).cells p .hole).isSome=true:=e1
   obtain ⟨cs,hcs⟩:=Option.isSome_iff_exists.1 e1
   simp only[M.run,hcs]
   have e3:Ac.app (.ho n p) st2=⟨st2.s,fun m=>if m=n then ⟨(st2.b n).real,cs⟩ else st2.b m⟩:=by simp only[Ac.app,hcs,Option.getD_some]
   have:=run_fits k h1 e2
   rw[e3] at this
   simp only[appT,e3]
   exact this
  ·cases h
mutual
def noDead:LV→Bool
 |.dead=>false
 |.agg xs=>noDeads xs
 |.tup xs=>noDeads xs
 |.fn _ xs=>noDeads xs
 |.va xs=>noDeads xs
 |_=>true
def noDeads:List LV→Bool
 |[]=>true
 |x :: xs=>noDead x&&noDeads xs
end
mutual
theorem killV_noDead (n:Nm) (p:List Nat):∀ v:LV,noDead (killV n p v)=true→killV n p v=v
 |.t x,_=>by rw[killV]
 |.ref m q lo hi,h=>by
  rw[killV] at h ⊢
  split at h
  ·simp [noDead] at h
  ·rename_i hn;rw[if_neg hn]
 |.addr m q,h=>by
  rw[killV] at h ⊢
  split at h
  ·simp [noDead] at h
  ·rename_i hn;rw[if_neg hn]
 |.raddr cs,_=>by rw[killV]
 |.agg xs,h=>by
  rw[killV] at h ⊢
  rw[noDead] at h
  rw[killVs_noDead n p xs h]
 |.tup xs,h=>by
  rw[killV] at h ⊢
  rw[noDead] at h
  rw[killVs_noDead n p xs h]
 |.fn g xs,h=>by
  rw[killV] at h ⊢
  rw[noDead] at h
  rw[killVs_noDead n p xs h]
 |.va xs,h=>by
  rw[killV] at h ⊢
  rw[noDead] at h
  rw[killVs_noDead n p xs h]
 |.dead,_=>by rw[killV]
theorem killVs_noDead (n:Nm) (p:List Nat):∀ xs:List LV,noDeads (killVs n p xs)=true→killVs n p xs=xs
 |[],_=>by rw[killVs]
 |x :: xs,h=>by
  rw[killVs,noDeads,Bool.and_eq_true] at h
  rw[killVs,killV_noDead n p x h.1,killVs_noDead n p xs h.2]
end
mutual
theorem killV_comm (n m:Nm) (p q:List Nat):∀ v:LV,killV n p (killV m q v)=killV m q (killV n p v)
 |.t x=>by simp only[killV]
 |.ref k r lo hi=>by
  have f1:killV m q (.ref k r lo hi)=if k=m∧q.isPrefixOf r then .dead else .ref k r lo hi:=by rw[killV]
  have f2:killV n p (.ref k r lo hi)=if k=n∧p.isPrefixOf r then .dead else .ref k r lo hi:=by rw[killV]
  rw[f1,f2]
  by_cases h1:k=m∧q.isPrefixOf r=true
  ·rw[if_pos h1]
   by_cases h2:k=n∧p.isPrefixOf r=true
   ·rw[if_pos h2,killV,killV]
   ·rw[if_neg h2,f1,if_pos h1,killV]
  ·rw[if_neg h1,f2]
   by_cases h2:k=n∧p.isPrefixOf r=true
   ·rw[if_pos h2,killV]
   ·rw[if_neg h2,f1,if_neg h1]
 |.addr k r=>by
  have f1:killV m q (.addr k r)=if k=m∧q.isPrefixOf r∧q.length<r.length then .dead else .addr k r:=by rw[killV]
  have f2:killV n p (.addr k r)=if k=n∧p.isPrefixOf r∧p.length<r.length then .dead else .addr k r:=by rw[killV]
  rw[f1,f2]
  by_cases h1:k=m∧q.isPrefixOf r=true∧q.length<r.length
  ·rw[if_pos h1]
   by_cases h2:k=n∧p.isPrefixOf r=true∧p.length<r.length
   ·rw[if_pos h2,killV,killV]
   ·rw[if_neg h2,f1,if_pos h1,killV]
  ·rw[if_neg h1,f2]
   by_cases h2:k=n∧p.isPrefixOf r=true∧p.length<r.length
   ·rw[if_pos h2,killV]
   ·rw[if_neg h2,f1,if_neg h1]
 |.raddr cs=>by simp only[killV]
 |.agg xs=>by simp only[killV];rw[killVs_comm n m p q xs]
 |.tup xs=>by simp only[killV];rw[killVs_comm n m p q xs]
 |.fn g xs=>by simp only[killV];rw[killVs_comm n m p q xs]
 |.va xs=>by simp only[killV];rw[killVs_comm n m p q xs]
 |.dead=>by simp only[killV]
theorem killVs_comm (n m:Nm) (p q:List Nat):∀ xs:List LV,killVs n p (killVs m q xs)=killVs m q (killVs n p xs)
 |[]=>by simp only[killVs]
 |x :: xs=>by simp only[killVs];rw[killV_comm n m p q x,killVs_comm n m p q xs]
end
mutual
theorem goneV_noDead (d:Nat):∀ v:LV,noDead (goneV d v)=true→goneV d v=v
 |.t x,_=>by rw[goneV]
 |.ref m q lo hi,h=>by
  rw[goneV] at h ⊢
  split at h
  ·simp [noDead] at h
  ·rename_i hn;rw[if_neg hn]
 |.addr m q,h=>by
  rw[goneV] at h ⊢
  split at h
  ·simp [noDead] at h
  ·rename_i hn;rw[if_neg hn]
 |.raddr cs,_=>by rw[goneV]
 |.agg xs,h=>by
  rw[goneV] at h ⊢
  rw[noDead] at h
  rw[goneVs_noDead d xs h]
 |.tup xs,h=>by
  rw[goneV] at h ⊢
  rw[noDead] at h
  rw[goneVs_noDead d xs h]
 |.fn g xs,h=>by
  rw[goneV] at h ⊢
  rw[noDead] at h
  rw[goneVs_noDead d xs h]
 |.va xs,h=>by
  rw[goneV] at h ⊢
  rw[noDead] at h
  rw[goneVs_noDead d xs h]
 |.dead,_=>by rw[goneV]
theorem goneVs_noDead (d:Nat):∀ xs:List LV,noDeads (goneVs d xs)=true→goneVs d xs=xs
 |[],_=>by rw[goneVs]
 |x :: xs,h=>by
  rw[goneVs,noDeads,Bool.and_eq_true] at h
  rw[goneVs,goneV_noDead d x h.1,goneVs_noDead d xs h.2]
end
mutual
theorem goneV_kill (d:Nat) (n:Nm) (p:List Nat):∀ v:LV,goneV d (killV n p v)=killV n p (goneV d v)
 |.t x=>by simp only[killV,goneV]
 |.ref k r lo hi=>by
  have f1:killV n p (.ref k r lo hi)=if k=n∧p.isPrefixOf r then .dead else .ref k r lo hi:=by rw[killV]
  have f2:goneV d (.ref k r lo hi)=if gone d k=true then .dead else .ref k r lo hi:=by rw[goneV]
  rw[f1,f2]
  by_cases h1:k=n∧p.isPrefixOf r=true
  ·rw[if_pos h1]
   by_cases h2:gone d k=true
   ·rw[if_pos h2,goneV,killV]
   ·rw[if_neg h2,f1,if_pos h1,goneV]
  ·rw[if_neg h1,f2]
   by_cases h2:gone d k=true
   ·rw[if_pos h2,killV]
   ·rw[if_neg h2,f1,if_neg h1]
 |.addr k r=>by
  have f1:killV n p (.addr k r)=if k=n∧p.isPrefixOf r∧p.length<r.length then .dead else .addr k r:=by rw[killV]
  have f2:goneV d (.addr k r)=if gone d k=true then .dead else .addr k r:=by rw[goneV]
  rw[f1,f2]
  by_cases h1:k=n∧p.isPrefixOf r=true∧p.length<r.length
  ·rw[if_pos h1]
   by_cases h2:gone d k=true
   ·rw[if_pos h2,goneV,killV]
   ·rw[if_neg h2,f1,if_pos h1,goneV]
  ·rw[if_neg h1,f2]
   by_cases h2:gone d k=true
   ·rw[if_pos h2,killV]
   ·rw[if_neg h2,f1,if_neg h1]
 |.raddr cs=>by simp only[killV,goneV]
 |.agg xs=>by simp only[killV,goneV];rw[goneVs_kill d n p xs]
 |.tup xs=>by simp only[killV,goneV];rw[goneVs_kill d n p xs]
 |.fn g xs=>by simp only[killV,goneV];rw[goneVs_kill d n p xs]
 |.va xs=>by simp only[killV,goneV];rw[goneVs_kill d n p xs]
 |.dead=>by simp only[killV,goneV]
theorem goneVs_kill (d:Nat) (n:Nm) (p:List Nat):∀ xs:List LV,goneVs d (killVs n p xs)=killVs n p (goneVs d xs)
 |[]=>by simp only[killVs,goneVs]
 |x :: xs=>by simp only[killVs,goneVs];rw[goneV_kill d n p x,goneVs_kill d n p xs]
end
mutual
theorem goneV_comm (d e:Nat):∀ v:LV,goneV d (goneV e v)=goneV e (goneV d v)
 |.t x=>by simp only[goneV]
 |.ref k r lo hi=>by
  have f1:∀ d,goneV d (.ref k r lo hi)=if gone d k=true then .dead else .ref k r lo hi:=fun d=>by rw[goneV]
  rw[f1,f1]
  by_cases h1:gone e k=true
  ·rw[if_pos h1]
   by_cases h2:gone d k=true
   ·rw[if_pos h2,goneV,goneV]
   ·rw[if_neg h2,f1,if_pos h1,goneV]
  ·rw[if_neg h1,f1]
   by_cases h2:gone d k=true
   ·rw[if_pos h2,goneV]
   ·rw[if_neg h2,f1,if_neg h1]
 |.addr k r=>by
  have f1:∀ d,goneV d (.addr k r)=if gone d k=true then .dead else .addr k r:=fun d=>by rw[goneV]
  rw[f1,f1]
  by_cases h1:gone e k=true
  ·rw[if_pos h1]
   by_cases h2:gone d k=true
   ·rw[if_pos h2,goneV,goneV]
   ·rw[if_neg h2,f1,if_pos h1,goneV]
  ·rw[if_neg h1,f1]
   by_cases h2:gone d k=true
   ·rw[if_pos h2,goneV]
   ·rw[if_neg h2,f1,if_neg h1]
 |.raddr cs=>by simp only[goneV]
 |.agg xs=>by simp only[goneV];rw[goneVs_comm d e xs]
 |.tup xs=>by simp only[goneV];rw[goneVs_comm d e xs]
 |.fn g xs=>by simp only[goneV];rw[goneVs_comm d e xs]
 |.va xs=>by simp only[goneV];rw[goneVs_comm d e xs]
 |.dead=>by simp only[goneV]
theorem goneVs_comm (d e:Nat):∀ xs:List LV,goneVs d (goneVs e xs)=goneVs e (goneVs d xs)
 |[]=>by simp only[goneVs]
 |x :: xs=>by simp only[goneVs];rw[goneV_comm d e x,goneVs_comm d e xs]
end
structure Forgets (k:LV→LV):Prop where
 agg:∀ xs,k (.agg xs)=.agg (xs.map k)
 tup:∀ xs,k (.tup xs)=.tup (xs.map k)
 fn:∀ g xs,k (.fn g xs)=.fn g (xs.map k)
 va:∀ xs,k (.va xs)=.va (xs.map k)
 ref:∀ m q lo hi,k (.ref m q lo hi)=.ref m q lo hi∨k (.ref m q lo hi)=.dead
 addr:∀ m q,k (.addr m q)=.addr m q∨k (.addr m q)=.dead
 t:∀ x,k (.t x)=.t x
 raddr:∀ cs,k (.raddr cs)=.raddr cs
 dead:k .dead=.dead
theorem killVs_map (n:Nm) (p:List Nat):∀ xs,killVs n p xs=xs.map (killV n p)
 |[]=>by rw[killVs];rfl
 |x :: xs=>by rw[killVs,killVs_map n p xs];rfl
theorem goneVs_map (d:Nat):∀ xs,goneVs d xs=xs.map (goneV d)
 |[]=>by rw[goneVs];rfl
 |x :: xs=>by rw[goneVs,goneVs_map d xs];rfl
theorem kmVs_map (n:Nm):∀ xs,kmVs n xs=xs.map (kmV n)
 |[]=>by rw[kmVs];rfl
 |x :: xs=>by rw[kmVs,kmVs_map n xs];rfl
theorem forgets_kill (n:Nm) (p:List Nat):Forgets (killV n p):=⟨fun xs=>by rw[killV,killVs_map],fun xs=>by rw[killV,killVs_map],fun g xs=>by rw[killV,killVs_map],fun xs=>by rw[killV,killVs_map],
 fun m q lo hi=>by rw[killV];split<;>simp,fun m q=>by rw[killV];split<;>simp,fun x=>by rw[killV],fun x=>by rw[killV],by rw[killV]⟩
theorem forgets_gone (d:Nat):Forgets (goneV d):=⟨fun xs=>by rw[goneV,goneVs_map],fun xs=>by rw[goneV,goneVs_map],fun g xs=>by rw[goneV,goneVs_map],fun xs=>by rw[goneV,goneVs_map],
 fun m q lo hi=>by rw[goneV];split<;>simp,fun m q=>by rw[goneV];split<;>simp,fun x=>by rw[goneV],fun x=>by rw[goneV],by rw[goneV]⟩
theorem forgets_km (n:Nm):Forgets (kmV n):=⟨fun xs=>by rw[kmV,kmVs_map],fun xs=>by rw[kmV,kmVs_map],fun g xs=>by rw[kmV,kmVs_map],fun xs=>by rw[kmV,kmVs_map],
 fun m q lo hi=>by rw[kmV];split<;>simp,fun m q=>by rw[kmV];split<;>simp,fun x=>by rw[kmV],fun x=>by rw[kmV],by rw[kmV]⟩
theorem noDeads_all:∀ xs:List LV,noDeads xs=true↔∀ x∈xs,noDead x=true
 |[]=>by simp [noDeads]
 |x :: xs=>by simp [noDeads,noDeads_all xs]
theorem Forgets.noDead {k:LV→LV} (h:Forgets k):∀ v:LV,TM.noDead (k v)=true→k v=v:=by
 suffices H:(∀ (v:LV),TM.noDead (k v)=true→k v=v)∧True from H.1
 refine ⟨?_,trivial⟩
 intro v
 induction v using LV.rec (motive_2:=fun xs=>∀ x∈xs,TM.noDead (k x)=true→k x=x) with
 |t x=>intro _;exact h.t x
 |ref m q lo hi=>intro hn;rcases h.ref m q lo hi with e | e;· exact e
                 ·rw[e] at hn;simp [TM.noDead] at hn
 |addr m q=>intro hn;rcases h.addr m q with e | e;· exact e
            ·rw[e] at hn;simp [TM.noDead] at hn
 |raddr cs=>intro _;exact h.raddr cs
 |agg xs ih=>
  intro hn
  rw[h.agg] at hn ⊢
  rw[TM.noDead,noDeads_all] at hn
  congr 1
  exact (List.map_congr_left fun x hx=>ih x hx (hn _ (List.mem_map_of_mem hx))).trans (List.map_id' xs)
 |tup xs ih=>
  intro hn
  rw[h.tup] at hn ⊢
  rw[TM.noDead,noDeads_all] at hn
  congr 1
  exact (List.map_congr_left fun x hx=>ih x hx (hn _ (List.mem_map_of_mem hx))).trans (List.map_id' xs)
 |fn g xs ih=>
  intro hn
  rw[h.fn] at hn ⊢
  rw[TM.noDead,noDeads_all] at hn
  congr 1
  exact (List.map_congr_left fun x hx=>ih x hx (hn _ (List.mem_map_of_mem hx))).trans (List.map_id' xs)
 |va xs ih=>
  intro hn
  rw[h.va] at hn ⊢
  rw[TM.noDead,noDeads_all] at hn
  congr 1
  exact (List.map_congr_left fun x hx=>ih x hx (hn _ (List.mem_map_of_mem hx))).trans (List.map_id' xs)
 |dead=>intro _;exact h.dead
 |nil=>rename_i hx _;simp at hx
 |cons x xs ih1 ih2=>
  rename_i y hy hn
  rcases List.mem_cons.1 hy with rfl | hy
  ·exact ih1 hn
  ·exact ih2 y hy hn
theorem Forgets.comm {k j:LV→LV} (h:Forgets k) (g:Forgets j):∀ v:LV,k (j v)=j (k v):=by
 intro v
 induction v using LV.rec (motive_2:=fun xs=>∀ x∈xs,k (j x)=j (k x)) with
 |t x=>rw[h.t,g.t,h.t]
 |ref m q lo hi=>rcases h.ref m q lo hi with e | e<;>rcases g.ref m q lo hi with e' | e'<;>rw[e,e']<;>simp only[e,h.dead,g.dead]
 |addr m q=>rcases h.addr m q with e | e<;>rcases g.addr m q with e' | e'<;>rw[e,e']<;>simp only[e,h.dead,g.dead]
 |raddr cs=>rw[h.raddr,g.raddr,h.raddr]
 |agg xs ih=>rw[h.agg,g.agg,h.agg,g.agg,List.map_map,List.map_map];congr 1;exact List.map_congr_left fun x hx=>ih x hx
 |tup xs ih=>rw[h.tup,g.tup,h.tup,g.tup,List.map_map,List.map_map];congr 1;exact List.map_congr_left fun x hx=>ih x hx
 |fn f xs ih=>rw[h.fn,g.fn,h.fn,g.fn,List.map_map,List.map_map];congr 1;exact List.map_congr_left fun x hx=>ih x hx
 |va xs ih=>rw[h.va,g.va,h.va,g.va,List.map_map,List.map_map];congr 1;exact List.map_congr_left fun x hx=>ih x hx
 |dead=>rw[h.dead,g.dead,h.dead]
 |nil=>rename_i hx;simp at hx
 |cons x xs ih1 ih2=>
  rename_i y hy
  rcases List.mem_cons.1 hy with rfl | hy
  ·exact ih1
  ·exact ih2 y hy
theorem Forgets.part {k:LV→LV} (h:Forgets k) (v:LV) (i:Nat):partOf (k v) i=(partOf v i).map k:=by
 cases v with
 |tup xs=>rw[h.tup];simp [partOf]
 |ref m q lo hi=>rcases h.ref m q lo hi with e | e<;>rw[e]<;>rfl
 |addr m q=>rcases h.addr m q with e | e<;>rw[e]<;>rfl
 |agg xs=>rw[h.agg];rfl
 |fn g xs=>rw[h.fn];rfl
 |va xs=>rw[h.va];rfl
 |t x=>rw[h.t];rfl
 |raddr x=>rw[h.raddr];rfl
 |dead=>rw[h.dead];rfl
def calm (n:Nm) (p:List Nat) (v:LV):Prop:=killV n p v=v∧noDead v=true
def Ac.nc:Ac→Ac→Prop
 |.rS t _,.wS u _=>t≠u
 |.rX t _ _,.wS u _=>t≠u
 |.wS t _,.rX u _ _=>t≠u
 |.rX _ _ v,.kl n p=>calm n p v
 |.kl n p,.rX _ _ v=>calm n p v
 |.gn d,.rX _ _ v=>goneV d v=v∧noDead v=true
 |.rX _ _ v,.gn d=>goneV d v=v∧noDead v=true
 |.wS t _,.rS u _=>t≠u
 |.wS t _,.wS u _=>t≠u
 |.rS _ v,.kl n p=>calm n p v
 |.kl n p,.rS _ v=>calm n p v
 |.wS _ v,.kl n p=>killV n p v=v
 |.kl n p,.wS _ v=>killV n p v=v
 |.rB n _,.wB m _=>n≠m
 |.wB n _,.rB m _=>n≠m
 |.wB n _,.wB m _=>n≠m
 |.gn d,.rS _ v=>goneV d v=v∧noDead v=true
 |.rS _ v,.gn d=>goneV d v=v∧noDead v=true
 |.gn d,.wS _ v=>goneV d v=v
 |.wS _ v,.gn d=>goneV d v=v
 |.gn d,.rB n _=>gone d n=false
 |.rB n _,.gn d=>gone d n=false
 |.rS _ v,.km n=>kmV n v=v∧noDead v=true
 |.km n,.rS _ v=>kmV n v=v∧noDead v=true
 |.rX _ _ v,.km n=>kmV n v=v∧noDead v=true
 |.km n,.rX _ _ v=>kmV n v=v∧noDead v=true
 |.wS _ v,.km n=>kmV n v=v
 |.km n,.wS _ v=>kmV n v=v
 |.rB n _,.ho m _=>n≠m
 |.ho n _,.rB m _=>n≠m
 |.wB n _,.ho m _=>n≠m
 |.ho n _,.wB m _=>n≠m
 |.ho n _,.ho m _=>n≠m
 |.rH n _ _,.wB m _=>n≠m
 |.wB n _,.rH m _ _=>n≠m
 |.rH n _ _,.ho m p=>n≠m∨p.length≠1
 |.ho m p,.rH n _ _=>n≠m∨p.length≠1
 |.gn d,.rH n _ _=>gone d n=false
 |.rH n _ _,.gn d=>gone d n=false
 |.gn d,.ho n _=>gone d n=false
 |.ho n _,.gn d=>gone d n=false
 |.gn d,.wB n _=>gone d n=false
 |.wB n _,.gn d=>gone d n=false
 |_,_=>True
theorem St.ext' {a b:St} (h1:∀ t,a.s t=b.s t) (h2:∀ n,a.b n=b.b n):a=b:=by
 cases a;cases b
 have e1:=funext h1
 have e2:=funext h2
 simp only at e1 e2
 rw[e1,e2]
theorem part_kill {n:Nm} {p:List Nat} (v:LV) (i:Nat):partOf (killV n p v) i=(partOf v i).map (killV n p):=(forgets_kill n p).part v i
theorem part_gone {d:Nat} (v:LV) (i:Nat):partOf (goneV d v) i=(partOf v i).map (goneV d):=(forgets_gone d).part v i
theorem hdrLen_hole {cs cs':List T} {p:List Nat} (h:setAt cs p .hole=some cs') (hp:p.length≠1) (c:Nat):hdrLen cs' c=hdrLen cs c:=by
 match p,hp with
 |[],_=>simp [setAt] at h
 |c0 :: i :: rest,_=>
  simp only[setAt] at h
  split at h
  ·rename_i es r hd
   split at h
   ·rename_i e he
    split at h
    ·rename_i e' he'
     cases h
     unfold hdrLen
     by_cases hc:c=c0
     ·subst hc
      have hlt:c<cs.length:=by
       rcases Nat.lt_or_ge c cs.length with h | h
       ·exact h
       ·rw[List.drop_eq_nil_of_le h] at hd;cases hd
      rw[hd,List.drop_set,if_neg (by omega),Nat.sub_self,hd]
      simp
     ·rcases Nat.lt_or_gt_of_ne hc with h1 | h1
      ·rw[List.drop_set,if_neg (by omega)]
       cases hdc:cs.drop c with
       |nil=>rfl
       |cons x xs=>
        obtain ⟨k,hk⟩:∃ k,c0-c=k+1:=⟨c0-c-1,by omega⟩
        rw[hk,List.set_cons_succ]
        cases x with
        |sl f es=>cases f<;>rfl
        |_=>rfl
      ·rw[List.drop_set_of_lt (by omega)]
    ·cases h
   ·cases h
  ·cases h
theorem swap_one {N:Nat} (x y:Ac) {st:St} (h:x.nc y) (hx:x.fits N st) (hy:y.fits N (x.app st)):y.fits N st∧x.fits N (y.app st)∧y.app (x.app st)=x.app (y.app st):=by
 cases x with
 |rS t v=>
  cases y with
  |wS u v'=>
   simp only[Ac.nc] at h
   refine ⟨hy,?_,rfl⟩
   simp only[Ac.fits,Ac.app] at *
   rw[if_neg h];exact hx
  |kl n p=>
   simp only[Ac.nc,calm] at h
   refine ⟨trivial,?_,rfl⟩
   simp only[Ac.fits,Ac.app] at *
   rw[hx];exact h.1
  |gn d=>
   simp only[Ac.nc] at h
   refine ⟨trivial,?_,rfl⟩
   simp only[Ac.fits,Ac.app] at *
   rw[hx];exact h.1
  |km n=>
   simp only[Ac.nc] at h
   refine ⟨trivial,?_,rfl⟩
   simp only[Ac.fits,Ac.app] at *
   rw[hx];exact h.1
  |_=>exact ⟨hy,hx,rfl⟩
 |rX t i v=>
  cases y with
  |wS u v'=>
   simp only[Ac.nc] at h
   refine ⟨hy,?_,rfl⟩
   simp only[Ac.fits,Ac.app] at *
   rw[if_neg h];exact hx
  |kl n p=>
   simp only[Ac.nc,calm] at h
   refine ⟨trivial,?_,rfl⟩
   simp only[Ac.fits,Ac.app] at *
   rw[part_kill,hx,Option.map_some,h.1]
  |gn d=>
   simp only[Ac.nc] at h
   refine ⟨trivial,?_,rfl⟩
   simp only[Ac.fits,Ac.app] at *
   rw[part_gone,hx,Option.map_some,h.1]
  |km n=>
   simp only[Ac.nc] at h
   refine ⟨trivial,?_,rfl⟩
   simp only[Ac.fits,Ac.app] at *
   rw[(forgets_km n).part,hx,Option.map_some,h.1]
  |_=>exact ⟨hy,hx,rfl⟩
 |rB t v=>
  cases y with
  |gn d=>
   simp only[Ac.nc] at h
   refine ⟨trivial,?_,rfl⟩
   simp only[Ac.fits,Ac.app] at *
   rw[h];simpa using hx
  |ho m p=>
   simp only[Ac.nc] at h
   refine ⟨hy,?_,rfl⟩
   simp only[Ac.fits,Ac.app] at *
   rw[if_neg h];exact hx
  |wB m x'=>
   simp only[Ac.nc] at h
   refine ⟨trivial,?_,rfl⟩
   simp only[Ac.fits,Ac.app] at *
   rw[if_neg h];exact hx
  |_=>exact ⟨hy,hx,rfl⟩
 |wS t v=>
  cases y with
  |rS u v'=>
   simp only[Ac.nc] at h
   refine ⟨?_,hx,rfl⟩
   simp only[Ac.fits,Ac.app] at *
   rw[if_neg (Ne.symm h)] at hy;exact hy
  |rX u i v'=>
   simp only[Ac.nc] at h
   refine ⟨?_,hx,rfl⟩
   simp only[Ac.fits,Ac.app] at *
   rw[if_neg (Ne.symm h)] at hy;exact hy
  |wS u v'=>
   simp only[Ac.nc] at h
   refine ⟨hy,hx,St.ext' (fun k=>?_) (fun _=>rfl)⟩
   simp only[Ac.app]
   by_cases h1:k=u
   ·subst h1;simp [Ne.symm h]
   ·simp [h1]
  |kl n p=>
   simp only[Ac.nc] at h
   refine ⟨trivial,hx,St.ext' (fun k=>?_) (fun _=>rfl)⟩
   simp only[Ac.app]
   split
   ·exact h
   ·rfl
  |gn d=>
   simp only[Ac.nc] at h
   refine ⟨trivial,hx,St.ext' (fun k=>?_) (fun _=>rfl)⟩
   simp only[Ac.app]
   split
   ·exact h
   ·rfl
  |km n=>
   simp only[Ac.nc] at h
   refine ⟨trivial,hx,St.ext' (fun k=>?_) (fun _=>rfl)⟩
   simp only[Ac.app]
   split
   ·exact h
   ·rfl
  |_=>exact ⟨hy,hx,rfl⟩
 |wB n v=>
  cases y with
  |rH m c o=>
   simp only[Ac.nc] at h
   refine ⟨?_,hx,rfl⟩
   simp only[Ac.fits,Ac.app] at *
   rw[if_neg (Ne.symm h)] at hy;exact hy
  |ho m p=>
   simp only[Ac.nc] at h
   simp only[Ac.fits,Ac.app,if_neg (Ne.symm h)] at hy
   refine ⟨hy,trivial,St.ext' (fun _=>rfl) (fun k=>?_)⟩
   simp only[Ac.app,if_neg (Ne.symm h)]
   by_cases h1:k=m
   ·subst h1;simp [Ne.symm h]
   ·simp [h1]
  |gn d=>
   simp only[Ac.nc] at h
   refine ⟨trivial,trivial,St.ext' (fun _=>rfl) (fun k=>?_)⟩
   simp only[Ac.app]
   by_cases h1:k=n
   ·subst h1;simp [h]
   ·simp [h1]
  |rB m x'=>
   simp only[Ac.nc] at h
   refine ⟨?_,hx,rfl⟩
   simp only[Ac.fits,Ac.app] at *
   rw[if_neg (Ne.symm h)] at hy;exact hy
  |wB m x'=>
   simp only[Ac.nc] at h
   refine ⟨trivial,trivial,St.ext' (fun _=>rfl) (fun k=>?_)⟩
   simp only[Ac.app]
   by_cases h1:k=m
   ·subst h1;simp [Ne.symm h]
   ·simp [h1]
  |_=>exact ⟨hy,hx,rfl⟩
 |kl n p=>
  cases y with
  |rX t i v=>
   simp only[Ac.nc,calm] at h
   refine ⟨?_,trivial,rfl⟩
   simp only[Ac.fits,Ac.app] at *
   rw[part_kill] at hy
   obtain ⟨v0,e1,e2⟩:=Option.map_eq_some_iff.1 hy
   have:=killV_noDead n p v0 (by rw[e2];exact h.2)
   rw[e1,← e2,this]
  |rS t v=>
   simp only[Ac.nc,calm] at h
   refine ⟨?_,trivial,rfl⟩
   simp only[Ac.fits,Ac.app] at *
   rw[← hy]
   refine (killV_noDead n p _ ?_).symm
   rw[hy];exact h.2
  |wS t v=>
   simp only[Ac.nc] at h
   refine ⟨hy,trivial,St.ext' (fun k=>?_) (fun _=>rfl)⟩
   simp only[Ac.app]
   split
   ·exact h.symm
   ·rfl
  |kl m q=>
   refine ⟨trivial,trivial,St.ext' (fun k=>?_) (fun _=>rfl)⟩
   simp only[Ac.app]
   exact killV_comm m n q p _
  |gn d=>
   refine ⟨trivial,trivial,St.ext' (fun k=>?_) (fun _=>rfl)⟩
   simp only[Ac.app]
   exact goneV_kill d n p _
  |km m=>
   refine ⟨trivial,trivial,St.ext' (fun k=>?_) (fun _=>rfl)⟩
   simp only[Ac.app]
   exact (forgets_km m).comm (forgets_kill n p) _
  |_=>exact ⟨hy,trivial,rfl⟩
 |gn d=>
  cases y with
  |rX t i v=>
   simp only[Ac.nc] at h
   refine ⟨?_,trivial,rfl⟩
   simp only[Ac.fits,Ac.app] at *
   rw[part_gone] at hy
   obtain ⟨v0,e1,e2⟩:=Option.map_eq_some_iff.1 hy
   have:=goneV_noDead d v0 (by rw[e2];exact h.2)
   rw[e1,← e2,this]
  |rS t v=>
   simp only[Ac.nc] at h
   refine ⟨?_,trivial,rfl⟩
   simp only[Ac.fits,Ac.app] at *
   rw[← hy]
   refine (goneV_noDead d _ ?_).symm
   rw[hy];exact h.2
  |wS t v=>
   simp only[Ac.nc] at h
   refine ⟨hy,trivial,St.ext' (fun k=>?_) (fun _=>rfl)⟩
   simp only[Ac.app]
   split
   ·exact h.symm
   ·rfl
  |rB n x=>
   simp only[Ac.nc] at h
   refine ⟨?_,trivial,rfl⟩
   simp only[Ac.fits,Ac.app] at *
   rw[h] at hy
   simpa using hy
  |rH n c o=>
   simp only[Ac.nc] at h
   refine ⟨?_,trivial,rfl⟩
   simp only[Ac.fits,Ac.app] at *
   rw[h] at hy
   simpa using hy
  |ho n p=>
   simp only[Ac.nc] at h
   simp only[Ac.fits,Ac.app,h,Bool.false_eq_true,if_false] at hy
   refine ⟨hy,trivial,St.ext' (fun _=>rfl) (fun k=>?_)⟩
   simp only[Ac.app,h,Bool.false_eq_true,if_false]
   by_cases h1:k=n
   ·subst h1;simp [h]
   ·simp [h1]
  |wB n x=>
   simp only[Ac.nc] at h
   refine ⟨trivial,trivial,St.ext' (fun _=>rfl) (fun k=>?_)⟩
   simp only[Ac.app]
   by_cases h1:k=n
   ·subst h1;simp [h]
   ·simp [h1]
  |kl n p=>
   refine ⟨trivial,trivial,St.ext' (fun k=>?_) (fun _=>rfl)⟩
   simp only[Ac.app]
   exact (goneV_kill d n p _).symm
  |gn e=>
   refine ⟨trivial,trivial,St.ext' (fun k=>?_) (fun k=>?_)⟩
   ·simp only[Ac.app]
    exact goneV_comm e d _
   ·simp only[Ac.app]
    split<;>split<;>rfl
  |km m=>
   refine ⟨trivial,trivial,St.ext' (fun k=>?_) (fun _=>rfl)⟩
   simp only[Ac.app]
   exact (forgets_km m).comm (forgets_gone d) _
 |km n=>
  cases y with
  |rX t i v=>
   simp only[Ac.nc] at h
   refine ⟨?_,trivial,rfl⟩
   simp only[Ac.fits,Ac.app] at *
   rw[(forgets_km n).part] at hy
   obtain ⟨v0,e1,e2⟩:=Option.map_eq_some_iff.1 hy
   have:=(forgets_km n).noDead v0 (by rw[e2];exact h.2)
   rw[e1,← e2,this]
  |rS t v=>
   simp only[Ac.nc] at h
   refine ⟨?_,trivial,rfl⟩
   simp only[Ac.fits,Ac.app] at *
   rw[← hy]
   refine ((forgets_km n).noDead _ ?_).symm
   rw[hy];exact h.2
  |wS t v=>
   simp only[Ac.nc] at h
   refine ⟨hy,trivial,St.ext' (fun k=>?_) (fun _=>rfl)⟩
   simp only[Ac.app]
   split
   ·exact h.symm
   ·rfl
  |kl m p=>
   refine ⟨trivial,trivial,St.ext' (fun k=>?_) (fun _=>rfl)⟩
   simp only[Ac.app]
   exact (forgets_kill m p).comm (forgets_km n) _
  |gn d=>
   refine ⟨trivial,trivial,St.ext' (fun k=>?_) (fun _=>rfl)⟩
   simp only[Ac.app]
   exact (forgets_gone d).comm (forgets_km n) _
  |km m=>
   refine ⟨trivial,trivial,St.ext' (fun k=>?_) (fun _=>rfl)⟩
   simp only[Ac.app]
   exact (forgets_km m).comm (forgets_km n) _
  |rB m x=>exact ⟨hy,trivial,rfl⟩
  |wB m x=>exact ⟨hy,trivial,rfl⟩
  |rH m c o=>exact ⟨hy,trivial,rfl⟩
  |ho m p=>exact ⟨hy,trivial,rfl⟩
 |rH n c o=>
  cases y with
  |wB m x=>
   simp only[Ac.nc] at h
   refine ⟨trivial,?_,rfl⟩
   simp only[Ac.fits,Ac.app] at *
   rw[if_neg h];exact hx
  |gn d=>
   simp only[Ac.nc] at h
   refine ⟨trivial,?_,rfl⟩
   simp only[Ac.fits,Ac.app] at *
   rw[h];simpa using hx
  |ho m p=>
   simp only[Ac.nc] at h
   refine ⟨hy,?_,rfl⟩
   simp only[Ac.fits,Ac.app] at *
   by_cases hm:n=m
   ·subst hm
    obtain ⟨cs,hcs⟩:=Option.isSome_iff_exists.1 hy
    rw[if_pos rfl]
    simp only[hcs,Option.getD_some]
    rw[hdrLen_hole hcs (h.resolve_left (fun h=>h rfl)),hx]
   ·rw[if_neg hm];exact hx
  |_=>exact ⟨hy,hx,rfl⟩
 |ho n p=>
  cases y with
  |rB m x=>
   simp only[Ac.nc] at h
   refine ⟨?_,hx,rfl⟩
   simp only[Ac.fits,Ac.app] at *
   rw[if_neg (Ne.symm h)] at hy;exact hy
  |rH m c o=>
   simp only[Ac.nc] at h
   refine ⟨?_,hx,rfl⟩
   simp only[Ac.fits,Ac.app] at *
   by_cases hm:m=n
   ·subst hm
    obtain ⟨cs,hcs⟩:=Option.isSome_iff_exists.1 hx
    rw[if_pos rfl] at hy
    simp only[hcs,Option.getD_some] at hy
    rw[hdrLen_hole hcs (h.resolve_left (fun h=>h rfl))] at hy
    exact hy
   ·rw[if_neg hm] at hy;exact hy
  |wB m x=>
   simp only[Ac.nc] at h
   simp only[Ac.fits] at hx
   refine ⟨trivial,?_,St.ext' (fun _=>rfl) (fun k=>?_)⟩
   ·simp only[Ac.fits,Ac.app,if_neg h];exact hx
   ·simp only[Ac.app,if_neg h]
    by_cases h1:k=m
    ·subst h1;simp [Ne.symm h]
    ·simp [h1]
  |gn d=>
   simp only[Ac.nc] at h
   simp only[Ac.fits] at hx
   refine ⟨trivial,?_,St.ext' (fun _=>rfl) (fun k=>?_)⟩
   ·simp only[Ac.fits,Ac.app,h,Bool.false_eq_true,if_false];exact hx
   ·simp only[Ac.app,h,Bool.false_eq_true,if_false]
    by_cases h1:k=n
    ·subst h1;simp [h]
    ·simp [h1]
  |ho m q=>
   simp only[Ac.nc] at h
   simp only[Ac.fits] at hx
   simp only[Ac.fits,Ac.app,if_neg (Ne.symm h)] at hy
   refine ⟨hy,?_,St.ext' (fun _=>rfl) (fun k=>?_)⟩
   ·simp only[Ac.fits,Ac.app,if_neg h];exact hx
   ·simp only[Ac.app,if_neg h,if_neg (Ne.symm h)]
    by_cases h1:k=m
    ·subst h1;simp [Ne.symm h]
    ·simp [h1]
  |_=>exact ⟨hy,hx,rfl⟩
def ncT (l l':List Ac):Prop:=∀ x∈l,∀ y∈l',x.nc y
theorem swap_oneT {N:Nat} (x:Ac):∀ (l:List Ac) {st:St},(∀ y∈l,x.nc y)→x.fits N st→fitsT N l (x.app st)→fitsT N l st∧x.fits N (appT l st)∧appT l (x.app st)=x.app (appT l st)
 |[],st,_,hx,_=>⟨trivial,hx,rfl⟩
 |y :: l,st,h,hx,hl=>by
  obtain ⟨h1,h2⟩:=hl
  obtain ⟨k1,k2,k3⟩:=swap_one x y (h y (by simp)) hx h1
  rw[k3] at h2
  obtain ⟨m1,m2,m3⟩:=swap_oneT x l (st:=y.app st) (fun z hz=>h z (by simp [hz])) k2 h2
  refine ⟨⟨k1,m1⟩,m2,?_⟩
  simp only[appT]
  rw[k3]
  exact m3
theorem swapT {N:Nat}:∀ (l l':List Ac) {st:St},ncT l l'→fitsT N l st→fitsT N l' (appT l st)→fitsT N l' st∧fitsT N l (appT l' st)∧appT l' (appT l st)=appT l (appT l' st)
 |[],l',st,_,_,h=>⟨h,trivial,rfl⟩
 |x :: l,l',st,h,hx,hl=>by
  obtain ⟨h1,h2⟩:=hx
  obtain ⟨k1,k2,k3⟩:=swapT l l' (st:=x.app st) (fun z hz y hy=>h z (by simp [hz]) y hy) h2 hl
  obtain ⟨m1,m2,m3⟩:=swap_oneT x l' (h x (by simp)) h1 k1
  refine ⟨m1,⟨m2,?_⟩,?_⟩
  ·rw[← m3];exact k2
  ·simp only[appT]
   rw[← m3]
   exact k3
end TM
namespace TM
open Go
def fitsAll (N:Nat):List (List Ac)→St→Prop
 |[],_=>True
 |l :: ls,st=>fitsT N l st∧fitsAll N ls (appT l st)
def appAll:List (List Ac)→St→St
 |[],st=>st
 |l :: ls,st=>appAll ls (appT l st)
theorem pull {N:Nat} {l:List Ac} {post:List (List Ac)}:∀ (pre:List (List Ac)) {st:St},(∀ x∈pre,ncT x l)→fitsAll N (pre++l :: post) st →
  fitsT N l st∧fitsAll N (pre++post) (appT l st)∧appAll (pre++post) (appT l st)=appAll (pre++l :: post) st
 |[],st,_,h=>⟨h.1,h.2,rfl⟩
 |x :: pre,st,hn,h=>by
  obtain ⟨h1,h2⟩:=h
  obtain ⟨k1,k2,k3⟩:=pull pre (st:=appT x st) (fun y hy=>hn y (by simp [hy])) h2
  obtain ⟨m1,m2,m3⟩:=swapT x l (hn x (by simp)) h1 k1
  refine ⟨m1,⟨m2,?_⟩,?_⟩
  ·rw[← m3];exact k2
  ·simp only[List.cons_append,appAll]
   rw[← m3];exact k3
def Doable (C:Ctx) (all:Array Oper) (i:Nat) (l:List Ac):Prop:=
 ∀ (st:St) (G:Gh) (a:Act) (w:World) (K:Act→World→Prop) (Q:Exit→Act→World→Prop),fitsT C.N l st→Sim C G st [] a w →
   (∀ G' a' w',Sim C G' (appT l st) [] a' w'→K a' w')→wpOp C.P all Q i K a w
def anc (ops:Array Oper) (j:Nat):Nat→Nat→Bool
 |0,_=>false
 |n+1,i=>((ops[i]?).map fun o=>o.after.any fun e=>Region.binds .any e&&(e.on==j || anc ops j n e.on)).getD false
def listedOf (n:Nat) (R:List Nat) (l:Array Bool):Prop:=l.size=n∧∀ i,i<n→(l.getD i false=false↔i∈R)
def closedOf (ops:Array Oper) (R:List Nat):Prop:=∀ k,k<ops.size→k ∉ R→∀ o,ops[k]?=some o→∀ e∈o.after,Region.binds .any e=true→e.on ∉ R
theorem anc_listed {ops:Array Oper} {R:List Nat} (hsz:∀ (i:Nat) (o:Oper),ops[i]?=some o→∀ e∈o.after,Region.binds .any e=true→e.on<ops.size) (hc:closedOf ops R) {j:Nat}:∀ (n i:Nat),i<ops.size→i ∉ R→anc ops j n i=true→j ∉ R
 |0,_,_,_,h=>by simp [anc] at h
 |n+1,i,hi,hR,h=>by
  rw[anc] at h
  have ho:ops[i]?=some ops[i]:=by simp [hi]
  rw[ho] at h
  simp only[Option.map_some,Option.getD_some,Array.any_eq_true',Bool.and_eq_true,Bool.or_eq_true,beq_iff_eq] at h
  obtain ⟨e,he,hb,h⟩:=h
  have h1:=hc i hi hR _ ho e he hb
  rcases h with h | h
  ·rw[← h];exact h1
  ·exact anc_listed hsz hc n e.on (hsz i _ ho e he hb) h1 h
section
variable {C:Ctx}
theorem region_wp {ops:Array Oper} {ls:List (List Ac)} {Q:Exit→Act→World→Prop} {fin:St} (hn:ls.length=ops.size) (bef:Nat→Nat→Prop) (hirr:∀ i,¬ bef i i)
  (hsz:∀ (i:Nat) (o:Oper),ops[i]?=some o→∀ e∈o.after,Region.binds .any e=true→e.on<ops.size)
  (hself:∀ (i:Nat) (o:Oper),ops[i]?=some o→∀ e∈o.after,Region.binds .any e=true→e.on≠i)
  (hbef:∀ (i j:Nat) (o:Oper),bef i j→ops[i]?=some o→∀ e∈o.after,Region.binds .any e=true→e.on≠j)
  (hdo:∀ (i:Nat) (l:List Ac),ls[i]?=some l→Doable C ops i l)
  (hnc:∀ (i j:Nat) (l l':List Ac),bef j i→anc ops j ops.size i=false→ls[j]?=some l'→ls[i]?=some l→ncT l' l)
  (hQ:∀ G a w,Sim C G fin [] a w→Q .normal a w) :
  ∀ (fuel:Nat) (R:List Nat) (listed:Array Bool) (st:St) (G:Gh) (a:Act) (w:World),R.Pairwise bef→(∀ i∈R,i<ops.size)→listedOf ops.size R listed→closedOf ops R →
    fitsAll C.N (R.map fun i=>ls.getD i []) st→appAll (R.map fun i=>ls.getD i []) st=fin→R.length≤fuel→Sim C G st [] a w→wpAny C.P .any ops Q fuel listed a w:=by
 have rdy:∀ (R:List Nat) (listed:Array Bool),(∀ i∈R,i<ops.size)→listedOf ops.size R listed→∀ i,i∈Region.ready .any ops listed↔i∈R∧∀ o,ops[i]?=some o→∀ e∈o.after,Region.binds .any e=true→e.on ∉ R:=by
  intro R listed hR hl i
  unfold Region.ready
  rw[List.mem_filter,List.mem_range]
  constructor
  ·rintro ⟨hi,h⟩
   rw[Bool.and_eq_true] at h
   obtain ⟨h1,h2⟩:=h
   have hg:listed.getD i true=listed.getD i false:=by
    simp [Array.getD_eq_getD_getElem?,hl.1,hi]
   have hf:listed.getD i false=false:=by
    rw[hg] at h1
    simpa using h1
   refine ⟨(hl.2 i hi).1 hf,fun o ho e he hb hin=>?_⟩
   rw[ho] at h2
   simp only[Option.map_some,Option.getD_some,Array.all_eq_true'] at h2
   have:=h2 e he
   rw[hb] at this
   have hlte:=hsz i o ho e he hb
   have:=(hl.2 e.on hlte).2 hin
   simp_all
  ·rintro ⟨hi,h⟩
   have hi':=hR i hi
   refine ⟨hi',?_⟩
   have hf:=(hl.2 i hi').2 hi
   have hg:listed.getD i true=listed.getD i false:=by
    simp [Array.getD_eq_getD_getElem?,hl.1,hi']
   have ho:ops[i]?=some ops[i]:=by simp [hi']
   rw[hg,hf,ho]
   simp only[Bool.not_false,Bool.true_and,Option.map_some,Option.getD_some,Array.all_eq_true']
   intro e he
   cases hb:Region.binds .any e with
   |false=>simp
   |true=>
    have hlte:=hsz i _ ho e he hb
    have h1:=h _ ho e he hb
    have:¬ listed.getD e.on false=false:=fun h2=>h1 ((hl.2 e.on hlte).1 h2)
    simpa using this
 intro fuel
 induction fuel with
 |zero=>
  intro R listed st G a w hp hR hl hcl hf ha hlen s
  have:R=[]:=List.length_eq_zero_iff.1 (by omega)
  subst this
  refine ⟨?_,hQ G a w (by simp only[List.map_nil,appAll] at ha;exact ha ▸ s)⟩
  rw[List.eq_nil_iff_forall_not_mem]
  intro i hi
  have:=((rdy [] listed hR hl i).1 hi).1
  simp at this
 |succ fuel ih=>
  intro R listed st G a w hp hR hl hcl hf ha hlen s
  refine ⟨fun hrd=>?_,fun i hi=>?_⟩
  ·cases R with
   |nil=>exact hQ G a w (by simp only[List.map_nil,appAll] at ha;exact ha ▸ s)
   |cons i R=>
    exfalso
    have:i∈Region.ready .any ops listed:=by
     refine (rdy (i :: R) listed hR hl i).2 ⟨by simp,fun o ho e he hb hin=>?_⟩
     rcases List.mem_cons.1 hin with h | h
     ·exact hself i o ho e he hb h
     ·exact hbef i e.on o ((List.pairwise_cons.1 hp).1 _ h) ho e he hb rfl
    rw[hrd] at this
    simp at this
  ·obtain ⟨hiR,hdir⟩:=(rdy R listed hR hl i).1 hi
   have hi':=hR i hiR
   obtain ⟨pre,post,rfl⟩:=List.append_of_mem hiR
   have hl0:ls[i]?=some (ls.getD i []):=by
    rw[List.getD_eq_getElem?_getD]
    simp [hn,hi']
   have hpw:=List.pairwise_append.1 hp
   rw[List.map_append,List.map_cons] at hf ha
   obtain ⟨q1,q2,q3⟩:=pull (N:=C.N) (l:=ls.getD i []) (post:=post.map fun i=>ls.getD i []) (pre.map fun i=>ls.getD i []) (st:=st) (fun x hx=>by
    obtain ⟨j,hj,rfl⟩:=List.mem_map.1 hx
    have hji:bef j i:=hpw.2.2 j hj i (by simp)
    have hjs:=hR j (by simp [hj])
    refine hnc i j _ _ hji ?_ (by rw[List.getD_eq_getElem?_getD];simp [hn,hjs]) hl0
    cases han:anc ops j ops.size i with
    |false=>rfl
    |true=>
     exfalso
     obtain ⟨n,hsz1⟩:∃ n,ops.size=n+1:=⟨ops.size-1,by omega⟩
     rw[hsz1,anc] at han
     have ho:ops[i]?=some ops[i]:=by simp [hi']
     rw[ho] at han
     simp only[Option.map_some,Option.getD_some,Array.any_eq_true',Bool.and_eq_true,Bool.or_eq_true,beq_iff_eq] at han
     obtain ⟨e,he,hb,han⟩:=han
     have h1:=hdir _ ho e he hb
     rcases han with han | han
     ·rw[han] at h1;exact h1 (by simp [hj])
     ·exact anc_listed hsz hcl n e.on (hsz i _ ho e he hb) h1 han (by simp [hj])) hf
   refine hdo i _ hl0 st G a w _ Q q1 s fun G' a' w' s'=>?_
   have hmem:∀ k,k∈pre++post↔k∈pre++i :: post∧k≠i:=by
    intro k
    simp only[List.mem_append,List.mem_cons]
    constructor
    ·rintro (h | h)
     ·exact ⟨.inl h,fun e=>hirr i (e ▸ hpw.2.2 k h i (by simp))⟩
     ·exact ⟨.inr (.inr h),fun e=>hirr i (by have:=(List.pairwise_cons.1 hpw.2.1).1 k h;rw[e] at this;exact this)⟩
    ·rintro ⟨h | h | h,hne⟩
     ·exact .inl h
     ·exact (hne h).elim
     ·exact .inr h
   refine ih (pre++post) (listed.setIfInBounds i true) _ G' a' w' ?_ (fun k hk=>hR k ((hmem k).1 hk).1) ⟨by simp [hl.1],fun k hk=>?_⟩ ?_ ?_ ?_ ?_ s'
   ·exact hp.sublist (List.Sublist.append_left (List.sublist_cons_self i post) pre)
   ·rw[hmem]
    rw[Array.getD_eq_getD_getElem?,Array.getElem?_setIfInBounds]
    by_cases hki:i=k
    ·subst hki
     simp [hl.1,hk]
    ·rw[if_neg hki,← Array.getD_eq_getD_getElem?]
     rw[hl.2 k hk]
     exact ⟨fun h=>⟨h,Ne.symm hki⟩,fun h=>h.1⟩
   ·intro k hk hkn o ho e he hb hin
    have hin':=((hmem _).1 hin).1
    by_cases hki:k=i
    ·subst hki
     exact hdir o ho e he hb hin'
    ·exact hcl k hk (fun h=>hkn ((hmem k).2 ⟨h,hki⟩)) o ho e he hb hin'
   ·rw[List.map_append];exact q2
   ·rw[List.map_append,q3];exact ha
   ·simp at hlen ⊢;omega
end
end TM
namespace TM
open Go
section
variable {C:Ctx}
theorem wp_of_OpOK {o:Oper} {st':St} {a:Act} {w:World} {K:Act→World→Prop} {Q:Exit→Act→World→Prop} (h:OpOK C o st' a w) (hK:∀ G' a' w',Sim C G' st' [] a' w'→K a' w'):o.wp C.P a w K Q:=by
 obtain ⟨G',w',v,hx,s'⟩:=h
 unfold Oper.wp
 rcases hx with hx | ⟨hx,rfl⟩
 ·rw[hx];exact hK G' _ w' s'
 ·rw[hx];exact hK G' _ w' s'
theorem doable_op {ops:Array Oper} {i:Nat} {o:Oper} {l:List Ac} {st0 st1:St} (ho:ops[i]?=some o) (hg:o.guard=none) (h:(opM C.P o).runT C.N st0=some ((),st1,l)):Doable C ops i l:=by
 intro st G a w K Q hf s hK
 have hr:=run_fits _ h hf
 unfold wpOp
 rw[ho]
 have hw:Region.wanted o (yielded ops a.tmps)=true:=by unfold Region.wanted;rw[hg]
 simp only[hw,if_true]
 exact .inl (wp_of_OpOK (op_all s hr) hK)
theorem doable_guard {ops:Array Oper} {i j d:Nat} {o:Oper} {b:Bool} {l:List Ac} {st0 st1:St} (ho:ops[i]?=some o) (hg:o.guard=some (j,b)) (hj:(ops[j]?).bind (·.dst)=some d) (h:(opM C.P o).runT C.N st0=some ((),st1,l)) :
  Doable C ops i (.rS d (.t (.v (.bool b))) :: l):=by
 intro st G a w K Q hf s hK
 obtain ⟨hd,hf⟩:=hf
 have hr:=run_fits _ h hf
 unfold wpOp
 rw[ho]
 have hw:Region.wanted o (yielded ops a.tmps)=true:=by
  unfold Region.wanted
  rw[hg]
  simp only
  rw[s.yields hj hd]
  simp
 simp only[hw,if_true]
 exact .inl (wp_of_OpOK (op_all s hr) hK)
theorem doable_skip {ops:Array Oper} {i j d:Nat} {o:Oper} {b:Bool} {v:LV} {l:List Ac} {st0 st1:St} (ho:ops[i]?=some o) (hg:o.guard=some (j,b)) (hj:(ops[j]?).bind (·.dst)=some d) (hv:v=.t (.v (.bool (!b)))∨v=.tup []) (h:(out o.dst (.tup [])).runT C.N st0=some ((),st1,l)) :
  Doable C ops i (.rS d v :: l):=by
 intro st G a w K Q hf s hK
 obtain ⟨hd,hf⟩:=hf
 have hr:=run_fits _ h hf
 unfold wpOp
 rw[ho]
 have hw:Region.wanted o (yielded ops a.tmps)=false:=by
  unfold Region.wanted
  rw[hg]
  simp only
  rcases hv with rfl | rfl
  ·rw[s.yields hj hd]
   cases b<;>rfl
  ·rw[s.unyields hj hd]
   rfl
 simp only[hw,Bool.false_eq_true,if_false]
 exact hK G _ w (s.undef2 hr)
theorem good_draw {P:Program} {f:FuncId} {R:Value→World→Prop} {id:Nat} {ops:Array Oper} {k:List It} {st:St} (ls:List (List Ac)) (hP:C.P=P) (hm:P.follows .mixedOrders=true) (hn:ls.length=ops.size)
  (ord:List Nat) (hol:ord.length=ops.size) (hod:ord.Nodup) (hom:∀ i,i∈ord↔i<ops.size)
  (hsz:∀ (i:Nat) (o:Oper),ops[i]?=some o→∀ e∈o.after,Region.binds .any e=true→e.on<ops.size∧e.on≠i)
  (hpw:ord.Pairwise fun i j=>∀ o,ops[i]?=some o→∀ e∈o.after,Region.binds .any e=true→e.on≠j)
  (hdo:∀ (i:Nat) (l:List Ac),ls[i]?=some l→Doable C ops i l)
  (hnc:∀ (i j:Nat) (l l':List Ac),[j,i].Sublist ord→anc ops j ops.size i=false→ls[j]?=some l'→ls[i]?=some l→ncT l' l)
  (hf:fitsAll C.N (ord.map fun i=>ls.getD i []) st) (h:Good C f R k (appAll (ord.map fun i=>ls.getD i []) st)):Good C f R (.c (.region id ops true) :: k) st:=by
 subst hP
 intro G a w s b cs hb hk
 have s0:Sim C G st [] a { w with drawn:=w.drawn+1 }:=by
  have key:∀ {Z:Fl→Nat→Prop},(∀ f b,Z f b→Z f b∧({ w with drawn:=w.drawn+1 }:World).heap[b]?=w.heap[b]?):=fun f b h=>⟨h,rfl⟩
  refine ⟨s.inj,s.lab,s.zone,s.fresh,s.zin,s.old,s.size,s.rest,fun n=>?_,fun j x u h=>by simp at h,fun t=>?_,s.ino,s.len,s.dfr⟩
  ·obtain ⟨h1,h2,h3⟩:=s.box n
   exact ⟨RepL.move key _ (fun b r hb=>⟨hb,rfl⟩) h1,h2,h3⟩
  ·refine RepV.keeps (w:=w) (w':={ w with drawn:=w.drawn+1 }) (bx:=st.b) (bx':=st.b) (G:=G) (G':=G) ⟨fun _ h=>h,fun _ _=>rfl⟩ _ (fun n p lo hi v h=>?_) (fun n p v h=>?_) (s.slot t)
   ·rw[RepV] at *;exact h
   ·rw[RepV] at *;exact h
 have hwp:=region_wp (C:=C) (ops:=ops) (ls:=ls) (Q:=fun e a w=>e=.normal∧∃ G',Sim C G' (appAll (ord.map fun i=>ls.getD i []) st) [] a w) (fin:=appAll (ord.map fun i=>ls.getD i []) st) hn (fun a b=>[a,b].Sublist ord)
  (fun i h=>absurd rfl (List.pairwise_iff_forall_sublist.1 hod h)) (fun i o ho e he hb=>(hsz i o ho e he hb).1) (fun i o ho e he hb=>(hsz i o ho e he hb).2) (fun i j o hb ho e he=>List.pairwise_iff_forall_sublist.1 hpw hb o ho e he) hdo hnc (fun G a w s=>⟨rfl,G,s⟩) ops.size ord (Array.replicate ops.size false) st G a { w with drawn:=w.drawn+1 }
  (List.pairwise_iff_forall_sublist.2 fun h=>h) (fun i hi=>(hom i).1 hi) ⟨by simp,fun i hi=>by simp [Array.getD_eq_getD_getElem?,hi,(hom i).2 hi]⟩ (fun k hk hkn=>absurd ((hom k).2 hk) hkn) hf rfl (by omega) s0
 obtain ⟨e,a',w',⟨rfl,G',s'⟩,harr⟩:=wp_region_any (id:=id) hm hwp b (k.map It.item) cs
 obtain ⟨v,w2,fr,h1,h2,h3⟩:=h G' a' w' s' b cs hb hk
 exact ⟨v,w2,fr,h1,Steps.trans harr h2,h3⟩
end
end TM
namespace TM
open Go
section
variable {C:Ctx}
theorem Forgets.comp {k j:LV→LV} (h:Forgets k) (g:Forgets j):Forgets fun v=>k (j v):=⟨fun xs=>by simp only[g.agg,h.agg,List.map_map];rfl,fun xs=>by simp only[g.tup,h.tup,List.map_map];rfl,fun f xs=>by simp only[g.fn,h.fn,List.map_map];rfl,fun xs=>by simp only[g.va,h.va,List.map_map];rfl,
 fun m q lo hi=>by
  rcases g.ref m q lo hi with e | e
  ·simp only[e];exact h.ref m q lo hi
  ·simp only[e];exact .inr h.dead,
 fun m q=>by
  rcases g.addr m q with e | e
  ·simp only[e];exact h.addr m q
  ·simp only[e];exact .inr h.dead,fun x=>by simp only[g.t,h.t],fun x=>by simp only[g.raddr,h.raddr],by simp only[g.dead,h.dead]⟩
theorem forgets_id:Forgets fun v=>v:=⟨fun xs=>by simp,fun xs=>by simp,fun f xs=>by simp,fun xs=>by simp,fun _ _ _ _=>.inl rfl,fun _ _=>.inl rfl,fun _=>rfl,fun _=>rfl,rfl⟩
theorem Forgets.ext {k j:LV→LV} (h:Forgets k) (g:Forgets j) (hr:∀ m q lo hi,k (.ref m q lo hi)=j (.ref m q lo hi)) (ha:∀ m q,k (.addr m q)=j (.addr m q)):∀ v:LV,k v=j v:=by
 intro v
 induction v using LV.rec (motive_2:=fun xs=>∀ x∈xs,k x=j x) with
 |t x=>rw[h.t,g.t]
 |ref m q lo hi=>exact hr m q lo hi
 |addr m q=>exact ha m q
 |raddr cs=>rw[h.raddr,g.raddr]
 |agg xs ih=>rw[h.agg,g.agg];congr 1;exact List.map_congr_left fun x hx=>ih x hx
 |tup xs ih=>rw[h.tup,g.tup];congr 1;exact List.map_congr_left fun x hx=>ih x hx
 |fn f xs ih=>rw[h.fn,g.fn];congr 1;exact List.map_congr_left fun x hx=>ih x hx
 |va xs ih=>rw[h.va,g.va];congr 1;exact List.map_congr_left fun x hx=>ih x hx
 |dead=>rw[h.dead,g.dead]
 |nil=>rename_i hx;simp at hx
 |cons x xs ih1 ih2=>
  rename_i y hy
  rcases List.mem_cons.1 hy with rfl | hy
  ·exact ih1
  ·exact ih2 y hy
theorem callVs_map {d:Nat} {mv:List (Option Nm)} {args:List Arg} {outs:List (List T)}:∀ xs,callVs d mv args outs xs=xs.map (callV d mv args outs)
 |[]=>by rw[callVs];rfl
 |x :: xs=>by rw[callVs,callVs_map xs];rfl
theorem forgets_call (d:Nat) (mv:List (Option Nm)) (args:List Arg) (outs:List (List T)):Forgets (callV d mv args outs):=⟨fun xs=>by rw[callV,callVs_map],fun xs=>by rw[callV,callVs_map],fun g xs=>by rw[callV,callVs_map],fun xs=>by rw[callV,callVs_map],
 fun m q lo hi=>by rw[callV];repeat' split
                   all_goals simp,fun m q=>by rw[callV];repeat' split
                                              all_goals simp,fun x=>by rw[callV],fun x=>by rw[callV],by rw[callV]⟩
def mvTs (outs:List (List T)):Nat→List (Option Nm)→List Ac
 |_,[]=>[]
 |i,none :: r=>mvTs outs (i+1) r
 |i,some n :: r=>.km n :: .wB n ⟨true,outs.getD i []⟩ :: mvTs outs (i+1) r
def kmL:List (Option Nm)→LV→LV
 |[],v=>v
 |none :: r,v=>kmL r v
 |some n :: r,v=>kmL r (kmV n v)
theorem forgets_kmL:∀ mv,Forgets (kmL mv)
 |[]=>forgets_id
 |none :: r=>forgets_kmL r
 |some n :: r=>(forgets_kmL r).comp (forgets_km n)
theorem kmL_ref (m:Nm) (q:List Nat) (lo hi:Nat):∀ (mv:List (Option Nm)) (i:Nat),kmL mv (.ref m q lo hi)=match mvIdx m i mv with
  |none=>.ref m q lo hi
  |some _=>.dead
 |[],i=>rfl
 |none :: r,i=>by rw[kmL,mvIdx];exact kmL_ref m q lo hi r (i+1)
 |some n :: r,i=>by
  rw[kmL,mvIdx,kmV]
  by_cases h:m=n
  ·rw[if_pos h,if_pos h.symm,(forgets_kmL r).dead]
  ·rw[if_neg h,if_neg (Ne.symm h)];exact kmL_ref m q lo hi r (i+1)
theorem kmL_addr (m:Nm) (q:List Nat):∀ (mv:List (Option Nm)) (i:Nat),kmL mv (.addr m q)=match mvIdx m i mv with
  |none=>.addr m q
  |some _=>if q.length=1 then .addr m q else .dead
 |[],i=>rfl
 |none :: r,i=>by rw[kmL,mvIdx];exact kmL_addr m q r (i+1)
 |some n :: r,i=>by
  rw[kmL,mvIdx,kmV]
  by_cases h:m=n
  ·by_cases h1:q.length=1
   ·rw[if_neg (fun e=>e.2 h1),if_pos h.symm]
    rw[kmL_addr m q r (i+1)]
    simp only[h1,if_true]
    split<;>rfl
   ·rw[if_pos ⟨h,h1⟩,if_pos h.symm,(forgets_kmL r).dead]
    simp only[h1,if_false]
  ·rw[if_neg (fun e=>h e.1),if_neg (Ne.symm h)];exact kmL_addr m q r (i+1)
theorem callV_moved {d:Nat} {mv:List (Option Nm)} {args:List Arg} {outs:List (List T)} (ha:∀ (i:Nat) (n:Nm),mv[i]?=some (some n)→∃ cs,args[i]?=some (.ptr cs)) (v:LV):callV d mv args outs v=kmL mv (goneV d v):=by
 refine (forgets_call d mv args outs).ext ((forgets_kmL mv).comp (forgets_gone d)) (fun m q lo hi=>?_) (fun m q=>?_) v
 ·rw[callV,goneV]
  by_cases hg:gone d m=true
  ·rw[if_pos hg,if_pos hg,(forgets_kmL mv).dead]
  ·rw[if_neg hg,if_neg hg,kmL_ref m q lo hi mv 0]
   cases hm:mvIdx m 0 mv with
   |none=>rfl
   |some i=>
    obtain ⟨cs,e⟩:=ha i m (by simpa using (mvIdx_some hm).2)
    simp only[e]
 ·rw[callV,goneV]
  by_cases hg:gone d m=true
  ·rw[if_pos hg,if_pos hg,(forgets_kmL mv).dead]
  ·rw[if_neg hg,if_neg hg,kmL_addr m q mv 0]<;>(cases mvIdx m 0 mv<;>rfl)
def wBs (d:Nat):Nat→List Arg→List Ac
 |_,[]=>[]
 |j,r :: rs=>.wB (d,j) (resBox [r] 0) :: wBs d (j+1) rs
theorem appT_append:∀ (l l':List Ac) (st:St),appT (l++l') st=appT l' (appT l st)
 |[],_,_=>rfl
 |x :: l,l',st=>by simp only[List.cons_append,appT];exact appT_append l l' _
theorem fitsT_append {N:Nat}:∀ (l l':List Ac) (st:St),fitsT N (l++l') st↔fitsT N l st∧fitsT N l' (appT l st)
 |[],_,_=>by simp [fitsT,appT]
 |x :: l,l',st=>by simp only[List.cons_append,fitsT,appT,fitsT_append l l' _,and_assoc]
theorem resBox_cons {r:Arg} {rs:List Arg} {i:Nat}:resBox (r :: rs) (i+1)=resBox rs i:=by cases r<;>rfl
theorem resBox_zero {r:Arg} {rs:List Arg}:resBox (r :: rs) 0=resBox [r] 0:=by cases r<;>rfl
theorem resBox_end:∀ {rs:List Arg} {i:Nat},rs.length≤i→resBox rs i=⟨false,[]⟩
 |[],_,_=>by simp [resBox]
 |r :: rs,0,h=>by simp at h
 |r :: rs,i+1,h=>by rw[resBox_cons];exact resBox_end (by simpa using h)
theorem appT_wBs {d:Nat}:∀ (rs:List Arg) (j:Nat) (st:St),appT (wBs d j rs) st=⟨st.s,fun m=>if m.1=d∧j≤m.2∧m.2<j+rs.length then resBox rs (m.2-j) else st.b m⟩
 |[],j,st=>by
  refine St.ext' (fun _=>rfl) fun m=>?_
  simp only[wBs,appT,List.length_nil]
  rw[if_neg (by omega)]
 |r :: rs,j,st=>by
  simp only[wBs,appT]
  rw[appT_wBs rs (j+1)]
  refine St.ext' (fun _=>rfl) fun m=>?_
  obtain ⟨m1,m2⟩:=m
  simp only[Ac.app,List.length_cons,Prod.mk.injEq]
  by_cases h1:m1=d
  ·subst h1
   by_cases h2:m2=j
   ·subst h2
    rw[if_neg (by omega),if_pos ⟨rfl,rfl⟩,if_pos (by omega),Nat.sub_self]
    exact resBox_zero.symm
   ·by_cases h3:j+1≤m2∧m2<j+1+rs.length
    ·rw[if_pos ⟨rfl,h3⟩,if_pos (by omega),show m2-j=(m2-(j+1))+1 by omega,resBox_cons]
    ·rw[if_neg (fun h=>h3 h.2),if_neg (fun h=>h2 h.2),if_neg (by omega)]
  ·rw[if_neg (fun h=>h1 h.1),if_neg (fun h=>h1 h.1),if_neg (fun h=>h1 h.1)]
def callT (reads:List Ac) (d:Nat) (mv:List (Option Nm)) (outs:List (List T)) (res:List Arg):List Ac:=reads++(.gn d :: (mvTs outs 0 mv++(wBs d 2 res++[.wS d (resLV d res)])))
def isRead:Ac→Prop
 |.rS _ _=>True
 |.rB _ _=>True
 |_=>False
theorem appT_reads:∀ (l:List Ac) (st:St),(∀ x∈l,isRead x)→appT l st=st
 |[],_,_=>rfl
 |x :: l,st,h=>by
  have h1:x.app st=st:=by
   have:=h x (by simp)
   cases x<;>first | rfl | exact this.elim
  simp only[appT,h1]
  exact appT_reads l st fun y hy=>h y (by simp [hy])
theorem appT_mvTs {outs:List (List T)}:∀ (mv:List (Option Nm)) (i:Nat) (st:St),mvOK mv→appT (mvTs outs i mv) st=⟨fun u=>kmL mv (st.s u),fun m=>match mvIdx m i mv with
  |some k=>⟨true,outs.getD k []⟩
  |none=>st.b m⟩
 |[],i,st,_=>rfl
 |none :: r,i,st,h=>by
  rw[mvTs,appT_mvTs r (i+1) st h]
  refine St.ext' (fun _=>rfl) fun m=>?_
  simp only[mvIdx]
 |some n :: r,i,st,h=>by
  rw[mvTs]
  simp only[appT]
  rw[appT_mvTs r (i+1) _ h.2]
  refine St.ext' (fun _=>rfl) fun m=>?_
  simp only[mvIdx,Ac.app]
  by_cases hm:n=m
  ·subst hm
   rw[if_pos rfl]
   have hnone:mvIdx n (i+1) r=none:=by
    cases hk:mvIdx n (i+1) r with
    |none=>rfl
    |some k=>exact (mvIdx_none h.1 _ (mvIdx_some hk).2).elim
   rw[hnone]
   simp
  ·rw[if_neg hm]
   split
   ·rfl
   ·rw[if_neg (Ne.symm hm)]
theorem appT_call {reads:List Ac} {d:Nat} {res args:List Arg} {outs:List (List T)} {mv:List (Option Nm)} {st:St} (hr:∀ x∈reads,isRead x) (hm:mvOK mv) (ha:∀ (i:Nat) (n:Nm),mv[i]?=some (some n)→(∃ cs,args[i]?=some (.ptr cs))∧gone d n=false∧(st.b n).real=true) :
  appT (callT reads d mv outs res) st=afterCall st d mv args outs res:=by
 unfold callT
 rw[appT_append,appT_reads _ _ hr]
 simp only[appT]
 rw[appT_append,appT_mvTs _ _ _ hm,appT_append,appT_wBs]
 refine St.ext' (fun u=>?_) fun m=>?_
 ·simp only[appT,Ac.app,afterCall]
  split
  ·rfl
  ·rw[callV_moved fun i n h=>(ha i n h).1]
 ·simp only[appT,Ac.app,afterCall]
  cases hg:gone d m with
  |false=>
   have:¬ (m.1=d∧2≤m.2):=by
    intro h
    rw[gone_iff.2 h] at hg
    cases hg
   rw[if_neg (fun h=>this ⟨h.1,h.2.1⟩)]
   simp only[Bool.false_eq_true,if_false]
   cases hi:mvIdx m 0 mv with
   |none=>rfl
   |some i=>
    have:=(ha i m (by simpa using (mvIdx_some hi).2)).2.2
    simp only[this]
  |true=>
   obtain ⟨h1,h2⟩:=gone_iff.1 hg
   simp only[if_true]
   have hnone:mvIdx m 0 mv=none:=by
    cases hk:mvIdx m 0 mv with
    |none=>rfl
    |some k=>
     have:=(ha k m (by simpa using (mvIdx_some hk).2)).2.1
     rw[hg] at this
     cases this
   rw[hnone]
   by_cases h3:m.2<2+res.length
   ·rw[if_pos ⟨h1,h2,h3⟩]
   ·rw[if_neg (fun h=>h3 h.2.2)]
    exact (resBox_end (by omega)).symm
theorem call_wp {P:Program} {G:Gh} {st:St} {a:Act} {w:World} {o:Oper} {f:FuncId} {vs:List LV} {d:Nat} {args res:List Arg} {outs:List (List T)} (mv:List (Option Nm)) (lent:Bool) {K:Act→World→Prop} {Q:Exit→Act→World→Prop} (hP:C.P=P) (hdN:d<C.N)
  (s:Sim C G st [] a w) (hc:callOf st o=some (f,vs,d)) (hok:argsOK st mv lent mv vs args) (hmv:mvOK mv) (hol:outs.length=mv.length) (F:Fun P f args outs res) (hback:backOK lent outs res)
  (hK:∀ G' a' w',Sim C G' (afterCall st d mv args outs res) [] a' w'→K a' w'):o.wp C.P a w K Q:=by
 subst hP
 obtain ⟨hd,us,hrun,hus⟩:=callOf_run s hc F.1
 obtain ⟨h1,h2,h3⟩:=argsOK_rep s mv hus hok
 have hinj:=mvOK_inj hmv
 have hcall:=call_in s F hinj h2 h1 (lent:=lent) (fun i c u hci hui=>by
  obtain ⟨on,v,e1,e2,e3⟩:=h3 i c u hci hui
  unfold ArgS
  rw[e1]
  cases c with
  |one x=>
   obtain ⟨rfl,e2⟩:=e2
   exact lend_rep s v e3 e2
  |agg cs=>
   obtain ⟨rfl,e2⟩:=e2
   cases v with
   |agg vs0=>
    rw[RepV] at e3
    obtain ⟨us0,rfl,e3⟩:=e3
    obtain ⟨q1,q2⟩:=lends_rep s vs0 e3 e2
    exact ⟨us0,rfl,by simpa using q2,q1⟩
   |_=>exact e2.elim
  |ptr cs=>
   cases on with
   |none=>exact e2.elim
   |some n=>
    cases v with
    |addr m p=>
     obtain ⟨rfl,rfl,e4,e5⟩:=e2
     rw[RepV] at e3
     obtain ⟨b,row,rfl,e6,e7,_⟩:=e3
     have:=s.inj _ _ _ e7 ((s.box m).2.2 e4).1
     subst this
     exact ⟨by simp [offOf],e4,e5⟩
    |_=>exact e2.elim
  |own x=>exact e2.elim
  |owns x=>exact e2.elim)
 have hargs:∀ (i:Nat) (n:Nm),mv[i]?=some (some n)→(st.b n).real=false∨∃ cs,args[i]?=some (.ptr cs):=by
  intro i n hi
  have hlt:i<args.length:=by
   have:=(List.getElem?_eq_some_iff.1 hi).1
   omega
  obtain ⟨on,v,e1,e2,e3⟩:=h3 i args[i] us[i] (by simp) (by simp)
  rw[hi] at e1
  cases e1
  right
  cases hca:args[i] with
  |one x=>rw[hca] at e2;cases e2.1
  |agg x=>rw[hca] at e2;cases e2.1
  |ptr cs=>exact ⟨cs,by rw[List.getElem?_eq_getElem hlt,hca]⟩
  |own x=>rw[hca] at e2;exact e2.elim
  |owns x=>rw[hca] at e2;exact e2.elim
 unfold Oper.wp
 rw[hrun,Oper.upon_enter]
 refine Calls.mono hcall fun e w' hR=>?_
 cases e with
 |panicked ch=>exact hR.elim
 |outgrown=>exact hR.elim
 |returned v=>
  obtain ⟨G2,s2,_⟩:=call_out (args:=args) s hR d hdN hinj hargs (fun i n hi=>by have:=(List.getElem?_eq_some_iff.1 hi).1;omega) hback
  rw[hd]
  exact hK G2 _ w' s2
theorem ptr_of_args {st:St} {lent:Bool}:∀ {os mv:List (Option Nm)} {vs:List LV} {args:List Arg},argsOK st mv lent os vs args→∀ (i:Nat) (n:Nm),os[i]?=some (some n)→(∃ cs,args[i]?=some (.ptr cs))∧(st.b n).real=true
 |[],_,_,_,_,i,n,hi=>by simp at hi
 |o :: os,mv,[],_,h,_,_,_=>by cases o<;>simp [argsOK] at h
 |o :: os,mv,v :: vs,[],h,_,_,_=>by simp [argsOK] at h
 |o :: os,mv,v :: vs,c :: cs,h,i,n,hi=>by
  rw[argsOK] at h
  cases i with
  |succ i=>exact ptr_of_args h.2 i n (by simpa using hi)
  |zero=>
   simp at hi
   subst hi
   have h1:=h.1
   cases c with
   |ptr cs'=>
    simp only[argOK] at h1
    cases v with
    |addr m p=>obtain ⟨rfl,_,h3,_⟩:=h1;exact ⟨⟨cs',rfl⟩,h3⟩
    |_=>exact h1.elim
   |one x=>cases h1.1
   |agg x=>cases h1.1
   |own x=>exact h1.elim
   |owns x=>exact h1.elim
theorem doable_call {P:Program} {ops:Array Oper} {i:Nat} {o:Oper} {f:FuncId} {vs:List LV} {d:Nat} {args res:List Arg} {outs:List (List T)} {reads:List Ac} (mv:List (Option Nm)) (lent:Bool) (hP:C.P=P) (hdN:d<C.N)
  (ho:ops[i]?=some o) (hmv:mvOK mv) (hgn:∀ (i:Nat) (n:Nm),mv[i]?=some (some n)→gone d n=false) (hol:outs.length=mv.length) (hr:∀ x∈reads,isRead x)
  (hok:∀ st,fitsT C.N reads st→callOf st o=some (f,vs,d)∧argsOK st mv lent mv vs args) (F:Fun P f args outs res) (hback:backOK lent outs res) :
  (o.guard=none→Doable C ops i (callT reads d mv outs res))∧(∀ j b d0,o.guard=some (j,b)→(ops[j]?).bind (·.dst)=some d0→Doable C ops i (.rS d0 (.t (.v (.bool b))) :: callT reads d mv outs res)):=by
 have key:∀ (st:St) (G:Gh) (a:Act) (w:World) (K:Act→World→Prop) (Q:Exit→Act→World→Prop),fitsT C.N (callT reads d mv outs res) st→Sim C G st [] a w →
   (∀ G' a' w',Sim C G' (appT (callT reads d mv outs res) st) [] a' w'→K a' w')→o.wp C.P a w K Q:=by
  intro st G a w K Q hf s hK
  have hfr:fitsT C.N reads st:=((fitsT_append reads _ st).1 hf).1
  obtain ⟨hc,hargs⟩:=hok st hfr
  rw[appT_call (args:=args) hr hmv fun i n hi=>⟨(ptr_of_args hargs i n hi).1,hgn i n hi,(ptr_of_args hargs i n hi).2⟩] at hK
  exact call_wp mv lent hP hdN s hc hargs hmv hol F hback hK
 refine ⟨fun hg st G a w K Q hf s hK=>?_,fun j b d0 hg hj st G a w K Q hf s hK=>?_⟩
 ·unfold wpOp
  rw[ho]
  have hw:Region.wanted o (yielded ops a.tmps)=true:=by unfold Region.wanted;rw[hg]
  simp only[hw,if_true]
  exact .inl (key st G a w K Q hf s hK)
 ·obtain ⟨hd0,hf⟩:=hf
  unfold wpOp
  rw[ho]
  have hw:Region.wanted o (yielded ops a.tmps)=true:=by
   unfold Region.wanted
   rw[hg]
   simp only
   rw[s.yields hj hd0]
   simp
  simp only[hw,if_true]
  exact .inl (key st G a w K Q hf s hK)
end
end TM
namespace TM
open Go
inductive Ty where
 |int | u8 | bool | str
 |sl (e:Ty)
 |st (fs:List Ty)
mutual
def Ty.size:Ty→Nat
 |.st fs=>Ty.sizes fs
 |_=>1
def Ty.sizes:List Ty→Nat
 |[]=>0
 |f :: fs=>f.size+Ty.sizes fs
end
mutual
def tyIs (P:Program):Ty→TypeId→Bool
 |.int,t=>(match P.underlying t with | some (.int .i64)=>true | _=>false)
 |.u8,t=>(match P.underlying t with | some (.int .u8)=>true | _=>false)
 |.bool,t=>(match P.underlying t with | some .bool=>true | _=>false)
 |.str,t=>(match P.underlying t with | some .string=>true | _=>false)
 |.sl e,t=>(match P.underlying t with | some (.slice et)=>tyIs P e et&&P.cellsOf et==e.size&&decide (0<e.size) | _=>false)
 |.st fs,t=>(match P.underlying t with | some (.struct fields)=>P.cellsOf t==Ty.sizes fs&&tysAre P fs fields.toList 0 | _=>false)
def tysAre (P:Program):List Ty→List Field→Nat→Bool
 |[],[],_=>true
 |f :: fs,x :: xs,o=>x.offset==o&&P.cellsOf x.type==f.size&&tyIs P f x.type&&tysAre P fs xs (o+f.size)
 |_,_,_=>false
end
def Ty.fl:Ty→Fl
 |.u8=>.nw
 |_=>.fz
theorem Ty.fl_own (y:Ty):y.fl≠.own:=by cases y<;>simp [Ty.fl]
mutual
def shape:Ty→List T→Prop
 |.int,ts=>∃ n:Int,ts=[.v (.int .i64 n)]∧-9223372036854775808≤n∧n≤9223372036854775807
 |.u8,ts=>∃ n:Int,ts=[.v (.int .u8 n)]∧0≤n∧n≤255
 |.bool,ts=>∃ b,ts=[.v (.bool b)]
 |.str,ts=>∃ s:ByteArray,ts=[.v (.string s)]∧s.size≤maxLen
 |.sl e,ts=>∃ es,ts=[.sl e.fl es]∧es.length≤maxLen∧∀ x∈es,shape e x
 |.st fs,ts=>shapes fs ts
def shapes:List Ty→List T→Prop
 |[],ts=>ts=[]
 |f :: fs,ts=>∃ a b,ts=a++b∧shape f a∧shapes fs b
end
mutual
theorem shape_length:∀ (y:Ty) {ts:List T},shape y ts→ts.length=y.size
 |.int,ts,h=>by rw[shape] at h;obtain ⟨n,rfl,_⟩:=h;rfl
 |.u8,ts,h=>by rw[shape] at h;obtain ⟨n,rfl,_⟩:=h;rfl
 |.bool,ts,h=>by rw[shape] at h;obtain ⟨n,rfl⟩:=h;rfl
 |.str,ts,h=>by rw[shape] at h;obtain ⟨n,rfl,_⟩:=h;rfl
 |.sl e,ts,h=>by rw[shape] at h;obtain ⟨n,rfl,_⟩:=h;rfl
 |.st fs,ts,h=>by rw[shape] at h;rw[Ty.size];exact shapes_length fs h
theorem shapes_length:∀ (fs:List Ty) {ts:List T},shapes fs ts→ts.length=Ty.sizes fs
 |[],ts,h=>by rw[shapes] at h;subst h;rfl
 |f :: fs,ts,h=>by
  rw[shapes] at h
  obtain ⟨a,b,rfl,h1,h2⟩:=h
  rw[List.length_append,shape_length f h1,shapes_length fs h2,Ty.sizes]
end
section
variable {H:Type} {enc:TypeId×Value→H} {P:Program} {w:World} {base:Nat} {spare:Nat→Bool} {held:Bool} {Z:Fl→Nat→Prop}
theorem RepL.join {a b:List T} {us:List Value} (h1:RepL Z w noLab noWhere 0 a us) (h2:RepL Z w noLab noWhere 0 b (us.drop a.length)):RepL Z w noLab noWhere 0 (a++b) us:=
 RepL.of_get fun i t hi=>by
  rw[List.getElem?_append] at hi
  split at hi
  ·obtain ⟨u,k1,k2⟩:=h1.get i t hi
   exact ⟨u,k1,k2⟩
  ·rename_i hlt
   obtain ⟨u,k1,k2⟩:=h2.get _ t hi
   rw[List.getElem?_drop,show a.length+(i-a.length)=i by omega] at k1
   exact ⟨u,k1,RepC.move (fun f b hb=>⟨hb,rfl⟩) t (fun b r hb=>by simp [noLab] at hb) k2⟩
theorem cell_block {a:Addr} {v:Value} (h:w.cell? a=some v):∃ vs ty fr,w.heap[a.block]?=some (.cells vs ty fr)∧a.spot=none∧vs[a.off]?=some v:=by
 unfold World.cell? at h
 split at h
 ·rename_i c ty fr hh
  split at h
  ·cases h
  ·rename_i hs
   exact ⟨c,ty,fr,hh,by simpa using hs,h⟩
 ·cases h
mutual
theorem trod_rep (hZ:∀ f b,f≠.own→b<w.heap.size→Z f b):∀ (y:Ty) {t:TypeId} {fuel:Nat} {cs:List Value} {x:DataW H×List MemPlace},tyIs P y t=true→DataW.trod enc P w base spare held fuel t cs=some x →
  ∃ ts,shape y ts∧RepL Z w noLab noWhere 0 ts cs∧cs.length=y.size
 |.int,t,fuel,cs,x,ht,h=>by
  rw[tyIs] at ht
  split at ht
  ·rename_i hu
   obtain ⟨n,rfl,_,hw⟩:=DataW.trod_int hu h
   have hw' : -9223372036854775808≤n∧n≤9223372036854775807:=by
    simp only[Lit.wf,Bool.and_eq_true,decide_eq_true_eq] at hw
    exact hw
   exact ⟨[.v (.int .i64 n)],by rw[shape];exact ⟨n,rfl,hw'⟩,by rw[RepL,RepL,RepC];exact ⟨⟨rfl,rfl⟩,trivial⟩,rfl⟩
  ·cases ht
 |.u8,t,fuel,cs,x,ht,h=>by
  rw[tyIs] at ht
  split at ht
  ·rename_i hu
   obtain ⟨n,rfl,_,hw⟩:=DataW.trod_int hu h
   have hw':0≤n∧n≤255:=by
    simp only[Lit.wf,Bool.and_eq_true,decide_eq_true_eq] at hw
    exact hw
   exact ⟨[.v (.int .u8 n)],by rw[shape];exact ⟨n,rfl,hw'⟩,by rw[RepL,RepL,RepC];exact ⟨⟨rfl,rfl⟩,trivial⟩,rfl⟩
  ·cases ht
 |.bool,t,fuel,cs,x,ht,h=>by
  rw[tyIs] at ht
  split at ht
  ·rename_i hu
   obtain ⟨n,rfl,_⟩:=DataW.trod_bool hu h
   exact ⟨[.v (.bool n)],by rw[shape];exact ⟨n,rfl⟩,by rw[RepL,RepL,RepC];exact ⟨⟨rfl,rfl⟩,trivial⟩,rfl⟩
  ·cases ht
 |.str,t,fuel,cs,x,ht,h=>by
  rw[tyIs] at ht
  split at ht
  ·rename_i hu
   obtain ⟨n,rfl,_,hw⟩:=DataW.trod_string hu h
   exact ⟨[.v (.string n)],by rw[shape];exact ⟨n,rfl,hw⟩,by rw[RepL,RepL,RepC];exact ⟨⟨rfl,rfl⟩,trivial⟩,rfl⟩
  ·cases ht
 |.sl e,t,fuel,cs,x,ht,h=>by
  rw[tyIs] at ht
  split at ht
  ·rename_i et hu
   simp only[Bool.and_eq_true,beq_iff_eq,decide_eq_true_eq] at ht
   obtain ⟨⟨h1,h2⟩,h3⟩:=ht
   rcases DataW.trod_slice hu h with ⟨rfl,_⟩ | ⟨a,len,cap,elems,rest,n,rfl,rfl,_,hb,hlc,hcm,hel,heach,_⟩
   ·refine ⟨[.sl e.fl []],by rw[shape];exact ⟨[],rfl,by simp,fun x hx=>by simp at hx⟩,?_,rfl⟩
    rw[RepL,RepL,RepC]
    exact ⟨⟨none,0,rfl,Nat.le_refl _,by unfold maxCap;omega,.inl ⟨rfl,fun h=>absurd h e.fl_own⟩⟩,trivial⟩
   ·have hex:∀ i,i<len→∃ ts ci,shape e ts∧RepL Z w noLab noWhere 0 ts ci∧ci.length=e.size∧∀ c,c<e.size→w.cell? ((a.add (i * e.size)).add c)=ci[c]?:=by
     intro i hi
     have hx:=heach i hi
     have he:elems[i]?=some elems[i]:=by simp [hel,hi]
     rw[he] at hx
     obtain ⟨ci,hc1,hc2⟩:=Option.bind_eq_some_iff.1 hx
     obtain ⟨ts,k1,k2,k3⟩:=trod_rep hZ e h1 hc2
     obtain ⟨_,_,k4⟩:=World.cells?_some hc1
     rw[h2] at k4
     exact ⟨ts,ci,k1,k2,k3,k4⟩
    let F:Nat→List T:=fun i=>if hi:i<len then Classical.choose (hex i hi) else []
    have hF:∀ i (hi:i<len),F i=Classical.choose (hex i hi):=fun i hi=>dif_pos hi
    let es:List (List T):=(List.range len).map F
    have hes:es.length=len:=by simp [es]
    have hget:∀ i e',es[i]?=some e'→∃ hi:i<len,e'=Classical.choose (hex i hi):=by
     intro i e' he
     have hi:i<len:=by
      have:=(List.getElem?_eq_some_iff.1 he).1
      omega
     refine ⟨hi,?_⟩
     simp only[es,List.getElem?_map,List.getElem?_range hi,Option.map_some,Option.some.injEq] at he
     rw[← he,hF i hi]
    refine ⟨[.sl e.fl es],by
     rw[shape]
     refine ⟨es,rfl,by omega,fun x hx=>?_⟩
     obtain ⟨i,hi⟩:=List.mem_iff_getElem?.1 hx
     obtain ⟨hlt,rfl⟩:=hget i x hi
     obtain ⟨ci,q1,_⟩:=Classical.choose_spec (hex i hlt)
     exact q1,?_,rfl⟩
    rw[RepL,RepL,RepC]
    refine ⟨⟨some a,cap,by rw[hes],by rw[hes];exact hlc,by unfold maxCap;unfold maxLen at hcm;omega,?_⟩,trivial⟩
    by_cases hl0:len=0
    ·exact .inl ⟨List.length_eq_zero_iff.1 (by omega),fun h=>absurd h e.fl_own⟩
    ·obtain ⟨ci,q1,q2,q3,q4⟩:=Classical.choose_spec (hex 0 (by omega))
     have hc0:=q4 0 h3
     have hci:ci[0]?=some (ci[0]'(by omega)):=by simp [show 0<ci.length by omega]
     rw[hci] at hc0
     obtain ⟨vs,ty,fr,hh,hsp,_⟩:=cell_block hc0
     obtain ⟨b,off,sp⟩:=a
     have hsp':sp=none:=by
      have e0:((⟨b,off,sp⟩:Addr).add (0 * e.size)).add 0=⟨b,off,sp⟩:=by simp [Addr.add]
      rw[e0] at hsp
      exact hsp
     subst hsp'
     simp only[add_off] at hh
     have hbl:b<w.heap.size:=(Array.getElem?_eq_some_iff.1 hh).1
     have hcell:∀ i (hi:i<len),RepL Z w noLab noWhere 0 (F i) (vs.toList.drop (off+i * e.size))∧(F i).length=e.size∧off+i * e.size+e.size≤vs.size:=by
      intro i hi
      obtain ⟨ci,p1,p2,p3,p4⟩:=Classical.choose_spec (hex i hi)
      rw[← hF i hi] at p1 p2
      have hl:=shape_length e p1
      have hat:∀ c,c<e.size→vs[off+i * e.size+c]?=ci[c]?:=by
       intro c hc
       have:=p4 c hc
       simp only[add_off] at this
       rw[cell_at hh] at this
       exact this
      refine ⟨p2.more fun c hc=>?_,hl,?_⟩
      ·rw[List.getElem?_drop,Array.getElem?_toList,hat c (by omega)]
      ·have:=hat (e.size-1) (by omega)
       rw[List.getElem?_eq_getElem (by omega)] at this
       have:=(Array.getElem?_eq_some_iff.1 this).1
       omega
     have hwl:∀ x∈es,x.length=e.size:=by
      intro x hx
      obtain ⟨i,hi⟩:=List.mem_iff_getElem?.1 hx
      obtain ⟨hlt,rfl⟩:=hget i x hi
      rw[← hF i hlt]
      exact (hcell i hlt).2.1
     refine .inr ⟨b,off,vs,ty,fr,e.size,rfl,⟨h3,fun h=>absurd h e.fl_own⟩,hh,?_,hwl,(fun h=>absurd h e.fl_own),fun _=>hZ _ b e.fl_own hbl,?_⟩
     ·rw[hes]
      have:=(hcell (len-1) (by omega)).2.2
      have e1:(len-1) * e.size+e.size=len * e.size:=by
       rw[← Nat.succ_mul]
       congr 1
       omega
      omega
     ·have e1:e.fl.labs noLab=noLab:=by cases e<;>rfl
      rw[e1]
      refine RepLL.of_get (wd:=e.size) hwl fun i e' he'=>?_
      obtain ⟨hlt,rfl⟩:=hget i e' he'
      rw[← hF i hlt,List.drop_drop]
      exact (hcell i hlt).1.any
  ·cases ht
 |.st fs,t,fuel,cs,x,ht,h=>by
  rw[tyIs] at ht
  split at ht
  ·rename_i fields hu
   simp only[Bool.and_eq_true,beq_iff_eq] at ht
   obtain ⟨h1,h2⟩:=ht
   obtain ⟨xs,n,rfl,_,hl,hxl,heach⟩:=DataW.trod_struct hu h
   obtain ⟨ts,k1,k2⟩:=trods_rep hZ fs (o:=0) (n:=n) (cs:=cs) h2 (fun f hf=>by
    obtain ⟨i,hi⟩:=List.mem_iff_getElem?.1 hf
    have hi':fields[i]?=some f:=by simpa using hi
    have:=heach i f hi'
    have hlt:i<xs.length:=by
     have:=(Array.getElem?_eq_some_iff.1 hi').1
     omega
    exact ⟨xs[i],by rw[this];simp [hlt]⟩) (by omega)
   exact ⟨ts,by rw[shape];exact k1,by simpa using k2,by rw[hl,h1,Ty.size]⟩
  ·cases ht
theorem trods_rep (hZ:∀ f b,f≠.own→b<w.heap.size→Z f b):∀ (fs:List Ty) {fields:List Field} {o n:Nat} {cs:List Value},tysAre P fs fields o=true →
  (∀ f∈fields,∃ x,DataW.trod enc P w base spare held n f.type ((cs.drop f.offset).take (P.cellsOf f.type))=some x)→o+Ty.sizes fs≤cs.length→∃ ts,shapes fs ts∧RepL Z w noLab noWhere 0 ts (cs.drop o)
 |[],fields,o,n,cs,_,_,_=>⟨[],by rw[shapes],by rw[RepL];trivial⟩
 |f :: fs,[],o,n,cs,ht,_,_=>by simp [tysAre] at ht
 |f :: fs,x :: fields,o,n,cs,ht,he,hle=>by
  simp only[tysAre,Bool.and_eq_true,beq_iff_eq] at ht
  obtain ⟨⟨⟨h1,h2⟩,h3⟩,h4⟩:=ht
  rw[Ty.sizes] at hle
  obtain ⟨y,hy⟩:=he x (by simp)
  obtain ⟨ts,k1,k2,k3⟩:=trod_rep hZ f h3 hy
  obtain ⟨ts2,q1,q2⟩:=trods_rep hZ fs (n:=n) (cs:=cs) h4 (fun z hz=>he z (by simp [hz])) (by omega)
  refine ⟨ts++ts2,by rw[shapes];exact ⟨ts,ts2,rfl,k1,q1⟩,RepL.join ?_ ?_⟩
  ·have hl:=shape_length f k1
   rw[h1,h2] at k2
   exact k2.more fun i hi=>by rw[List.getElem?_take,if_pos (by omega)]
  ·rw[shape_length f k1,List.drop_drop]
   exact q2
end
end
end TM
namespace TM
open Go
def allFz (w:World):Fl→Nat→Prop:=Zof (fun b=>b<w.heap.size) (fun b=>b<w.heap.size)
def Arg.given0 (w:World) (u:Value):Arg→Prop
 |.one x=>RepC (allFz w) w noLab noWhere x u
 |.agg cs=>∃ us:Array Value,u=.agg us∧us.size=cs.length∧RepL (allFz w) w noLab noWhere 0 cs us.toList
 |_=>False
theorem calls_of_fun {P:Program} {f:FuncId} {args:List Arg} {u:Value} {w:World} {us:List Value} (F:Fun P f args [] [.one (.v u)]) (hl:us.length=args.length)
  (h:∀ (i:Nat) (c:Arg) (v:Value),args[i]?=some c→us[i]?=some v→c.given0 w v):Calls P f us.toArray w (fun e w'=>e=.returned u∧RowKit.Below w.heap.size w w'):=by
 refine Calls.mono (F.2 ⟨P,w,fun b=>b<w.heap.size,fun b=>b<w.heap.size,fun _=>False,0,fun _=>0,fun _=>false,fun _=>[]⟩ noLab us rfl hl (fun b b' l h=>by cases h) (fun b l h=>by cases h) (fun b h=>⟨rfl,h.elim id id⟩) (fun i _=>⟨rfl,rfl⟩) (fun i c v hc hv=>?_)) fun e w' he=>?_
 ·have:=h i c v hc hv
  cases c with
  |one x=>exact ⟨this,rfl,rfl⟩
  |agg cs=>exact ⟨this,rfl,rfl⟩
  |ptr cs=>exact this.elim
  |own x=>exact this.elim
  |owns cs=>exact this.elim
 ·cases e with
  |panicked ch=>exact he.elim
  |outgrown=>exact he.elim
  |returned v=>
   obtain ⟨N,G,st,hs,a,vs,s,_,rfl,hr⟩:=he
   match hs,vs,hr with
   |(y,x) :: hs,v :: vs,hr=>
    simp only[ResRep] at hr
    obtain ⟨rfl,rfl,rfl,rfl⟩:=hr
    have hh:=s.held 0 _ _ rfl
    rw[RepC] at hh
    refine ⟨by rw[oneOrTuple,hh.1],s.rest.1,s.rest.2.1,s.rest.2.2,s.size,fun k hk=>s.old k hk (fun h=>h.elim)⟩
   |[],_,hr=>simp [ResRep] at hr
   |(_,_) :: _,[],hr=>simp [ResRep] at hr
end TM
namespace TM
open Go
section
variable {C:Ctx} {G:Gh} {st st1 st':St} {hs:List (T×Value)} {a:Act} {w:World}
theorem Sim.putBack (s:Sim C G st hs a w) {n:Nm} {p:List Nat} {x:T} {u hv:Value} {r cs':List T} {j:Nat} (hj:hs[j]?=some (x,u)) (hrow:rowAt (st.b n).cells p=some (.v hv :: r))
  (hset:setAt (st.b n).cells p x=some cs') (hx:∀ L l,RepC (C.Z G) w L l x u→RepC (C.Z G) w L l x hv) :
  Sim C ⟨relab (.held j,[]) (.box n,p) G.L,G.Zn,G.blk,G.vals⟩ ⟨fun t=>killV n p (st.s t),fun m=>if m=n then ⟨(st.b n).real,cs'⟩ else st.b m⟩ (hs.set j (.hole,u)) a w:=by
 have hp:p≠[]:=rowAt_ne hrow
 have hoth:∀ b q m,G.L b=some (.box m,q)→¬ (m=n∧p <+: q)→relab (.held j,[]) (.box n,p) G.L b=some (.box m,q):=by
  intro b q m hb hn
  refine relab_other hb (not_under_root (by simp)) ?_
  unfold Lab.under
  rw[if_neg]
  rintro ⟨h1,h2⟩
  exact hn ⟨by simpa using h1,h2⟩
 obtain ⟨urow,blk,off,k1,k2,_,k4⟩:=s.place hrow
 cases hur:urow with
 |nil=>rw[hur,RepL] at k2;exact k2.elim
 |cons hv1 us1=>
 have e0:=pathLab_last p (l:=(.box n,[])) hrow
 rw[hur] at k1 k4
 rw[hur,RepL,e0,RepC] at k2
 obtain ⟨⟨rfl,hone⟩,_⟩:=k2
 refine ⟨relab_inj s.inj,fun b l h=>?_,fun b h=>⟨relab_none (s.zone b h).1,(s.zone b h).2⟩,s.fresh,s.zin,s.old,s.size,s.rest,fun m=>?_,fun i y v h=>?_,fun t=>?_,fun i=>?_,s.len,s.dfr⟩
 ·rcases relab_some h with ⟨r',h1,_⟩ | ⟨h1,_,_⟩
  ·exact s.lab b _ h1
  ·exact s.lab b _ h1
 ·obtain ⟨h1,h2,h3⟩:=s.box m
  by_cases hm:m=n
  ·subst hm
   simp only[if_true]
   refine ⟨RepL.hole (_row:=r) (x:=x) h1 hset k1 (s.atBlk m) k4 (fun b q hb hnp=>hoth b q m hb (fun e=>hnp e.2)) ?_,by rw[h2,setAt_length p hset],fun hre=>?_⟩
   ·refine hx _ _ (RepC.move (fun f b hz=>⟨hz,rfl⟩) x (fun c q hc=>⟨?_,rfl⟩) (s.held j x u hj))
    have:=relab_src (dst:=(.box m,p)) hc
    simpa using this
   ·obtain ⟨h4,h5⟩:=h3 hre
    exact ⟨hoth _ _ _ h4 (fun e=>hp (List.prefix_nil.1 e.2)),h5⟩
  ·simp only[hm,if_false]
   refine ⟨RepL.move (fun f b hz=>⟨hz,rfl⟩) _ (fun b q hb=>⟨hoth b _ m hb (fun e=>hm e.1),rfl⟩) h1,h2,fun hre=>?_⟩
   obtain ⟨h4,h5⟩:=h3 hre
   exact ⟨hoth _ _ _ h4 (fun e=>hm e.1),h5⟩
 ·rw[List.getElem?_set] at h
  split at h
  ·split at h
   ·cases h;rw[RepC];exact (s.held j x _ hj).one
   ·cases h
  ·rename_i hij
   exact RepC.move (fun f b hz=>⟨hz,rfl⟩) y (fun c q hc=>⟨relab_other hc (not_under_root (by simp;omega)) (not_under_root (by simp)),rfl⟩) (s.held i y v h)
 ·exact slot_set s hset (fun b q m hb hn=>⟨hoth b q m hb hn,fun cs ty hh=>⟨cs,hh,rfl⟩⟩) (fun _ _=>rfl) _ (s.slot t)
 ·obtain ⟨z1,z2,z3⟩:=s.ino i
  refine ⟨z1,?_,z3⟩
  by_cases h:((i,1):Nm)=n
  ·simp only[h,if_true];rw[← h];exact z2
  ·simp only[h,if_false];exact z2
def St.anew (st:St) (n:Nm) (p:List Nat) (cs:List T):St:=⟨fun t=>killV n p (st.s t),fun m=>if m=n then ⟨(st.b n).real,cs⟩ else st.b m⟩
def SameHdr (hv u:Value):Prop:=hv=u∨∃ b b',hv=.slice b 0 0∧u=.slice b' 0 0
theorem SameHdr.rep {Z:Fl→Nat→Prop} {L:Labs} {l:Lab} {es:List (List T)} {hv u:Value} (h:SameHdr hv u) (hr:RepC Z w L l (.sl .own es) u):RepC Z w L l (.sl .own es) hv:=by
 rcases h with rfl | ⟨b,b',rfl,rfl⟩
 ·exact hr
 ·rw[RepC] at hr ⊢
  obtain ⟨ad,cap,e,h1,h2,h3⟩:=hr
  simp only[Value.slice.injEq] at e
  obtain ⟨_,e1,rfl⟩:=e
  have he:es=[]:=List.length_eq_zero_iff.1 e1.symm
  subst he
  exact ⟨b,0,rfl,Nat.le_refl _,h2,.inl ⟨rfl,fun _=>rfl⟩⟩
theorem Sim.takePin (s:Sim C G st hs a w) {n:Nm} {p:List Nat} {es:List (List T)} {r:List T} {u:Value} (hrow:rowAt (st.b n).cells p=some (.sl .own es :: r)) (hset:∀ y,∃ cs,setAt (st.b n).cells p y=some cs)
  (hu:RepV C G w st.b (.ref n p 0 es.length) u) :
  ∃ hv cs',SameHdr hv u∧setAt (st.b n).cells p (.v hv)=some cs'∧Sim C ⟨relab (.box n,p) (.held hs.length,[]) G.L,G.Zn,G.blk,G.vals⟩ (st.anew n p cs') (hs++[(.sl .own es,u)]) a w:=by
 obtain ⟨urow,blk,off,k1,k2,_,k4⟩:=s.place hrow
 cases hur:urow with
 |nil=>rw[hur,RepL] at k2;exact k2.elim
 |cons hv us1=>
 have e0:=pathLab_last p (l:=(.box n,[])) hrow
 rw[hur] at k1
 rw[hur,RepL,e0] at k2
 obtain ⟨cs',hcs⟩:=hset (.v hv)
 have hsame:SameHdr hv u:=by
  have h1:=k2.1
  rw[RepC] at h1
  obtain ⟨ad,cap,hhv,g1,g2,g3⟩:=h1
  rw[RepV] at hu
  obtain ⟨es2,r2,ad2,cap2,q1,q2,q3,⟨q4,q5,q6⟩,a',q7,q8⟩:=hu
  rw[hrow] at q1
  cases q1
  have ha':=q8 (.inr rfl)
  rw[shift_zero] at ha'
  subst ha'
  rcases g3 with ⟨e1,e2⟩ | ⟨b,o,vs,ty,fr,wd,e1,e2,e3,e4,e5,e6,e7,e8⟩
  ·subst e1
   have hc2:cap2=0:=by
    rcases q6 with ⟨_,h⟩ | ⟨_,_,_,_,_,h,_⟩
    ·exact h
    ·exact absurd rfl h.2
   have hc1:=e2 rfl
   subst hc1
   subst hc2
   exact .inr ⟨ad,a',by rw[hhv];rfl,by rw[q7];rfl⟩
  ·rcases q6 with ⟨h,_⟩ | ⟨b2,vs2,ty2,wd2,h1,h2,h3,h4,h5,h6⟩
   ·exact absurd h (e2.2 rfl)
   ·obtain ⟨o1,o2,o3,o4⟩:=e6 rfl
    have hbb:=s.inj _ _ _ o1 (by simpa using h3)
    subst hbb
    rw[e3] at h4
    cases h4
    have hwd:wd=wd2:=by
     cases es with
     |nil=>exact absurd rfl h2.2
     |cons e es=>rw[← e5 e (by simp),← h6 e (by simp)]
    subst hwd
    have hcap:cap=cap2:=Nat.eq_of_mul_eq_mul_right e2.1 (o4.symm.trans h5)
    left
    rw[hhv,q7,e1,h1,o2,hcap]
    rfl
 have ht:=s.takeY (y:=.v hv) hrow (fun hv' urow' blk' off' hl h1 L l=>by
  rw[k1] at hl
  cases hl
  rw[RepC]
  exact ⟨rfl,h1⟩) hcs (.inl rfl) hu
 rw[List.take_of_length_le (Nat.le_refl _)] at ht
 exact ⟨hv,cs',hsame,hcs,ht⟩
inductive Lift:St→List LV→List T→List (Option (Nm×List Nat×Value))→St→Prop where
 |nil (st:St):Lift st [] [] [] st
 |plain {st st1:St} {x:T} {vs xs sp} (h:Lift st vs xs sp st1):Lift st (.t x :: vs) (x :: xs) (none :: sp) st1
 |own {st st1:St} {n:Nm} {p:List Nat} {es:List (List T)} {r cs:List T} {hv:Value} {vs xs sp} (hr:rowAt (st.b n).cells p=some (.sl .own es :: r)) (hs:setAt (st.b n).cells p (.v hv)=some cs) (h:Lift (st.anew n p cs) vs xs sp st1) :
   Lift st (.ref n p 0 es.length :: vs) (.sl .own es :: xs) (some (n,p,hv) :: sp) st1
def AliveR (st:St) (vs:List LV):Prop:=∀ m q lo hi,LV.ref m q lo hi∈vs→∃ es r,rowAt (st.b m).cells q=some (.sl .own es :: r)
def CanLift:St→List LV→Prop
 |_,[]=>True
 |st,.t x :: vs=>x≠.hole∧CanLift st vs
 |st,.ref n p 0 hi :: vs=>∃ es r,rowAt (st.b n).cells p=some (.sl .own es :: r)∧hi=es.length∧(∀ y,∃ cs,setAt (st.b n).cells p y=some cs)∧∀ hv cs,setAt (st.b n).cells p (.v hv)=some cs→AliveR (st.anew n p cs) vs∧CanLift (st.anew n p cs) vs
 |_,_ :: _=>False
theorem not_thru {cs:List T} {p q:List Nat} {hv:Value} {r r':List T} {es:List (List T)} (h:rowAt cs p=some (.v hv :: r)) (h':rowAt cs q=some (.sl .own es :: r')):¬ p <+: q:=by
 intro hp
 rcases Nat.lt_or_ge p.length q.length with hl | hl
 ·obtain ⟨es',e⟩:=rowAt_through p h h' hp hl
  cases e
 ·have:=hp.eq_of_length (Nat.le_antisymm hp.length_le hl)
  subst this
  rw[h] at h'
  cases h'
theorem lift_step:∀ (vs:List LV) {G:Gh} {st:St} {hs:List (T×Value)} {us:List Value},Sim C G st hs a w→RepVs C G w st.b vs us→CanLift st vs →
  ∃ G1 xs sp st1,Lift st vs xs sp st1∧Sim C G1 st1 (hs++xs.zip us) a w∧G1.Zn=G.Zn∧xs.length=us.length∧sp.length=us.length∧(∀ (k:Nat) n p hv u,sp[k]?=some (some (n,p,hv))→us[k]?=some u→SameHdr hv u)
 |[],G,st,hs,us,s,hv,_=>by
  rw[RepVs] at hv
  subst hv
  exact ⟨G,[],[],st,.nil st,by simpa using s,rfl,rfl,rfl,fun k n p hv u h=>by simp at h⟩
 |v :: vs,G,st,hs,[],s,hv,_=>by rw[RepVs] at hv;exact hv.elim
 |.t x :: vs,G,st,hs,u :: us,s,hv,hc=>by
  rw[RepVs,RepV] at hv
  obtain ⟨G1,xs,sp,st1,h1,h2,h3,h4,h5,h6⟩:=lift_step vs (s.hold hv.1) hv.2 hc.2
  refine ⟨G1,x :: xs,none :: sp,st1,.plain h1,by simpa using h2,h3,by simp [h4],by simp [h5],fun k n p hv u hk hu=>?_⟩
  cases k with
  |zero=>simp at hk
  |succ k=>exact h6 k n p hv u (by simpa using hk) (by simpa using hu)
 |.ref n p 0 hi :: vs,G,st,hs,u :: us,s,hv,hc=>by
  rw[RepVs] at hv
  obtain ⟨es,r,c1,rfl,c3,c4⟩:=hc
  obtain ⟨hv0,cs',q1,q2,q3⟩:=s.takePin c1 c3 hv.1
  obtain ⟨c5,c6⟩:=c4 hv0 cs' q2
  have hrow':∃ r',rowAt ((st.anew n p cs').b n).cells p=some (.v hv0 :: r'):=by
   obtain ⟨r',e⟩:=rowAt_self p q2 c1
   exact ⟨r',by simpa [St.anew] using e⟩
  obtain ⟨r',hrow'⟩:=hrow'
  have hvs:RepVs C ⟨relab (.box n,p) (.held hs.length,[]) G.L,G.Zn,G.blk,G.vals⟩ w (st.anew n p cs').b vs us:=by
   refine RepVs.of_get hv.2.length fun i v' u' hi hu=>?_
   obtain ⟨u2,hu2,hr⟩:=hv.2.get i v' hi
   rw[hu2] at hu
   cases hu
   have hmem:=List.mem_of_getElem? hi
   have hk:=slot_set (w':=w) (L':=relab (.box n,p) (.held hs.length,[]) G.L) (vals':=G.vals) s q2 (fun b q m hb hn=>⟨by
    refine relab_other hb ?_ (not_under_root (by simp))
    unfold Lab.under
    rw[if_neg]
    rintro ⟨h1,h2⟩
    exact hn ⟨by simpa using h1,h2⟩,fun cs ty hh=>⟨cs,hh,rfl⟩⟩) (fun _ _=>rfl) v' hr
   have hkill:killV n p v'=v':=by
    have key:∀ (vs:List LV) (st:St),CanLift st vs→∀ v∈vs,(∃ y,v=.t y)∨∃ m q hi,v=.ref m q 0 hi:=by
     intro vs
     induction vs with
     |nil=>intro st _ v hv;simp at hv
     |cons z zs ih=>
      intro st h v hv
      cases z with
      |t y=>
       rcases List.mem_cons.1 hv with rfl | hv
       ·exact .inl ⟨y,rfl⟩
       ·exact ih st h.2 v hv
      |ref m q lo hi=>
       cases lo with
       |zero=>
        obtain ⟨es,r,h1,h2,h3,h4⟩:=h
        rcases List.mem_cons.1 hv with rfl | hv
        ·exact .inr ⟨m,q,hi,rfl⟩
        ·obtain ⟨cs,hcs⟩:=h3 (.v (.int .i64 0))
         exact ih _ (h4 _ cs hcs).2 v hv
       |succ lo=>exact h.elim
      |_=>exact h.elim
    rcases key _ _ c6 v' hmem with ⟨y,rfl⟩ | ⟨m,q,hi,rfl⟩
    ·rw[killV]
    ·rw[killV,if_neg]
     rintro ⟨rfl,e2⟩
     obtain ⟨es2,r2,e3⟩:=c5 _ _ _ _ hmem
     exact not_thru hrow' e3 (by simpa [List.isPrefixOf_iff_prefix] using e2)
   rw[hkill] at hk
   exact hk
  obtain ⟨G1,xs,sp,st1,h1,h2,h3,h4,h5,h6⟩:=lift_step vs q3 hvs c6
  refine ⟨G1,.sl .own es :: xs,some (n,p,hv0) :: sp,st1,.own c1 q2 h1,by simpa using h2,h3,by simp [h4],by simp [h5],fun k n' p' hv' u' hk hu=>?_⟩
  cases k with
  |zero=>
   simp at hk hu
   obtain ⟨rfl,rfl,rfl⟩:=hk
   subst hu
   exact q1
  |succ k=>exact h6 k n' p' hv' u' (by simpa using hk) (by simpa using hu)
 |.ref n p (lo+1) hi :: vs,G,st,hs,u :: us,s,hv,hc=>hc.elim
 |.addr _ _ :: vs,G,st,hs,u :: us,s,hv,hc=>hc.elim
 |.raddr _ :: vs,G,st,hs,u :: us,s,hv,hc=>hc.elim
 |.agg _ :: vs,G,st,hs,u :: us,s,hv,hc=>hc.elim
 |.tup _ :: vs,G,st,hs,u :: us,s,hv,hc=>hc.elim
 |.fn _ _ :: vs,G,st,hs,u :: us,s,hv,hc=>hc.elim
 |.dead :: vs,G,st,hs,u :: us,s,hv,hc=>hc.elim
theorem Sim.boxAll {us:List Value} {xs:List T} (s:Sim C G st (xs.zip us) a w) (hl:xs.length=us.length) (m:Nm) (hm:m.2≠1) :
  ∃ G',Sim C G' ⟨fun u=>killV m [] (st.s u),fun k=>if k=m then ⟨false,xs⟩ else st.b k⟩ [] a w∧G'.Zn=G.Zn∧G'.vals m=us:=by
 have hcell:∀ i y,xs[i]?=some y→∃ u,us[i]?=some u∧RepC (C.Z G) w (boxLab m (rowG xs.length fun j=>[j]) none G.L) (.box m,[i]) y u:=by
  intro i y hy
  have hlt:i<us.length:=by
   have:=(List.getElem?_eq_some_iff.1 hy).1
   omega
  refine ⟨us[i],by simp,?_⟩
  have hij:=(List.getElem?_eq_some_iff.1 hy).1
  exact held_moved s (w':=w) (D:=m) (g:=rowG xs.length fun j=>[j]) (nb:=none) (j:=i) (x:=y) (u:=us[i]) (pl:=[i])
   (by rw[List.getElem?_zip_eq_some];exact ⟨hy,by simp⟩) (fun r=>if_pos hij)
   (fun B q0 r e e2=>by cases e) (fun b _ hb=>rfl) (fun B q0 e e2=>by cases e)
 obtain ⟨G',s',z',l',v1,v2⟩:=s.freshBox (w':=w) m hm ⟨false,xs⟩ us none (rowG xs.length fun j=>[j])
  (rowG_inj (k:=1) (fun _=>rfl) (fun j j' e=>by simpa using e)) (fun B q0 e j r e2=>by cases e)
  (fun B q e=>by cases e) (fun b _ hb=>rfl) (Nat.le_refl _) ⟨rfl,rfl,rfl⟩
  (RepL.of_get fun i y hy=>by
   obtain ⟨u,h1,h2⟩:=hcell i y hy
   refine ⟨u,h1,?_⟩
   rw[Nat.zero_add]
   exact h2) (by show us.length=xs.length;omega) (fun h=>by cases h)
 exact ⟨G',s',z',v2⟩
theorem Sim.lower1 (s:Sim C G st [] a w) {nb n:Nm} {k:Nat} {p:List Nat} {es:List (List T)} {r r2 cs hs':List T} {u hv:Value} (hne:n≠nb) (hk:rowAt (st.b nb).cells [k]=some (.sl .own es :: r)) (hu:(G.vals nb)[k]?=some u) (hsh:SameHdr hv u)
  (hrow:rowAt (st.b n).cells p=some (.v hv :: r2)) (hset:setAt (st.b n).cells p (.sl .own es)=some cs) (hsetk:setAt (st.b nb).cells [k] .hole=some hs') :
  ∃ G',Sim C G' ((st.anew nb [k] hs').anew n p cs) [] a w∧G'.vals=G.vals∧G'.Zn=G.Zn:=by
 have hrep:RepV C G w st.b (.ref nb [k] 0 es.length) u:=by
  have hb:=(s.box nb).1
  simp only[rowAt,Option.some.injEq] at hk
  obtain ⟨u',h1,h2⟩:=hb.get k _ (drop_head hk)
  rw[hu] at h1
  cases h1
  rw[Nat.zero_add] at h2
  have:=RepV_seen (st:=st) (n:=nb) (p:=[k]) (x:=.sl .own es) (u:=u) (row:=r) (by simp only[rowAt];rw[hk]) (by simpa [Lab.add] using h2)
  exact this
 have ht:=s.take hk hsetk (.inl rfl) hrep
 rw[List.take_of_length_le (Nat.le_refl _),List.nil_append] at ht
 have hp:=ht.putBack (n:=n) (p:=p) (x:=.sl .own es) (u:=u) (hv:=hv) (j:=0) (r:=r2) (cs':=cs) rfl (by simp only[if_neg hne];exact hrow) (by simp only[if_neg hne];exact hset) (fun L l h=>hsh.rep h)
 exact ⟨_,hp.drop,rfl,rfl⟩
theorem Sim.killS {hs:List (T×Value)} (s:Sim C G st hs a w) (n:Nm) (p:List Nat):Sim C G ⟨fun t=>killV n p (st.s t),st.b⟩ hs a w where
 inj:=s.inj
 lab:=s.lab
 zone:=s.zone
 fresh:=s.fresh
 zin:=s.zin
 old:=s.old
 size:=s.size
 rest:=s.rest
 box:=s.box
 held:=s.held
 slot:=fun t=>RepV.kill (⟨fun _ h=>h,fun _ _=>rfl⟩:Keeps C G G w w) n p (fun _ _ _ _ _ _ h=>h) (fun _ _ _ _ h=>h) _ (s.slot t)
 ino:=s.ino
 len:=s.len
 dfr:=s.dfr
theorem Sim.lowerH (s:Sim C G st [] a w) {nb n:Nm} {k:Nat} {p:List Nat} {r r2 cs hs':List T} {hv:Value} (hne:n≠nb) (hk:rowAt (st.b nb).cells [k]=some (.hole :: r))
  (hrow:rowAt (st.b n).cells p=some (.v hv :: r2)) (hset:setAt (st.b n).cells p .hole=some cs) (hsetk:setAt (st.b nb).cells [k] .hole=some hs') :
  ∃ G',Sim C G' ((st.anew nb [k] hs').anew n p cs) [] a w∧G'.vals=G.vals∧G'.Zn=G.Zn:=by
 have e1:hs'=(st.b nb).cells:=by
  simp only[setAt] at hsetk
  split at hsetk
  ·cases hsetk
   simp only[rowAt,Option.some.injEq] at hk
   exact set_same (drop_head hk)
  ·cases hsetk
 have e2:st.anew nb [k] hs'=⟨fun t=>killV nb [k] (st.s t),st.b⟩:=by
  simp only[St.anew]
  congr 1
  funext m
  by_cases h:m=nb
  ·subst h;rw[if_pos rfl,e1]
  ·rw[if_neg h]
 rw[e2]
 have s1:=s.killS nb [k]
 have hp:p≠[]:=rowAt_ne hrow
 obtain ⟨urow,blk,off,k1,k2,_,k4⟩:=s1.place hrow
 cases hur:urow with
 |nil=>rw[hur,RepL] at k2;exact k2.elim
 |cons hv1 us1=>
 have e0:=pathLab_last p (l:=(.box n,[])) hrow
 rw[hur] at k1 k4
 rw[hur,RepL,e0,RepC] at k2
 obtain ⟨⟨rfl,hone⟩,_⟩:=k2
 refine ⟨G,⟨s1.inj,s1.lab,s1.zone,s1.fresh,s1.zin,s1.old,s1.size,s1.rest,fun m=>?_,fun i y v h=>by simp at h,fun t=>?_,fun i=>?_,s1.len,s1.dfr⟩,rfl,rfl⟩
 ·obtain ⟨h1,h2,h3⟩:=s1.box m
  by_cases hm:m=n
  ·subst hm
   simp only[St.anew,if_true]
   exact ⟨RepL.hole (_row:=r2) (x:=.hole) h1 hset k1 (s1.atBlk m) k4 (fun b q hb hnp=>hb) (by rw[RepC];exact hone),by rw[h2,setAt_length p hset],h3⟩
  ·simp only[St.anew,hm,if_false]
   exact ⟨h1,h2,h3⟩
 ·exact slot_set s1 hset (fun b q m hb hn=>⟨hb,fun cs ty hh=>⟨cs,hh,rfl⟩⟩) (fun _ _=>rfl) _ (s1.slot t)
 ·obtain ⟨z1,z2,z3⟩:=s1.ino i
  refine ⟨z1,?_,z3⟩
  by_cases h:((i,1):Nm)=n
  ·simp only[St.anew,h,if_true];rw[← h];exact z2
  ·simp only[St.anew,h,if_false];exact z2
end
end TM
namespace TM
open Go
abbrev Spot:=Nm×List Nat
def setB (b:Nm→Box) (n:Nm) (p:List Nat) (x:T):Option (Nm→Box):=match setAt (b n).cells p x with
 |some cs=>some fun m=>if m=n then ⟨(b n).real,cs⟩ else b m
 |none=>none
def pinsB:(Nm→Box)→List (Option (Nm×List Nat×Value))→Option (Nm→Box)
 |b,[]=>some b
 |b,none :: sp=>pinsB b sp
 |b,some (n,p,hv) :: sp=>match setB b n p (.v hv) with
  |some b1=>pinsB b1 sp
  |none=>none
def putsB:(Nm→Box)→List T→List (Option (Nm×List Nat×Value))→Option (Nm→Box)
 |b,_,[]=>some b
 |b,os,none :: sp=>putsB b (os.drop 1) sp
 |b,os,some (n,p,_) :: sp=>match os with
  |x :: os=>match setB b n p x with
   |some b1=>putsB b1 os sp
   |none=>none
  |[]=>none
def Indep (n:Nm) (p:List Nat) (n':Nm) (p':List Nat):Prop:=n≠n'∨∃ c c',p=[c]∧p'=[c']∧c≠c'
def IndepAll (n:Nm) (p:List Nat) (sp:List (Option (Nm×List Nat×Value))):Prop:=∀ n' p' hv,some (n',p',hv)∈sp→Indep n p n' p'
def Pairs:List (Option (Nm×List Nat×Value))→Prop
 |[]=>True
 |none :: sp=>Pairs sp
 |some (n,p,_) :: sp=>IndepAll n p sp∧Pairs sp
theorem setAt_mk {cs:List T} {x:T} {c i:Nat} {rest:List Nat} {es:List (List T)} {e e':List T} (h:cs[c]?=some (.sl .own es)) (he:es[i]?=some e) (hr:setAt e rest x=some e'):setAt cs (c :: i :: rest) x=some (cs.set c (.sl .own (es.set i e'))):=by
 simp only[setAt,head_drop h,he,hr]
theorem setAt_again:∀ (p:List Nat) {cs c1 c2:List T} {y x:T},setAt cs p y=some c1→setAt cs p x=some c2→setAt c1 p x=some c2
 |[],_,_,_,_,_,h,_=>by simp [setAt] at h
 |[c],cs,c1,c2,y,x,h1,h2=>by
  simp only[setAt] at h1 h2 ⊢
  split at h1
  ·rename_i hc
   cases h1
   rw[if_pos hc] at h2
   cases h2
   rw[if_pos (by simpa using hc)]
   simp
  ·cases h1
 |c :: i :: rest,cs,c1,c2,y,x,h1,h2=>by
  obtain ⟨es,r,e,e1,k1,k2,k3,k4⟩:=setAt_some h1
  obtain ⟨es',r',e',e2,l1,l2,l3,l4⟩:=setAt_some h2
  rw[k1] at l1
  simp only[List.cons.injEq,T.sl.injEq,true_and] at l1
  obtain ⟨rfl,rfl⟩:=l1
  rw[k2] at l2
  cases l2
  have hc:=drop_head k1
  have hcl:=(List.getElem?_eq_some_iff.1 hc).1
  have hi:i<es.length:=(List.getElem?_eq_some_iff.1 k2).1
  subst k4
  subst l4
  rw[setAt_mk (es:=es.set i e1) (e:=e1) (e':=e2) (by simp [hcl]) (by simp [hi]) (setAt_again rest k3 l3)]
  simp
theorem setAt_ex:∀ (p:List Nat) {cs r:List T} {x:T} (y:T),rowAt cs p=some (x :: r)→∃ c,setAt cs p y=some c
 |[],_,_,_,_,h=>by simp [rowAt] at h
 |[c],cs,r,x,y,h=>by
  simp only[rowAt,Option.some.injEq] at h
  have:=(List.getElem?_eq_some_iff.1 (drop_head h)).1
  exact ⟨cs.set c y,by simp [setAt,this]⟩
 |c :: i :: rest,cs,r,x,y,h=>by
  obtain ⟨es,r',e,k1,k2,k3⟩:=rowAt_some h
  obtain ⟨e',he⟩:=setAt_ex rest y k3
  exact ⟨_,setAt_mk (drop_head k1) k2 he⟩
theorem setB_some {b b':Nm→Box} {n:Nm} {p:List Nat} {x:T} (h:setB b n p x=some b'):∃ cs,setAt (b n).cells p x=some cs∧b'=fun m=>if m=n then ⟨(b n).real,cs⟩ else b m:=by
 unfold setB at h
 split at h
 ·rename_i cs hc
  exact ⟨cs,hc,(Option.some.inj h).symm⟩
 ·cases h
theorem setB_mk {b:Nm→Box} {n:Nm} {p:List Nat} {x:T} {cs:List T} (h:setAt (b n).cells p x=some cs):setB b n p x=some fun m=>if m=n then ⟨(b n).real,cs⟩ else b m:=by
 unfold setB
 rw[h]
theorem setB_again {b b1 b2:Nm→Box} {n:Nm} {p:List Nat} {y x:T} (h1:setB b n p y=some b1) (h2:setB b n p x=some b2):setB b1 n p x=some b2:=by
 obtain ⟨c1,k1,rfl⟩:=setB_some h1
 obtain ⟨c2,k2,rfl⟩:=setB_some h2
 rw[setB_mk (b:=fun m=>if m=n then ⟨(b n).real,c1⟩ else b m) (by simp only[if_true];exact setAt_again p k1 k2)]
 congr 1
 funext m
 by_cases h:m=n<;>simp [h]
theorem setB_comm {b b1 b2:Nm→Box} {n n':Nm} {p p':List Nat} {y x:T} (hi:Indep n p n' p') (h1:setB b n p y=some b1) (h2:setB b n' p' x=some b2):∃ b3,setB b1 n' p' x=some b3∧setB b2 n p y=some b3:=by
 obtain ⟨c1,k1,rfl⟩:=setB_some h1
 obtain ⟨c2,k2,rfl⟩:=setB_some h2
 by_cases hn:n=n'
 ·subst hn
  rcases hi with h | ⟨c,c',rfl,rfl,hc⟩
  ·exact absurd rfl h
  ·simp only[setAt] at k1 k2
   split at k1
   ·rename_i q1
    split at k2
    ·rename_i q2
     cases k1
     cases k2
     refine ⟨_,setB_mk (cs:=((b n).cells.set c y).set c' x) (by simp [setAt,q2]),?_⟩
     rw[setB_mk (cs:=((b n).cells.set c' x).set c y) (by simp [setAt,q1])]
     congr 1
     funext m
     by_cases h:m=n
     ·simp only[h,if_true]
      rw[List.set_comm _ _ hc]
     ·simp [h]
    ·cases k2
   ·cases k1
 ·refine ⟨_,setB_mk (cs:=c2) (by simp only[if_neg (Ne.symm hn)];exact k2),?_⟩
  rw[setB_mk (cs:=c1) (by simp only[if_neg hn];exact k1)]
  congr 1
  funext m
  by_cases h:m=n
  ·subst h;simp [hn]
  ·by_cases h':m=n'
   ·subst h';simp [h]
   ·simp [h,h']
theorem setB_row {b b1:Nm→Box} {n n':Nm} {p p':List Nat} {y z:T} {r:List T} (hi:Indep n p n' p') (h:setB b n' p' y=some b1) (hr:rowAt (b n).cells p=some (z :: r)):∃ r',rowAt (b1 n).cells p=some (z :: r'):=by
 obtain ⟨c1,k1,rfl⟩:=setB_some h
 by_cases hn:n=n'
 ·subst hn
  rcases hi with h | ⟨c,c',rfl,rfl,hc⟩
  ·exact absurd rfl h
  ·simp only[setAt] at k1
   split at k1
   ·cases k1
    simp only[rowAt,Option.some.injEq] at hr
    simp only[if_true,rowAt]
    refine ⟨_,congrArg some (head_drop ?_)⟩
    rw[List.getElem?_set,if_neg (Ne.symm hc)]
    exact drop_head hr
   ·cases k1
 ·exact ⟨r,by simp only[if_neg hn];exact hr⟩
theorem pins_comm {n:Nm} {p:List Nat} {x:T}:∀ {sp:List (Option (Nm×List Nat×Value))} {b bP b':Nm→Box},IndepAll n p sp→pinsB b sp=some bP→setB b n p x=some b'→∃ bP',pinsB b' sp=some bP'∧setB bP n p x=some bP'
 |[],b,bP,b',_,h,h'=>by simp only[pinsB,Option.some.injEq] at h;subst h;exact ⟨b',rfl,h'⟩
 |none :: sp,b,bP,b',hi,h,h'=>pins_comm (sp:=sp) (fun n' p' hv hm=>hi n' p' hv (by simp [hm])) h h'
 |some (n',p',hv) :: sp,b,bP,b',hi,h,h'=>by
  simp only[pinsB] at h
  cases h1:setB b n' p' (.v hv) with
  |none=>rw[h1] at h;cases h
  |some b1=>
   rw[h1] at h
   obtain ⟨b3,k1,k2⟩:=setB_comm (hi n' p' hv (by simp)) h' h1
   obtain ⟨bP',k3,k4⟩:=pins_comm (sp:=sp) (fun n' p' hv hm=>hi n' p' hv (by simp [hm])) h k2
   exact ⟨bP',by simp only[pinsB,k1];exact k3,k4⟩
theorem pins_other {m:Nm}:∀ {sp:List (Option (Nm×List Nat×Value))} {b bP:Nm→Box},¬ (∃ p hv,some (m,p,hv)∈sp)→pinsB b sp=some bP→bP m=b m
 |[],b,bP,_,h=>by simp only[pinsB,Option.some.injEq] at h;subst h;rfl
 |none :: sp,b,bP,hn,h=>pins_other (sp:=sp) (fun ⟨p,hv,hm⟩=>hn ⟨p,hv,by simp [hm]⟩) h
 |some (n',p',hv') :: sp,b,bP,hn,h=>by
  simp only[pinsB] at h
  cases h1:setB b n' p' (.v hv') with
  |none=>rw[h1] at h;cases h
  |some b1=>
   rw[h1] at h
   rw[pins_other (sp:=sp) (fun ⟨p,hv,hm⟩=>hn ⟨p,hv,by simp [hm]⟩) h]
   obtain ⟨c,_,rfl⟩:=setB_some h1
   have:m≠n':=fun e=>hn ⟨p',hv',by simp [e]⟩
   simp [this]
theorem kill_absorb (nb:Nm) (p:List Nat) (v:LV):killV nb [] (killV nb p v)=killV nb [] v:=by
 refine ((forgets_kill nb []).comp (forgets_kill nb p)).ext (forgets_kill nb []) (fun m q lo hi=>?_) (fun m q=>?_) v
 ·by_cases h:m=nb
  ·subst h
   rcases (forgets_kill m p).ref m q lo hi with e | e<;>rw[e]<;>simp [killV]
  ·rw[killV,if_neg (fun e=>h e.1)]
 ·by_cases h:m=nb∧p.isPrefixOf q∧p.length<q.length
  ·have h1:killV nb p (.addr m q)=.dead:=by rw[killV,if_pos h]
   have h2:killV nb [] (.addr m q)=.dead:=by rw[killV,if_pos ⟨h.1,by simp,Nat.lt_of_le_of_lt (Nat.zero_le _) h.2.2⟩]
   rw[h1,h2,killV]
  ·have h1:killV nb p (.addr m q)=.addr m q:=by rw[killV,if_neg h]
   rw[h1]
theorem pins_row {n:Nm} {p:List Nat} {z:T}:∀ {sp:List (Option (Nm×List Nat×Value))} {b bP:Nm→Box} {r:List T},IndepAll n p sp→pinsB b sp=some bP→rowAt (b n).cells p=some (z :: r)→∃ r',rowAt (bP n).cells p=some (z :: r')
 |[],b,bP,r,_,h,hr=>by simp only[pinsB,Option.some.injEq] at h;subst h;exact ⟨r,hr⟩
 |none :: sp,b,bP,r,hi,h,hr=>pins_row (sp:=sp) (fun n' p' hv hm=>hi n' p' hv (by simp [hm])) h hr
 |some (n',p',hv) :: sp,b,bP,r,hi,h,hr=>by
  simp only[pinsB] at h
  cases h1:setB b n' p' (.v hv) with
  |none=>rw[h1] at h;cases h
  |some b1=>
   rw[h1] at h
   obtain ⟨r',k⟩:=setB_row (hi n' p' hv (by simp)) h1 hr
   exact pins_row (sp:=sp) (fun n' p' hv hm=>hi n' p' hv (by simp [hm])) h k
theorem Lift.boxes {vs:List LV} {xs:List T} {sp:List (Option (Nm×List Nat×Value))} {st st1:St} (h:Lift st vs xs sp st1):pinsB st.b sp=some st1.b:=by
 induction h with
 |nil st=>rfl
 |plain h ih=>exact ih
 |own hr hs h ih=>simp only[pinsB,setB_mk hs];exact ih
theorem rowAt_setAt_self {p:List Nat} {cs cs' r:List T} {x y:T} (h:setAt cs p x=some cs') (hr:rowAt cs p=some (y :: r)):∃ r',rowAt cs' p=some (x :: r'):=rowAt_self p h hr
inductive Lower (nb:Nm):Nat→List T→List (Option (Nm×List Nat×Value))→St→St→Prop where
 |nil (k:Nat) (os:List T) (st:St):Lower nb k os [] st st
 |skip {k:Nat} {x:T} {os sp st st'} (h:Lower nb (k+1) os sp st st'):Lower nb k (x :: os) (none :: sp) st st'
 |put {k:Nat} {n:Nm} {p:List Nat} {hv:Value} {x:T} {r cs hs os sp st st'} (hx:(∃ es,x=.sl .own es)∨x=.hole) (hne:n≠nb) (hr:rowAt (st.b n).cells p=some (.v hv :: r)) (hs1:setAt (st.b n).cells p x=some cs) (hk:setAt (st.b nb).cells [k] .hole=some hs)
   (h:Lower nb (k+1) os sp ((st.anew nb [k] hs).anew n p cs) st'):Lower nb k (x :: os) (some (n,p,hv) :: sp) st st'
section
variable {C:Ctx} {a:Act} {w:World}
theorem Lower.sim {nb:Nm} {k:Nat} {os:List T} {sp:List (Option (Nm×List Nat×Value))} {st st':St} (h:Lower nb k os sp st st'):∀ {G:Gh},Sim C G st [] a w→(st.b nb).cells.drop k=os →
  (∀ (j:Nat) n p hv,sp[j]?=some (some (n,p,hv))→∃ u,(G.vals nb)[k+j]?=some u∧SameHdr hv u)→∃ G',Sim C G' st' [] a w∧G'.vals=G.vals:=by
 induction h with
 |nil k os st=>intro G s _ _;exact ⟨G,s,rfl⟩
 |skip h ih=>
  intro G s hc hu
  refine ih s (by rw[← List.drop_drop,hc];rfl) fun j n p hv hj=>?_
  obtain ⟨u,h1,h2⟩:=hu (j+1) n p hv (by simpa using hj)
  exact ⟨u,by rw[← h1];congr 1;omega,h2⟩
 |@put k n p hv x r cs hs os sp st st' hx hne hr hs1 hk h ih=>
  intro G s hc hu
  obtain ⟨u,h1,h2⟩:=hu 0 n p hv rfl
  rw[Nat.add_zero] at h1
  obtain ⟨G',s',e1,_⟩:∃ G',Sim C G' ((st.anew nb [k] hs).anew n p cs) [] a w∧G'.vals=G.vals∧G'.Zn=G.Zn:=by
   rcases hx with ⟨es,rfl⟩ | rfl
   ·exact s.lower1 hne (by simp only[rowAt];rw[hc]) h1 h2 hr hs1 hk
   ·exact s.lowerH hne (by simp only[rowAt];rw[hc]) hr hs1 hk
  rw[← e1]
  refine ih s' ?_ fun j n p hv hj=>?_
  ·simp only[St.anew,if_neg (Ne.symm hne),if_true]
   simp only[setAt] at hk
   split at hk
   ·cases hk
    rw[List.drop_set_of_lt (by omega),← List.drop_drop,hc]
    rfl
   ·cases hk
  ·obtain ⟨u,h3,h4⟩:=hu (j+1) n p hv (by simpa using hj)
   rw[e1]
   exact ⟨u,by rw[← h3];congr 1;omega,h4⟩
def spotN (m:Nm) (sp:List (Option (Nm×List Nat×Value))):Prop:=∃ p hv,some (m,p,hv)∈sp
def killSp:List (Option (Nm×List Nat×Value))→LV→LV
 |[],v=>v
 |none :: sp,v=>killSp sp v
 |some (n,p,_) :: sp,v=>killSp sp (killV n p v)
theorem lower_ex {nb:Nm}:∀ (sp:List (Option (Nm×List Nat×Value))) {k:Nat} {os:List T} {b bP bF:Nm→Box} {stX:St},Pairs sp→pinsB b sp=some bP→putsB b os sp=some bF→(∀ m,spotN m sp→m≠nb∧stX.b m=bP m) →
  (∀ (j:Nat) n p hv,sp[j]?=some (some (n,p,hv))→(∃ es r,rowAt (b n).cells p=some (.sl .own es :: r))∧∃ x,os[j]?=some x∧((∃ es,x=.sl .own es)∨x=.hole))→(stX.b nb).cells.drop k=os→sp.length=os.length →
  ∃ st',Lower nb k os sp stX st'∧(∀ m,spotN m sp→st'.b m=bF m)∧(∀ m,¬ spotN m sp→m≠nb→st'.b m=stX.b m)∧(∀ m,¬ spotN m sp→bF m=b m)∧((st'.b nb).real=(stX.b nb).real) ∧
    ∀ t,killV nb [] (st'.s t)=killSp sp (killV nb [] (stX.s t))
 |[],k,os,b,bP,bF,stX,_,h1,h2,_,_,_,_=>by
  simp only[putsB,Option.some.injEq] at h2
  subst h2
  exact ⟨stX,.nil k os stX,fun m ⟨p,hv,hm⟩=>by simp at hm,fun _ _ _=>rfl,fun _ _=>rfl,rfl,fun _=>rfl⟩
 |none :: sp,k,os,b,bP,bF,stX,hp,h1,h2,hm,ho,hc,hl=>by
  cases os with
  |nil=>simp at hl
  |cons x os=>
   simp only[putsB,List.drop_one,List.tail_cons] at h2
   have hs:∀ m,spotN m (none :: sp)↔spotN m sp:=fun m=>⟨fun ⟨p,hv,h⟩=>⟨p,hv,by simpa using h⟩,fun ⟨p,hv,h⟩=>⟨p,hv,by simp [h]⟩⟩
   obtain ⟨st',k1,k2,k3,k4,k5,k6⟩:=lower_ex sp (k:=k+1) (os:=os) (stX:=stX) hp h1 h2 (fun m h=>hm m ((hs m).2 h)) (fun j n p hv hj=>by
    have:=ho (j+1) n p hv (by simpa using hj)
    simpa using this) (by rw[← List.drop_drop,hc];rfl) (by simpa using hl)
   exact ⟨st',.skip k1,fun m h=>k2 m ((hs m).1 h),fun m h=>k3 m (fun h'=>h ((hs m).2 h')),fun m h=>k4 m (fun h'=>h ((hs m).2 h')),k5,k6⟩
 |some (n,p,hv) :: sp,k,os,b,bP,bF,stX,hp,h1,h2,hm,ho,hc,hl=>by
  obtain ⟨⟨es0,r0,q1⟩,x0,q2,hx0⟩:=ho 0 n p hv rfl
  cases os with
  |nil=>simp at hl
  |cons x os=>
   simp only[List.getElem?_cons_zero,Option.some.injEq] at q2
   subst q2
   simp only[putsB] at h2
   simp only[pinsB] at h1
   cases hb1:setB b n p (.v hv) with
   |none=>rw[hb1] at h1;cases h1
   |some b1=>
    rw[hb1] at h1
    cases hb2:setB b n p x with
    |none=>rw[hb2] at h2;cases h2
    |some b2=>
     rw[hb2] at h2
     simp only at h1 h2
     obtain ⟨bP2,g1,g2⟩:=pins_comm hp.1 h1 (setB_again hb1 hb2)
     have hself:∃ r,rowAt (b1 n).cells p=some (.v hv :: r):=by
      obtain ⟨c1,k1,rfl⟩:=setB_some hb1
      obtain ⟨r',e⟩:=rowAt_self p k1 q1
      exact ⟨r',by simpa using e⟩
     obtain ⟨r1,hself⟩:=hself
     obtain ⟨r2,hrow⟩:=pins_row hp.1 h1 hself
     obtain ⟨hne,hX⟩:=hm n ⟨p,hv,by simp⟩
     obtain ⟨cs,hcs,eP⟩:=setB_some g2
     have hkl:k<(stX.b nb).cells.length:=(List.getElem?_eq_some_iff.1 (drop_head hc)).1
     have hk:setAt (stX.b nb).cells [k] .hole=some ((stX.b nb).cells.set k .hole):=by simp [setAt,hkl]
     have hX2:((stX.anew nb [k] ((stX.b nb).cells.set k .hole)).anew n p cs).b=fun m=>if m=n then ⟨(stX.b n).real,cs⟩ else if m=nb then ⟨(stX.b nb).real,(stX.b nb).cells.set k .hole⟩ else stX.b m:=by
      funext m
      simp only[St.anew]
      by_cases h:m=n
      ·simp only[h,if_true,if_neg hne]
      ·simp only[if_neg h]
     obtain ⟨st',k1,k2,k3,k4,k5,k6⟩:=lower_ex sp (k:=k+1) (os:=os) (b:=b2) (bP:=bP2) (bF:=bF) (stX:=(stX.anew nb [k] ((stX.b nb).cells.set k .hole)).anew n p cs) hp.2 g1 h2 (fun m hsp=>by
      obtain ⟨p',hv',hmem⟩:=hsp
      obtain ⟨m1,m2⟩:=hm m ⟨p',hv',by simp [hmem]⟩
      refine ⟨m1,?_⟩
      rw[hX2,eP]
      simp only[if_neg m1]
      by_cases h:m=n
      ·subst h;simp only[if_true];rw[hX]
      ·simp only[if_neg h];exact m2) (fun j n' p' hv' hj=>by
      have h3:=ho (j+1) n' p' hv' (by simpa using hj)
      obtain ⟨⟨es',r',h4⟩,h5⟩:=h3
      have hind:=hp.1 n' p' hv' (List.mem_of_getElem? hj)
      have hind':Indep n' p' n p:=hind.elim (fun h=>.inl (Ne.symm h)) (fun ⟨c,c',e1,e2,e3⟩=>.inr ⟨c',c,e2,e1,Ne.symm e3⟩)
      obtain ⟨r'',h6⟩:=setB_row hind' hb2 h4
      exact ⟨⟨es',r'',h6⟩,by simpa using h5⟩) (by
      rw[hX2]
      simp only[if_neg (Ne.symm hne),if_true]
      rw[List.drop_set_of_lt (by omega),← List.drop_drop,hc]
      rfl) (by simpa using hl)
     refine ⟨st',.put hx0 hne (by rw[hX];exact hrow) (by rw[hX];exact hcs) hk k1,fun m hsp=>?_,fun m hsp hmn=>?_,fun m hsp=>?_,?_,fun t=>?_⟩
     ·by_cases h:spotN m sp
      ·exact k2 m h
      ·have hmn:m=n:=by
        obtain ⟨p',hv',hmem⟩:=hsp
        rcases List.mem_cons.1 hmem with e | e
        ·simp only[Option.some.injEq,Prod.mk.injEq] at e;exact e.1
        ·exact absurd ⟨p',hv',e⟩ h
       subst hmn
       rw[k3 m h hne,k4 m h,hX2]
       simp only[if_true]
       obtain ⟨c2,j1,j2⟩:=setB_some hb2
       rw[j2]
       simp only[if_true]
       have hP:=pins_other h h1
       have hag:=setB_again hb1 hb2
       obtain ⟨c3,j3,j4⟩:=setB_some hag
       rw[hP,j3] at hcs
       cases hcs
       have hbb:(b1 m).real=(b m).real:=by
        obtain ⟨c4,_,rfl⟩:=setB_some hb1
        simp
       have e2:=congrFun (j2.symm.trans j4) m
       simp only[if_true] at e2
       rw[e2,hX,hP]
     ·rw[k3 m (fun ⟨p',hv',h⟩=>hsp ⟨p',hv',by simp [h]⟩) hmn,hX2]
      have hn:m≠n:=fun e=>hsp ⟨p,hv,by simp [e]⟩
      simp only[if_neg hn,if_neg hmn]
     ·rw[k4 m (fun ⟨p',hv',h⟩=>hsp ⟨p',hv',by simp [h]⟩)]
      obtain ⟨c2,j1,j2⟩:=setB_some hb2
      have hn:m≠n:=fun e=>hsp ⟨p,hv,by simp [e]⟩
      rw[j2]
      simp only[if_neg hn]
     ·rw[k5,hX2]
      simp only[if_neg (Ne.symm hne),if_true]
     ·rw[k6]
      simp only[killSp,St.anew]
      rw[killV_comm nb n [] p,kill_absorb]
end
end TM
