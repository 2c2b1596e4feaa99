/- Plain lemmas on these equations. No condition. -/
import Derived.Test.YtkjkeabihljjhabGreatEFnExactSampleArgs
import Derived.IntWalk
namespace Go.Proofs.YtkjkeabihljjhabGreat
namespace TM
open Go
section
variable {ρ α β:Type}
theorem w64_id {n:Int} (h : -9223372036854775808≤n) (h':n≤9223372036854775807):w64 n=n:=IntWalk.i64_in n ⟨h,h'⟩
theorem w64_nat {n:Nat} (h:n<9223372036854775807):w64 ((n:Int)+1)=((n+1:Nat):Int):=by rw[w64_id (by omega) (by omega)];rfl
theorem at_of {l:List α} {n:Nat} {x:α} (h:l[n]?=some x) (k:Nat→α→Option ρ):at_ l (n:Int) k=k n x:=by unfold at_;simp [h]
theorem atN_of {l:List α} {n:Nat} {x:α} (h:l[n]?=some x) (k:α→Option ρ):atN l n k=k x:=by unfold atN;simp [h]
theorem app_of {l m:List α} (h:l.length+m.length≤1073741824) (k:List α→Option ρ):app_ l m k=k (l++m):=if_pos h
theorem rep_of {n:Nat} {e:α} (h:n≤1073741824) (k:List α→Option ρ):rep_ (n:Int) e k=k (List.replicate n e):=by unfold rep_;rw[if_pos (by omega)];rfl
theorem loopD (l:List α) (M:Nat→List α→Prop) (h0:M l.length []) (h1:∀ k x suf,l.drop k=x :: suf→l[k]?=some x→k<l.length→M (k+1) suf→M k (x :: suf)):M 0 l:=by
 have key:∀ n k,k+n=l.length→M k (l.drop k):=by
  intro n
  induction n with
  |zero=>
   intro k hk
   have:k=l.length:=by omega
   subst this
   rw[List.drop_length]
   exact h0
  |succ n ih=>
   intro k hk
   have hlt:k<l.length:=by omega
   rw[List.drop_eq_getElem_cons hlt]
   exact h1 k _ _ (List.drop_eq_getElem_cons hlt) (List.getElem?_eq_getElem hlt) hlt (ih (k+1) (by omega))
 simpa using key l.length 0 (by omega)
theorem loopN (n:Nat) (M:Nat→Prop) (h0:M n) (h1:∀ k,k<n→M (k+1)→M k):M 0:=by
 have key:∀ m k,k+m=n→M k:=by
  intro m
  induction m with
  |zero=>intro k hk;exact (show k=n by omega) ▸ h0
  |succ m ih=>intro k hk;exact h1 k (by omega) (ih (k+1) (by omega))
 exact key n 0 (by omega)
theorem toLoop {F:List α→Int→List β→Option (List β)} {f:α→Option β} {g:α→β} (ok:α→Prop)
  (hF:∀ a i o,F a i o=cond (decide (i<(a.length:Int))) (at_ a i fun _ x=>(f x).bind fun y=>at_ o i fun j _=>atN o j fun _=>atN o j fun _=>F a (w64 (i+1)) (o.set j y)) (some o))
  (hf:∀ x,ok x→f x=some (g x)) {a:List α} (ha:∀ x∈a,ok x) {e:β} (hs:a.length≤1073741824):(rep_ (a.length:Int) e fun o=>F a 0 o)=some (a.map g):=by
 rw[rep_of hs]
 have:=loopD a (fun k s=>∀ o:List β,o.length=a.length→F a (k:Int) o=some (o.take k++s.map g)) (fun o ho=>by rw[hF];simp [← ho]) (fun k x suf hd hx hk ih o ho=>by
  have hb:k<o.length:=by omega
  rw[hF,at_of hx,hf _ (ha x (List.mem_of_getElem? hx))]
  simp only[Option.bind_some]
  rw[at_of (List.getElem?_eq_getElem hb),atN_of (List.getElem?_eq_getElem hb),atN_of (List.getElem?_eq_getElem hb),w64_nat (by omega),ih _ (by simp [ho])]
  have e1:(o.set k (g x)).take (k+1)=o.take k++[g x]:=by
   rw[List.take_add_one,List.take_set,List.set_eq_of_length_le (by simp;omega)]
   simp [hb]
  simp [hk,e1])
 simpa using this _ (by simp)
def left_ (l:Int) (n:Nat):Int:=if l<n then -1 else l-n
theorem left_neg {l:Int} {n:Nat} (_hl:0≤l):left_ l n<0↔l<n:=by unfold left_;split<;>omega
theorem left_add (l:Int) (m n:Nat) (_hl:0≤l):(if left_ l m<0 then -1 else left_ (left_ l m) n)=left_ l (m+n):=by
 unfold left_
 repeat' split
 all_goals omega
theorem left_le {l:Int} {n:Nat}:left_ l n≤max l (-1):=by unfold left_;split<;>omega
def sums:List Nat→Nat
 |[]=>0
 |x :: l=>x+sums l
theorem szLoop {F:List α→Int→Int→Option Int} {f:α→Int→Option Int} {sz:α→Nat} (ok:α→Prop)
  (hF:∀ a l i,F a l i=cond (decide (i<(a.length:Int))) (at_ a i fun _ x=>(f x l).bind fun r=>cond (decide (r<0)) (some (-1)) (F a r (w64 (i+1)))) (some l))
  (hf:∀ x l,ok x→0≤l→l≤1048576→f x l=some (left_ l (sz x))) {a:List α} (ha:∀ x∈a,ok x) (hs:a.length<9223372036854775808) {l:Int} (h0:0≤l) (h1:l≤1048576):F a l 0=some (left_ l (sums (a.map sz))):=by
 have:=loopD a (fun k s=>∀ l:Int,0≤l→l≤1048576→F a l (k:Int)=some (left_ l (sums (s.map sz)))) (fun l h0 h1=>by rw[hF];simp [sums,left_];omega) (fun k x suf hd hx hk ih l h0 h1=>by
  rw[hF,at_of hx,hf _ _ (ha x (List.mem_of_getElem? hx)) h0 h1]
  simp only[Option.bind_some,Int.ofNat_lt,hk,decide_true,cond_true,w64_nat (show k<9223372036854775807 by omega)]
  by_cases h:left_ l (sz x)<0
  ·have h2:=(left_neg h0).1 h
   simp only[h,decide_true,cond_true,List.map_cons,sums]
   unfold left_
   rw[if_pos (by omega)]
  ·have h2:¬ l<sz x:=fun h3=>h ((left_neg h0).2 h3)
   simp only[h,decide_false,cond_false,List.map_cons,sums]
   rw[ih _ (by omega) (by have:=@left_le l (sz x);omega),← left_add l _ _ h0,if_neg h])
 simpa using this l h0 h1
end
end TM
namespace TM
open Go
class Dat (α:Type) where
 size:α→Nat
 okd:α→Prop
 inr:α→Prop
 ok_of:∀ x,size x≤9223372036854775807→okd x
open Dat (size okd inr)
instance :Dat Int:=⟨fun _=>0,fun _=>True,fun n=>-9223372036854775808≤n∧n≤9223372036854775807,fun _ _=>trivial⟩
instance :Dat Bool:=⟨fun _=>0,fun _=>True,fun _=>True,fun _ _=>trivial⟩
instance :Dat UInt8:=⟨fun _=>0,fun _=>True,fun _=>True,fun _ _=>trivial⟩
theorem sums_mem {l:List Nat} {x:Nat} (h:x∈l):x≤sums l:=by
 induction l with
 |nil=>simp at h
 |cons y l ih=>
  simp only[sums]
  rcases List.mem_cons.1 h with rfl | h
  ·omega
  ·have:=ih h;omega
instance {α:Type} [Dat α]:Dat (List α):=⟨fun l=>l.length+sums (l.map size),fun l=>l.length≤9223372036854775807∧∀ x∈l,okd x,fun l=>∀ x∈l,inr x,
 fun l h=>⟨by omega,fun x hx=>Dat.ok_of x (by have:=sums_mem (List.mem_map_of_mem (f:=size) hx);omega)⟩⟩
instance {α β:Type} [Dat α] [Dat β]:Dat (α×β):=⟨fun x=>size x.1+size x.2,fun x=>okd x.1∧okd x.2,fun x=>inr x.1∧inr x.2,fun x h=>⟨Dat.ok_of _ (by omega),Dat.ok_of _ (by omega)⟩⟩
section
variable {α β γ ρ:Type}
theorem size_int (n:Int):size n=0:=rfl
theorem size_bool (n:Bool):size n=0:=rfl
theorem size_list [Dat α] (l:List α):size l=l.length+sums (l.map size):=rfl
theorem size_prod [Dat α] [Dat β] (a:α) (b:β):size (a,b)=size a+size b:=rfl
theorem sums_zero {l:List α} {f:α→Nat} (h:∀ x∈l,f x=0):sums (l.map f)=0:=by
 induction l with
 |nil=>rfl
 |cons x l ih=>simp only[List.map_cons,sums,h x (by simp),ih fun y hy=>h y (by simp [hy])]
theorem size_str (l:Ty1):size l=l.length:=by rw[size_list,sums_zero (f:=size) fun _ _=>rfl];omega
theorem size_ints (l:Ty11):size l=l.length:=by rw[size_list,sums_zero (f:=size) fun _ _=>rfl];omega
theorem size_mem [Dat α] {l:List α} {x:α} (h:x∈l):size x+l.length≤size l:=by have:=sums_mem (List.mem_map_of_mem (f:=size) h);rw[size_list];omega
theorem len_size [Dat α] (l:List α):l.length≤size l:=by rw[size_list];omega
theorem okd_len [Dat α] {l:List α} (h:okd l):l.length≤9223372036854775807:=h.1
theorem okd_of [Dat α] {x:α} (h:size x≤1048576):okd x:=Dat.ok_of x (by omega)
theorem szEnd {k:Int} (h:0≤k):some k=some (left_ k 0):=by unfold left_;rw[if_neg (by omega)];simp
theorem szStep {k:Int} {m n:Nat} {e:Option Int} {K:Int→Option Int} (h0:0≤k) (h1:k≤1048576) (he:e=some (left_ k m)) (hK:∀ j,0≤j→j≤1048576→K j=some (left_ j n)) :
  (e.bind fun x=>cond (decide (x<0)) (some (-1)) (K x))=some (left_ k (m+n)):=by
 subst he
 rw[Option.bind_some,← left_add k m n h0]
 by_cases h:left_ k m<0
 ·simp [h]
 ·simp only[h,decide_false,cond_false,if_false]
  exact hK _ (by omega) (by have:=@left_le k m;omega)
theorem szLen {k:Int} {m n:Nat} {K:Int→Option Int} (h0:0≤k) (h1:k≤1048576) (hm:m≤9223372036854775807) (hK:∀ j,0≤j→j≤1048576→K j=some (left_ j n)) :
  cond (decide (w64 (k-(m:Int))<0)) (some (-1)) (K (w64 (k-(m:Int))))=some (left_ k (m+n)):=by
 have hw:w64 (k-(m:Int))=k-m:=w64_id (by omega) (by omega)
 rw[hw]
 by_cases h:k-(m:Int)<0
 ·have:left_ k (m+n)=-1:=by unfold left_;rw[if_pos (by omega)]
  simp [h,this]
 ·simp only[h,decide_false,cond_false]
  rw[hK _ (by omega) (by omega)]
  unfold left_
  congr 1
  split<;>split<;>omega
theorem left_eq {k:Int} {m n:Nat} (h:m=n):some (left_ k m)=some (left_ k n):=by rw[h]
theorem szList [Dat α] {F:List α→Int→Int→Option Int} {f:α→Int→Option Int}
  (hF:∀ a l i,F a l i=cond (decide (i<(a.length:Int))) (at_ a i fun _ x=>(f x l).bind fun r=>cond (decide (r<0)) (some (-1)) (F a r (w64 (i+1)))) (some l))
  (hf:∀ x l,okd x→0≤l→l≤1048576→f x l=some (left_ l (size x))) {a:List α} (ha:okd a) {k:Int} (h0:0≤k) (h1:k≤1048576) :
  cond (decide (w64 (k-(a.length:Int))<0)) (some (-1)) (F a (w64 (k-(a.length:Int))) 0)=some (left_ k (size a)):=
 szLen (K:=fun j=>F a j 0) h0 h1 ha.1 fun j h0 h1=>szLoop okd hF hf ha.2 (by have:=ha.1;omega) h0 h1
theorem at_N {l:List α} {i:Int} (k:Nat→α→α→Option ρ):(at_ l i fun j x=>atN l j (k j x))=at_ l i fun j x=>k j x x:=by
 unfold at_
 split
 ·next e h=>
  have:l[i.toNat]?=some e:=by split at h<;>simp_all
  exact atN_of this _
 ·rfl
theorem atN_N {l:List α} {i:Nat} (k:α→α→Option ρ):(atN l i fun x=>atN l i (k x))=atN l i fun x=>k x x:=by
 unfold atN
 cases l[i]?<;>rfl
theorem at_set {l:List α} {i:Int} {f:Nat→α→α} (k:Nat→α→α→Option ρ):(at_ l i fun j x=>atN (l.set j (f j x)) j (k j x))=at_ l i fun j x=>k j x (f j x):=by
 unfold at_
 split
 ·next e h=>
  have h2:l[i.toNat]?=some e:=by split at h<;>simp_all
  have h3:i.toNat<l.length:=by rcases Nat.lt_or_ge i.toNat l.length with h4 | h4;exact h4;simp [List.getElem?_eq_none h4] at h2
  exact atN_of (List.getElem?_set_self h3) _
 ·rfl
theorem toList [Dat α] {F:List α→Int→List α→Option (List α)} {f:α→Option α}
  (hF:∀ a i o,F a i o=cond (decide (i<(a.length:Int))) (at_ a i fun _ x=>(f x).bind fun y=>at_ o i fun j _=>F a (w64 (i+1)) (o.set j y)) (some o))
  (hf:∀ x,size x≤1048576→f x=some x) {a:List α} (ha:size a≤1048576) {e:α}:(rep_ (a.length:Int) e fun o=>F a 0 o)=some a:=by
 refine (toLoop (F:=F) (f:=f) (g:=id) (fun x=>size x≤1048576) (fun a i o=>?_) hf (fun x hx=>by have:=size_mem hx;omega) (by have:=len_size a;omega)).trans (by simp)
 rw[hF]
 congr 2
 funext _ x
 congr 1
 funext y
 unfold at_ atN
 cases h:(if 0≤i then o[i.toNat]? else none) with
 |none=>rfl
 |some e=>
  have:o[i.toNat]?=some e:=by split at h<;>simp_all
  simp [this]
theorem selfList [Dat α] {F:List α→List α→Int→Option Bool} {e:α→α→Option Bool}
  (hF:∀ a b i,F a b i=cond (decide (i<(a.length:Int))) (at_ a i fun _ x=>at_ b i fun _ y=>(e x y).bind fun r=>cond (!r) (some false) (F a b (w64 (i+1)))) (some true))
  (he:∀ x,okd x→e x x=some true) {a:List α} (ha:okd a):cond (!((a.length:Int)==(a.length:Int))) (some false) (F a a 0)=some true:=by
 have:=loopD a (fun k s=>F a a (k:Int)=some true) (by rw[hF];simp) (fun k x suf hd hx hk ih=>by
  rw[hF,at_of hx,at_of hx,he _ (ha.2 x (List.mem_of_getElem? hx)),w64_nat (by have:=ha.1;omega),ih]
  simp)
 simpa using this
theorem anyLoop {F:Int→Option Bool} {e:α→Option Bool} {p:α→Bool} {a:List α}
  (hF:∀ i,F i=cond (decide (i<(a.length:Int))) (at_ a i fun _ x=>(e x).bind fun r=>cond r (some true) (F (w64 (i+1)))) (some false))
  (he:∀ x∈a,e x=some (p x)) (hs:a.length≤9223372036854775807):F 0=some (a.any p):=by
 have:=loopD a (fun k s=>F (k:Int)=some (s.any p)) (by rw[hF];simp) (fun k x suf hd hx hk ih=>by
  rw[hF,at_of hx,he _ (List.mem_of_getElem? hx),w64_nat (by omega),ih]
  cases h1:p x<;>simp [hk,h1])
 simpa using this
theorem idxLoop {F:Int→Option Int} {e:α→Option Bool} {p:α→Bool} {a:List α}
  (hF:∀ i,F i=cond (decide (i<(a.length:Int))) (at_ a i fun _ x=>(e x).bind fun r=>cond r (some i) (F (w64 (i+1)))) (some (-1)))
  (he:∀ x∈a,e x=some (p x)) (hs:a.length≤9223372036854775807):((F 0).bind fun r=>some (decide (0≤r)))=some (a.any p):=by
 have:=loopD a (fun k s=>((F (k:Int)).bind fun r=>some (decide (0≤r)))=some (s.any p)) (by rw[hF];simp) (fun k x suf hd hx hk ih=>by
  rw[hF,at_of hx,he _ (List.mem_of_getElem? hx),w64_nat (by omega)]
  cases h1:p x
  ·simp only[hk,Int.ofNat_lt,decide_true,cond_true,Option.bind_some,cond_false,List.any_cons,h1,Bool.false_or]
   exact ih
  ·simp [hk,h1])
 simpa using this
theorem lawSz {k:Int} {m:Nat} {e:Option Int} {K:Int→Option Bool} (_h0:0≤k) (_h1:k≤1048576) (he:e=some (left_ k m)) (hK:(m:Int)≤k→K (k-m)=some true) :
  (e.bind fun x=>cond (decide (x<0)) (some true) (K x))=some true:=by
 subst he
 rw[Option.bind_some]
 by_cases h:k<m
 ·simp [left_,h]
 ·have:left_ k m=k-m:=by unfold left_;rw[if_neg h]
  rw[this]
  simp only[show ¬ (k-(m:Int)<0) by omega,decide_false,cond_false]
  exact hK (by omega)
theorem le_maxLen {n:Nat} (h:n≤maxLen):n≤9223372036854775807:=h
end
end TM
namespace X
open Go TM
open TM.Dat (size okd inr)
theorem laws_szIntS_ok {a0:Ty11} {a1:Int} (h:okd a0) (h0:0≤a1) (h1:a1≤1048576):laws_szIntS a0 a1=some (left_ a1 (size a0)):=by
 rw[laws_szIntS_eq]
 exact (szLen h0 h1 (okd_len h) fun _ h0 h1=>szEnd h0).trans (left_eq (by simp only[size_prod,size_str,size_ints,size_int,size_bool];omega))
theorem laws_toIntS_ok {a0:Ty11} (h:size a0≤1048576):laws_toIntS a0=some a0:=by
 rw[laws_toIntS_eq]
 exact toList (F:=laws_toIntS_l0) (f:=fun x=>some x) (fun a i o=>(laws_toIntS_l0_eq a i o).trans (by simp only[at_N,atN_N,at_set,List.set_set,Option.bind_some])) (fun _ _=>rfl) h
theorem laws_eqIntS_self {a0:Ty11} (h:okd a0):laws_eqIntS a0 a0=some true:=by
 rw[laws_eqIntS_eq]
 exact selfList (F:=laws_eqIntS_l0) (e:=fun x y=>some (x==y)) laws_eqIntS_l0_eq (fun x _=>by simp) h
theorem laws_eqValue_self {a0:Bool} {a1:Int} {a2:Ty11} (h:okd (a0,a1,a2)):laws_eqValue a0 a1 a2 a0 a1 a2=some true:=by
 simp only[laws_eqValue_eq,laws_eqIntS_self h.2.2,Option.bind_some,beq_self_eq_true,Bool.not_true,cond_false]
theorem laws_eqLin_self {a0:Int} {a1:Ty11} (h:okd (a0,a1)):laws_eqLin a0 a1 a0 a1=some true:=by
 simp only[laws_eqLin_eq,laws_eqIntS_self h.2,Option.bind_some,beq_self_eq_true,Bool.not_true,cond_false]
theorem laws_eqLinS_self {a0:Ty6} (h:okd a0):laws_eqLinS a0 a0=some true:=by
 rw[laws_eqLinS_eq]
 exact selfList (F:=laws_eqLinS_l0) laws_eqLinS_l0_eq (fun x h=>laws_eqLin_self h) h
theorem laws_szLin_ok {a0:Int} {a1:Ty11} {a2:Int} (h:okd (a0,a1)) (h0:0≤a2) (h1:a2≤1048576):laws_szLin a0 a1 a2=some (left_ a2 (size (a0,a1))):=by
 rw[laws_szLin_eq]
 exact (szStep h0 h1 (laws_szIntS_ok h.2 h0 h1) fun _ h0 h1=>szEnd h0).trans (left_eq (by simp only[size_prod,size_str,size_ints,size_int,size_bool];omega))
theorem laws_szLinS_ok {a0:Ty6} {a1:Int} (h:okd a0) (h0:0≤a1) (h1:a1≤1048576):laws_szLinS a0 a1=some (left_ a1 (size a0)):=by
 rw[laws_szLinS_eq]
 exact szList laws_szLinS_l0_eq (fun x l h h0 h1=>laws_szLin_ok h h0 h1) h h0 h1
theorem laws_toLin_ok {a0:Int} {a1:Ty11} (h:size (a0,a1)≤1048576):laws_toLin a0 a1=some (a0,a1):=by
 simp only[size_prod] at h
 rw[laws_toLin_eq,laws_toIntS_ok (by (try simp only[size_prod]);omega),Option.bind_some]
theorem laws_toLinS_ok {a0:Ty6} (h:size a0≤1048576):laws_toLinS a0=some a0:=by
 rw[laws_toLinS_eq]
 exact toList (F:=laws_toLinS_l0) (fun a i o=>(laws_toLinS_l0_eq a i o).trans (by simp only[at_N,atN_N,at_set,List.set_set,Option.bind_some])) (fun x h=>laws_toLin_ok h) h
theorem laws_eqValueS_self {a0:Ty4} (h:okd a0):laws_eqValueS a0 a0=some true:=by
 rw[laws_eqValueS_eq]
 exact selfList (F:=laws_eqValueS_l0) laws_eqValueS_l0_eq (fun x h=>laws_eqValue_self h) h
theorem laws_szStringS_ok {a0:Ty8} {a1:Int} (h:okd a0) (h0:0≤a1) (h1:a1≤1048576):laws_szStringS a0 a1=some (left_ a1 (size a0)):=by
 rw[laws_szStringS_eq]
 exact szList (F:=fun a l i=>laws_szStringS_l0 a l i) (fun a l i=>by
  refine (laws_szStringS_l0_eq a l i).trans ?_
  congr 2
  funext x y
  cases h:decide (w64 (l-(y.length:Int))<0)<;>simp [h]) (f:=fun x l=>cond (decide (w64 (l-(x.length:Int))<0)) (some (-1)) (some (w64 (l-(x.length:Int))))) (fun (x:Ty1) l h h0 h1=>(szLen h0 h1 (okd_len h) fun _ h0 _=>szEnd h0).trans (left_eq (by simp only[size_str];omega))) h h0 h1
theorem laws_szFunction_ok {a0:Ty1} {a1:Ty8} {a2:Bool} {a3:Ty6} {a4:Int} (h:okd (a0,a1,a2,a3)) (h0:0≤a4) (h1:a4≤1048576):laws_szFunction a0 a1 a2 a3 a4=some (left_ a4 (size (a0,a1,a2,a3))):=by
 rw[laws_szFunction_eq]
 exact (szLen h0 h1 (okd_len h.1) fun _ h0 h1=>szStep h0 h1 (laws_szStringS_ok h.2.1 h0 h1) fun _ h0 h1=>szStep h0 h1 (laws_szLinS_ok h.2.2.2 h0 h1) fun _ h0 h1=>szEnd h0).trans (left_eq (by simp only[size_prod,size_str,size_ints,size_int,size_bool];omega))
theorem laws_szFunctionS_ok {a0:Ty3} {a1:Int} (h:okd a0) (h0:0≤a1) (h1:a1≤1048576):laws_szFunctionS a0 a1=some (left_ a1 (size a0)):=by
 rw[laws_szFunctionS_eq]
 exact szList laws_szFunctionS_l0_eq (fun x l h h0 h1=>laws_szFunction_ok h h0 h1) h h0 h1
theorem laws_szPattern_ok {a0:Ty1} {a1:Bool} {a2:Ty1} {a3:Ty1} {a4:Int} (h:okd (a0,a1,a2,a3)) (h0:0≤a4) (h1:a4≤1048576):laws_szPattern a0 a1 a2 a3 a4=some (left_ a4 (size (a0,a1,a2,a3))):=by
 rw[laws_szPattern_eq]
 exact (szLen h0 h1 (okd_len h.1) fun _ h0 h1=>szLen h0 h1 (okd_len h.2.2.1) fun _ h0 h1=>szLen h0 h1 (okd_len h.2.2.2) fun _ h0 h1=>szEnd h0).trans (left_eq (by simp only[size_prod,size_str,size_ints,size_int,size_bool];omega))
theorem laws_szPatternS_ok {a0:Ty7} {a1:Int} (h:okd a0) (h0:0≤a1) (h1:a1≤1048576):laws_szPatternS a0 a1=some (left_ a1 (size a0)):=by
 rw[laws_szPatternS_eq]
 exact szList laws_szPatternS_l0_eq (fun x l h h0 h1=>laws_szPattern_ok h h0 h1) h h0 h1
theorem laws_szTerm_ok {a0:Int} {a1:Ty1} {a2:Int} (h:okd (a0,a1)) (h0:0≤a2) (h1:a2≤1048576):laws_szTerm a0 a1 a2=some (left_ a2 (size (a0,a1))):=by
 rw[laws_szTerm_eq]
 exact (szLen h0 h1 (okd_len h.2) fun _ h0 h1=>szEnd h0).trans (left_eq (by simp only[size_prod,size_str,size_ints,size_int,size_bool];omega))
theorem laws_szTermS_ok {a0:Ty10} {a1:Int} (h:okd a0) (h0:0≤a1) (h1:a1≤1048576):laws_szTermS a0 a1=some (left_ a1 (size a0)):=by
 rw[laws_szTermS_eq]
 exact szList laws_szTermS_l0_eq (fun x l h h0 h1=>laws_szTerm_ok h h0 h1) h h0 h1
theorem laws_szSum_ok {a0:Int} {a1:Ty10} {a2:Int} (h:okd (a0,a1)) (h0:0≤a2) (h1:a2≤1048576):laws_szSum a0 a1 a2=some (left_ a2 (size (a0,a1))):=by
 rw[laws_szSum_eq]
 exact (szStep h0 h1 (laws_szTermS_ok h.2 h0 h1) fun _ h0 h1=>szEnd h0).trans (left_eq (by simp only[size_prod,size_str,size_ints,size_int,size_bool];omega))
theorem laws_szSumS_ok {a0:Ty2} {a1:Int} (h:okd a0) (h0:0≤a1) (h1:a1≤1048576):laws_szSumS a0 a1=some (left_ a1 (size a0)):=by
 rw[laws_szSumS_eq]
 exact szList laws_szSumS_l0_eq (fun x l h h0 h1=>laws_szSum_ok h h0 h1) h h0 h1
theorem laws_szArg_ok {a0:Bool} {a1:Ty2} {a2:Ty1} {a3:Int} (h:okd (a0,a1,a2)) (h0:0≤a3) (h1:a3≤1048576):laws_szArg a0 a1 a2 a3=some (left_ a3 (size (a0,a1,a2))):=by
 rw[laws_szArg_eq]
 exact (szStep h0 h1 (laws_szSumS_ok h.2.1 h0 h1) fun _ h0 h1=>szLen h0 h1 (okd_len h.2.2) fun _ h0 h1=>szEnd h0).trans (left_eq (by simp only[size_prod,size_str,size_ints,size_int,size_bool];omega))
theorem laws_szArgS_ok {a0:Ty9} {a1:Int} (h:okd a0) (h0:0≤a1) (h1:a1≤1048576):laws_szArgS a0 a1=some (left_ a1 (size a0)):=by
 rw[laws_szArgS_eq]
 exact szList laws_szArgS_l0_eq (fun x l h h0 h1=>laws_szArg_ok h h0 h1) h h0 h1
theorem laws_szCall_ok {a0:Ty1} {a1:Ty1} {a2:Ty9} {a3:Int} (h:okd (a0,a1,a2)) (h0:0≤a3) (h1:a3≤1048576):laws_szCall a0 a1 a2 a3=some (left_ a3 (size (a0,a1,a2))):=by
 rw[laws_szCall_eq]
 exact (szLen h0 h1 (okd_len h.1) fun _ h0 h1=>szLen h0 h1 (okd_len h.2.1) fun _ h0 h1=>szStep h0 h1 (laws_szArgS_ok h.2.2 h0 h1) fun _ h0 h1=>szEnd h0).trans (left_eq (by simp only[size_prod,size_str,size_ints,size_int,size_bool];omega))
theorem laws_szCallS_ok {a0:Ty5} {a1:Int} (h:okd a0) (h0:0≤a1) (h1:a1≤1048576):laws_szCallS a0 a1=some (left_ a1 (size a0)):=by
 rw[laws_szCallS_eq]
 exact szList laws_szCallS_l0_eq (fun x l h h0 h1=>laws_szCall_ok h h0 h1) h h0 h1
theorem laws_szRule_ok {a0:Ty1} {a1:Ty7} {a2:Ty2} {a3:Ty5} {a4:Bool} {a5:Ty2} {a6:Ty1} {a7:Int} (h:okd (a0,a1,a2,a3,a4,a5,a6)) (h0:0≤a7) (h1:a7≤1048576):laws_szRule a0 a1 a2 a3 a4 a5 a6 a7=some (left_ a7 (size (a0,a1,a2,a3,a4,a5,a6))):=by
 rw[laws_szRule_eq]
 exact (szLen h0 h1 (okd_len h.1) fun _ h0 h1=>szStep h0 h1 (laws_szPatternS_ok h.2.1 h0 h1) fun _ h0 h1=>szStep h0 h1 (laws_szSumS_ok h.2.2.1 h0 h1) fun _ h0 h1=>szStep h0 h1 (laws_szCallS_ok h.2.2.2.1 h0 h1) fun _ h0 h1=>szStep h0 h1 (laws_szArg_ok ⟨h.2.2.2.2.1,h.2.2.2.2.2.1,h.2.2.2.2.2.2⟩ h0 h1) fun _ h0 h1=>szEnd h0).trans (left_eq (by simp only[size_prod,size_str,size_ints,size_int,size_bool];omega))
theorem laws_szRuleS_ok {a0:Ty0} {a1:Int} (h:okd a0) (h0:0≤a1) (h1:a1≤1048576):laws_szRuleS a0 a1=some (left_ a1 (size a0)):=by
 rw[laws_szRuleS_eq]
 exact szList laws_szRuleS_l0_eq (fun x l h h0 h1=>laws_szRule_ok h h0 h1) h h0 h1
theorem laws_szProgram_ok {a0:Ty3} {a1:Ty0} {a2:Int} (h:okd (a0,a1)) (h0:0≤a2) (h1:a2≤1048576):laws_szProgram a0 a1 a2=some (left_ a2 (size (a0,a1))):=by
 rw[laws_szProgram_eq]
 exact (szStep h0 h1 (laws_szFunctionS_ok h.1 h0 h1) fun _ h0 h1=>szStep h0 h1 (laws_szRuleS_ok h.2 h0 h1) fun _ h0 h1=>szEnd h0).trans (left_eq (by simp only[size_prod,size_str,size_ints,size_int,size_bool];omega))
theorem laws_toStringS_ok {a0:Ty8} (h:size a0≤1048576):laws_toStringS a0=some a0:=by
 rw[laws_toStringS_eq]
 exact toList (F:=laws_toStringS_l0) (f:=fun x=>some x) (fun a i o=>(laws_toStringS_l0_eq a i o).trans (by simp only[at_N,atN_N,at_set,List.set_set,Option.bind_some])) (fun _ _=>rfl) h
theorem laws_toFunction_ok {a0:Ty1} {a1:Ty8} {a2:Bool} {a3:Ty6} (h:size (a0,a1,a2,a3)≤1048576):laws_toFunction a0 a1 a2 a3=some (a0,a1,a2,a3):=by
 simp only[size_prod] at h
 rw[laws_toFunction_eq,laws_toStringS_ok (by (try simp only[size_prod]);omega),Option.bind_some,laws_toLinS_ok (by (try simp only[size_prod]);omega),Option.bind_some]
theorem laws_toFunctionS_ok {a0:Ty3} (h:size a0≤1048576):laws_toFunctionS a0=some a0:=by
 rw[laws_toFunctionS_eq]
 exact toList (F:=laws_toFunctionS_l0) (fun a i o=>(laws_toFunctionS_l0_eq a i o).trans (by simp only[at_N,atN_N,at_set,List.set_set,Option.bind_some])) (fun x h=>laws_toFunction_ok h) h
theorem laws_toPattern_ok {a0:Ty1} {a1:Bool} {a2:Ty1} {a3:Ty1} (h:size (a0,a1,a2,a3)≤1048576):laws_toPattern a0 a1 a2 a3=some (a0,a1,a2,a3):=by
 simp only[size_prod] at h
 rw[laws_toPattern_eq]
theorem laws_toPatternS_ok {a0:Ty7} (h:size a0≤1048576):laws_toPatternS a0=some a0:=by
 rw[laws_toPatternS_eq]
 exact toList (F:=laws_toPatternS_l0) (fun a i o=>(laws_toPatternS_l0_eq a i o).trans (by simp only[at_N,atN_N,at_set,List.set_set,Option.bind_some])) (fun x h=>laws_toPattern_ok h) h
theorem laws_toTerm_ok {a0:Int} {a1:Ty1} (h:size (a0,a1)≤1048576):laws_toTerm a0 a1=some (a0,a1):=by
 simp only[size_prod] at h
 rw[laws_toTerm_eq]
theorem laws_toTermS_ok {a0:Ty10} (h:size a0≤1048576):laws_toTermS a0=some a0:=by
 rw[laws_toTermS_eq]
 exact toList (F:=laws_toTermS_l0) (fun a i o=>(laws_toTermS_l0_eq a i o).trans (by simp only[at_N,atN_N,at_set,List.set_set,Option.bind_some])) (fun x h=>laws_toTerm_ok h) h
theorem laws_toSum_ok {a0:Int} {a1:Ty10} (h:size (a0,a1)≤1048576):laws_toSum a0 a1=some (a0,a1):=by
 simp only[size_prod] at h
 rw[laws_toSum_eq,laws_toTermS_ok (by (try simp only[size_prod]);omega),Option.bind_some]
theorem laws_toSumS_ok {a0:Ty2} (h:size a0≤1048576):laws_toSumS a0=some a0:=by
 rw[laws_toSumS_eq]
 exact toList (F:=laws_toSumS_l0) (fun a i o=>(laws_toSumS_l0_eq a i o).trans (by simp only[at_N,atN_N,at_set,List.set_set,Option.bind_some])) (fun x h=>laws_toSum_ok h) h
theorem laws_toArg_ok {a0:Bool} {a1:Ty2} {a2:Ty1} (h:size (a0,a1,a2)≤1048576):laws_toArg a0 a1 a2=some (a0,a1,a2):=by
 simp only[size_prod] at h
 rw[laws_toArg_eq,laws_toSumS_ok (by (try simp only[size_prod]);omega),Option.bind_some]
theorem laws_toArgS_ok {a0:Ty9} (h:size a0≤1048576):laws_toArgS a0=some a0:=by
 rw[laws_toArgS_eq]
 exact toList (F:=laws_toArgS_l0) (fun a i o=>(laws_toArgS_l0_eq a i o).trans (by simp only[at_N,atN_N,at_set,List.set_set,Option.bind_some])) (fun x h=>laws_toArg_ok h) h
theorem laws_toCall_ok {a0:Ty1} {a1:Ty1} {a2:Ty9} (h:size (a0,a1,a2)≤1048576):laws_toCall a0 a1 a2=some (a0,a1,a2):=by
 simp only[size_prod] at h
 rw[laws_toCall_eq,laws_toArgS_ok (by (try simp only[size_prod]);omega),Option.bind_some]
theorem laws_toCallS_ok {a0:Ty5} (h:size a0≤1048576):laws_toCallS a0=some a0:=by
 rw[laws_toCallS_eq]
 exact toList (F:=laws_toCallS_l0) (fun a i o=>(laws_toCallS_l0_eq a i o).trans (by simp only[at_N,atN_N,at_set,List.set_set,Option.bind_some])) (fun x h=>laws_toCall_ok h) h
theorem laws_toRule_ok {a0:Ty1} {a1:Ty7} {a2:Ty2} {a3:Ty5} {a4:Bool} {a5:Ty2} {a6:Ty1} (h:size (a0,a1,a2,a3,a4,a5,a6)≤1048576):laws_toRule a0 a1 a2 a3 a4 a5 a6=some (a0,a1,a2,a3,a4,a5,a6):=by
 simp only[size_prod] at h
 rw[laws_toRule_eq,laws_toPatternS_ok (by (try simp only[size_prod]);omega),Option.bind_some,laws_toSumS_ok (by (try simp only[size_prod]);omega),Option.bind_some,laws_toCallS_ok (by (try simp only[size_prod]);omega),Option.bind_some,laws_toArg_ok (by (try simp only[size_prod]);omega),Option.bind_some]
theorem laws_toRuleS_ok {a0:Ty0} (h:size a0≤1048576):laws_toRuleS a0=some a0:=by
 rw[laws_toRuleS_eq]
 exact toList (F:=laws_toRuleS_l0) (fun a i o=>(laws_toRuleS_l0_eq a i o).trans (by simp only[at_N,atN_N,at_set,List.set_set,Option.bind_some])) (fun x h=>laws_toRule_ok h) h
theorem laws_toProgram_ok {a0:Ty3} {a1:Ty0} (h:size (a0,a1)≤1048576):laws_toProgram a0 a1=some (a0,a1):=by
 simp only[size_prod] at h
 rw[laws_toProgram_eq,laws_toFunctionS_ok (by (try simp only[size_prod]);omega),Option.bind_some,laws_toRuleS_ok (by (try simp only[size_prod]);omega),Option.bind_some]
theorem laws_eqStringS_self {a0:Ty8} (h:okd a0):laws_eqStringS a0 a0=some true:=by
 rw[laws_eqStringS_eq]
 exact selfList (F:=laws_eqStringS_l0) (e:=fun x y=>some (x==y)) laws_eqStringS_l0_eq (fun x _=>by simp) h
theorem laws_eqFunction_self {a0:Ty1} {a1:Ty8} {a2:Bool} {a3:Ty6} (h:okd (a0,a1,a2,a3)):laws_eqFunction a0 a1 a2 a3 a0 a1 a2 a3=some true:=by
 simp only[laws_eqFunction_eq,laws_eqStringS_self h.2.1,laws_eqLinS_self h.2.2.2,Option.bind_some,beq_self_eq_true,Bool.not_true,cond_false]
theorem laws_eqFunctionS_self {a0:Ty3} (h:okd a0):laws_eqFunctionS a0 a0=some true:=by
 rw[laws_eqFunctionS_eq]
 exact selfList (F:=laws_eqFunctionS_l0) laws_eqFunctionS_l0_eq (fun x h=>laws_eqFunction_self h) h
theorem laws_eqPattern_self {a0:Ty1} {a1:Bool} {a2:Ty1} {a3:Ty1} (h:okd (a0,a1,a2,a3)):laws_eqPattern a0 a1 a2 a3 a0 a1 a2 a3=some true:=by
 simp only[laws_eqPattern_eq,Option.bind_some,beq_self_eq_true,Bool.not_true,cond_false]
theorem laws_eqPatternS_self {a0:Ty7} (h:okd a0):laws_eqPatternS a0 a0=some true:=by
 rw[laws_eqPatternS_eq]
 exact selfList (F:=laws_eqPatternS_l0) laws_eqPatternS_l0_eq (fun x h=>laws_eqPattern_self h) h
theorem laws_eqTerm_self {a0:Int} {a1:Ty1} (h:okd (a0,a1)):laws_eqTerm a0 a1 a0 a1=some true:=by
 simp only[laws_eqTerm_eq,Option.bind_some,beq_self_eq_true,Bool.not_true,cond_false]
theorem laws_eqTermS_self {a0:Ty10} (h:okd a0):laws_eqTermS a0 a0=some true:=by
 rw[laws_eqTermS_eq]
 exact selfList (F:=laws_eqTermS_l0) laws_eqTermS_l0_eq (fun x h=>laws_eqTerm_self h) h
theorem laws_eqSum_self {a0:Int} {a1:Ty10} (h:okd (a0,a1)):laws_eqSum a0 a1 a0 a1=some true:=by
 simp only[laws_eqSum_eq,laws_eqTermS_self h.2,Option.bind_some,beq_self_eq_true,Bool.not_true,cond_false]
theorem laws_eqSumS_self {a0:Ty2} (h:okd a0):laws_eqSumS a0 a0=some true:=by
 rw[laws_eqSumS_eq]
 exact selfList (F:=laws_eqSumS_l0) laws_eqSumS_l0_eq (fun x h=>laws_eqSum_self h) h
theorem laws_eqArg_self {a0:Bool} {a1:Ty2} {a2:Ty1} (h:okd (a0,a1,a2)):laws_eqArg a0 a1 a2 a0 a1 a2=some true:=by
 simp only[laws_eqArg_eq,laws_eqSumS_self h.2.1,Option.bind_some,beq_self_eq_true,Bool.not_true,cond_false]
theorem laws_eqArgS_self {a0:Ty9} (h:okd a0):laws_eqArgS a0 a0=some true:=by
 rw[laws_eqArgS_eq]
 exact selfList (F:=laws_eqArgS_l0) laws_eqArgS_l0_eq (fun x h=>laws_eqArg_self h) h
theorem laws_eqCall_self {a0:Ty1} {a1:Ty1} {a2:Ty9} (h:okd (a0,a1,a2)):laws_eqCall a0 a1 a2 a0 a1 a2=some true:=by
 simp only[laws_eqCall_eq,laws_eqArgS_self h.2.2,Option.bind_some,beq_self_eq_true,Bool.not_true,cond_false]
theorem laws_eqCallS_self {a0:Ty5} (h:okd a0):laws_eqCallS a0 a0=some true:=by
 rw[laws_eqCallS_eq]
 exact selfList (F:=laws_eqCallS_l0) laws_eqCallS_l0_eq (fun x h=>laws_eqCall_self h) h
theorem laws_eqRule_self {a0:Ty1} {a1:Ty7} {a2:Ty2} {a3:Ty5} {a4:Bool} {a5:Ty2} {a6:Ty1} (h:okd (a0,a1,a2,a3,a4,a5,a6)):laws_eqRule a0 a1 a2 a3 a4 a5 a6 a0 a1 a2 a3 a4 a5 a6=some true:=by
 simp only[laws_eqRule_eq,laws_eqPatternS_self h.2.1,laws_eqSumS_self h.2.2.1,laws_eqCallS_self h.2.2.2.1,laws_eqArg_self ⟨h.2.2.2.2.1,h.2.2.2.2.2.1,h.2.2.2.2.2.2⟩,Option.bind_some,beq_self_eq_true,Bool.not_true,cond_false]
theorem laws_eqRuleS_self {a0:Ty0} (h:okd a0):laws_eqRuleS a0 a0=some true:=by
 rw[laws_eqRuleS_eq]
 exact selfList (F:=laws_eqRuleS_l0) laws_eqRuleS_l0_eq (fun x h=>laws_eqRule_self h) h
theorem laws_eqProgram_self {a0:Ty3} {a1:Ty0} (h:okd (a0,a1)):laws_eqProgram a0 a1 a0 a1=some true:=by
 simp only[laws_eqProgram_eq,laws_eqFunctionS_self h.1,laws_eqRuleS_self h.2,Option.bind_some,beq_self_eq_true,Bool.not_true,cond_false]
theorem laws_eqValueSS_self {a0:Ty12} (h:okd a0):laws_eqValueSS a0 a0=some true:=by
 rw[laws_eqValueSS_eq]
 exact selfList (F:=laws_eqValueSS_l0) laws_eqValueSS_l0_eq (fun x h=>laws_eqValueS_self h) h
end X
namespace X
open Go TM
open TM.Dat (size okd inr)
theorem beqD {α:Type} [BEq α] [LawfulBEq α] [DecidableEq α] (x y:α):(x==y)=decide (x=y):=by by_cases h:x=y<;>simp [h]
end X
namespace X
open Go TM
open TM.Dat (size okd inr)
end X
namespace X
open Go TM
open TM.Dat (size okd inr)
end X
namespace X
open Go TM
open TM.Dat (size okd inr)
theorem both_same {α:Type} (x:Option α):both_ x x=x:=by unfold both_;simp
theorem slices_Clone_ok {l:Ty11} (h:l.length≤1073741824):slices_Clone l=some l:=by
 rw[slices_Clone_eq,app_of (by simpa using h)]
 cases l with
 |nil=>simp [both_same]
 |cons x l=>simp
end X
namespace X
open Go TM
open TM.Dat (size okd inr)
theorem within_ok (a b c:Int):impl_within a b c=some (decide (b≤a)&&decide (a≤c)):=by
 rw[impl_within_eq]
 cases decide (b≤a)<;>rfl
theorem l1In_ok (a b c:Int):spec_l1In a b c=some (decide (b≤a)&&decide (a≤c)):=by
 rw[spec_l1In_eq]
 cases decide (b≤a)<;>rfl
def inC (x:Int):Bool:=decide (-1000000000≤x)&&decide (x≤1000000000)
theorem coeffOk_ok (x:Int):impl_coeffOk x=some (inC x):=by rw[impl_coeffOk_eq,within_ok];rfl
theorem l3In_ok (x:Int):spec_l3In x=some (inC x):=by rw[spec_l3In_eq,l1In_ok];rfl
def validL (c:Int) (cs:Ty11) (n:Int):Bool:=decide (0≤n)&&decide (n≤8)&&decide ((cs.length:Int)=n)&&inC c&&cs.all inC
theorem spec_IsValidLin_ok {c:Int} {cs:Ty11} {n:Int} (hl:cs.length≤9223372036854775806):spec_IsValidLin c cs n=some (validL c cs n):=by
 rw[spec_IsValidLin_eq]
 have:=loopD cs (fun k s=>spec_IsValidLin_l0 n (k:Int) c cs=some (cond (s.all inC) (decide (0≤n)&&decide (n≤8)&&decide ((cs.length:Int)=n)&&inC c) false))
  (by
   rw[spec_IsValidLin_l0_eq,l1In_ok,l3In_ok]
   simp only[Int.lt_irrefl,decide_false,cond_false,Option.bind_some,List.all_nil,cond_true,beqD]
   cases decide (0≤n)<;>cases decide (n≤8)<;>cases decide ((cs.length:Int)=n)<;>rfl)
  (fun k x suf hd hx hk ih=>by
   rw[spec_IsValidLin_l0_eq,at_of hx,l3In_ok,w64_nat (by omega),ih]
   simp only[hk,Int.ofNat_lt,decide_true,cond_true,Option.bind_some,List.all_cons]
   cases inC x<;>rfl)
 rw[show (0:Int)=((0:Nat):Int) from rfl,this]
 unfold validL
 cases cs.all inC
 ·simp
 ·simp
theorem cont2_ok {cs:Ty11} (hl:cs.length≤9223372036854775806):slices_ContainsFunc_2 cs ()=some (cs.any fun x=>!inC x):=by
 rw[slices_ContainsFunc_2_eq,slices_IndexFunc_2_eq]
 exact idxLoop (F:=fun i=>slices_IndexFunc_2_l0 cs cs.length i) (fun i=>slices_IndexFunc_2_l0_eq cs _ i) (fun x _=>by rw[impl_IsValidLin_1_eq,coeffOk_ok];rfl) (by omega)
theorem impl_IsValidLin_ok {c:Int} {cs:Ty11} {n:Int} (hl:cs.length≤9223372036854775806):impl_IsValidLin c cs n=some (validL c cs n):=by
 rw[impl_IsValidLin_eq,within_ok,cont2_ok hl,coeffOk_ok]
 have e:cs.all inC=!(cs.any fun x=>!inC x):=by
  rw[Bool.eq_iff_iff]
  simp
 unfold validL
 rw[e]
 simp only[Option.bind_some,beqD]
 cases decide (0≤n)<;>cases decide (n≤8)<;>cases decide ((cs.length:Int)=n)<;>cases inC c<;>rfl
end X
namespace X
open Go TM
open TM.Dat (size okd inr)
theorem atS_of {ρ:Type} {l:Ty1} {n:Nat} {x:UInt8} (h:l[n]?=some x) (k:Int→Option ρ):atS l (n:Int) k=k (x.toNat:Int):=by
 unfold atS
 simp [h]
theorem subL {α ρ:Type} {l:List α} {n:Nat} (h:n≤l.length) (k:List α→Option ρ):sub_ l 0 (n:Int) k=k (l.take n):=by
 unfold sub_
 rw[if_pos ⟨Int.le_refl 0,by omega,by omega⟩]
 simp [cutL]
abbrev Str:=Ty1
def chrOk (k:Nat) (c:Int):Bool:=(decide (97≤c)&&decide (c≤122)) || (decide (0<k)&&decide (48≤c)&&decide (c≤57))
def shp:Nat→Str→Bool
 |_,[]=>true
 |k,c :: s=>chrOk k (c.toNat:Int)&&shp (k+1) s
def resvs:List Str:=[[102,117,110],[112,114,101],[114,117,108,101],[114,101,116,117,114,110],[110,105,108]]
def resv (s:Str):Bool:=resvs.any fun x=>x==s
def vName (s:Str):Bool:=shp 0 s&&decide (0<s.length)&&decide (s.length≤8)&&!resv s
def lastS (s:Str):Bool:=match s.getLast? with
 |some c=>((c.toNat:Int)==115)
 |none=>false
def vList (s:Str):Bool:=vName s&&lastS s
def vInt (s:Str):Bool:=vName s&&!vList s
def hasN (l:List Str) (s:Str):Bool:=l.any fun x=>x==s
theorem spec_l2Shape_ok {a:Str} (hl:a.length≤9223372036854775806):spec_l2Shape a=some (shp 0 a&&decide (0<a.length)):=by
 have:=loopD a (fun k s=>spec_l2Shape_l0 a (k:Int)=some (shp k s&&decide (0<a.length)))
  (by
   rw[spec_l2Shape_l0_eq]
   simp [shp])
  (fun k x suf hd hx hk ih=>by
   rw[spec_l2Shape_l0_eq]
   simp only[atS_of hx,w64_nat (n:=k) (by omega),ih,hk,Int.ofNat_lt,decide_true,cond_true,shp,chrOk,beqD]
   have hk0:decide ((k:Int)=0)=!decide (0<k):=by
    rcases Nat.eq_zero_or_pos k with h | h
    ·subst h;rfl
    ·have h1:¬ (k:Int)=0:=by omega
     rw[decide_eq_false h1,decide_eq_true h];rfl
   rw[hk0]
   cases decide (97≤(x.toNat:Int))<;>cases decide ((x.toNat:Int)≤122)<;>cases decide (48≤(x.toNat:Int))<;>cases decide ((x.toNat:Int)≤57)<;>cases decide (0<k)<;>cases decide (0<a.length)<;>simp)
 rw[spec_l2Shape_eq,show (0:Int)=((0:Nat):Int) from rfl,this]
theorem impl_shape_ok {a:Str} (hl:a.length≤9223372036854775806):impl_IsValidName_l0 a 0=some (shp 0 a):=by
 have:=loopD a (fun k s=>impl_IsValidName_l0 a (k:Int)=some (shp k s))
  (by
   rw[impl_IsValidName_l0_eq]
   simp [shp])
  (fun k x suf hd hx hk ih=>by
   rw[impl_IsValidName_l0_eq]
   simp only[atS_of hx,w64_nat (n:=k) (by omega),ih,hk,Int.ofNat_lt,decide_true,cond_true,shp,chrOk]
   have hk0:decide ((0:Int)<(k:Int))=decide (0<k):=by simp
   rw[hk0]
   cases decide (97≤(x.toNat:Int))<;>cases decide ((x.toNat:Int)≤122)<;>cases decide (48≤(x.toNat:Int))<;>cases decide ((x.toNat:Int)≤57)<;>cases decide (0<k)<;>simp)
 exact this
theorem spec_l1Has_ok {l:List Str} {s:Str} (hl:l.length≤9223372036854775806):spec_l1Has l s=some (hasN l s):=by
 rw[spec_l1Has_eq]
 exact anyLoop (F:=fun i=>spec_l1Has_l0 l s i) (e:=fun x=>some (x==s)) (fun i=>(spec_l1Has_l0_eq l s i).trans (by simp only[Option.bind_some])) (fun _ _=>rfl) (by omega)
theorem slices_Contains_ok {l:List Str} {s:Str} (hl:l.length≤9223372036854775806):slices_Contains l s=some (hasN l s):=by
 rw[slices_Contains_eq,slices_Index_eq]
 exact idxLoop (F:=fun i=>slices_Index_l0 l s l.length i) (e:=fun x=>some (x==s)) (fun i=>(slices_Index_l0_eq l s _ i).trans (by simp only[Option.bind_some,BEq.comm (a:=s)])) (fun _ _=>rfl) (by omega)
theorem spec_IsValidName_ok {a:Str} (hl:a.length≤9223372036854775806):spec_IsValidName a=some (vName a):=by
 rw[spec_IsValidName_eq,spec_l2Shape_ok hl,spec_IsReserved_eq,spec_l2Reserved_eq]
 simp only[Option.bind_some]
 have e:=spec_l1Has_ok (l:=resvs) (s:=a) (by decide)
 unfold resvs at e
 rw[e]
 have e8:decide ((a.length:Int)≤8)=decide (a.length≤8):=by
  by_cases h:a.length≤8
  ·have:(a.length:Int)≤8:=by omega
   simp [h,this]
  ·have:¬ (a.length:Int)≤8:=by omega
   simp [h,this]
 rw[e8]
 unfold vName resv hasN resvs
 simp only[Option.bind_some]
 cases shp 0 a<;>cases decide (0<a.length)<;>cases decide (a.length≤8)<;>rfl
theorem impl_IsReserved_ok (a:Str):impl_IsReserved a=some (resv a):=by
 rw[impl_IsReserved_eq]
 unfold resv resvs
 simp only[List.any_cons,List.any_nil,Bool.or_false,BEq.comm (b:=a)]
 cases a==[102,117,110]<;>cases a==[112,114,101]<;>cases a==[114,117,108,101]<;>cases a==[114,101,116,117,114,110]<;>cases a==[110,105,108]<;>rfl
theorem impl_IsValidName_ok {a:Str} (hl:a.length≤9223372036854775806):impl_IsValidName a=some (vName a):=by
 rw[impl_IsValidName_eq,within_ok,impl_IsReserved_ok,impl_shape_ok hl]
 have e8:decide ((a.length:Int)≤8)=decide (a.length≤8):=by
  by_cases h:a.length≤8
  ·have:(a.length:Int)≤8:=by omega
   simp [h,this]
  ·have:¬ (a.length:Int)≤8:=by omega
   simp [h,this]
 have e1:decide (1≤(a.length:Int))=decide (0<a.length):=by
  by_cases h:0<a.length
  ·have:1≤(a.length:Int):=by omega
   simp [h,this]
  ·have:¬ 1≤(a.length:Int):=by omega
   simp [h,this]
 rw[e8,e1]
 unfold vName
 simp only[Option.bind_some]
 cases shp 0 a<;>cases decide (0<a.length)<;>cases decide (a.length≤8)<;>cases resv a<;>rfl
theorem lastAt {ρ:Type} {a:Str} (h:0<a.length) (hl:a.length≤9223372036854775806) (k:Bool→Option ρ):(atS a (w64 ((a.length:Int)-1)) fun x=>k (x==115))=k (lastS a):=by
 rw[w64_id (by omega) (by omega),show (a.length:Int)-1=((a.length-1:Nat):Int) by omega]
 have hx:a[a.length-1]?=some (a[a.length-1]'(by omega)):=List.getElem?_eq_getElem (by omega)
 rw[atS_of hx]
 unfold lastS
 rw[List.getLast?_eq_getElem?,hx]
theorem vName_pos {a:Str} (h:vName a=true):0<a.length:=by
 unfold vName at h
 simp only[Bool.and_eq_true,decide_eq_true_eq] at h
 exact h.1.1.2
theorem spec_IsListName_ok {a:Str} (hl:a.length≤9223372036854775806):spec_IsListName a=some (vList a):=by
 rw[spec_IsListName_eq,spec_IsValidName_ok hl]
 unfold vList
 simp only[Option.bind_some]
 cases h:vName a with
 |false=>rfl
 |true=>simp only[cond_true,Bool.true_and];exact lastAt (vName_pos h) hl some
theorem impl_IsListName_ok {a:Str} (hl:a.length≤9223372036854775806):impl_IsListName a=some (vList a):=by
 rw[impl_IsListName_eq,impl_IsValidName_ok hl]
 unfold vList
 simp only[Option.bind_some]
 cases h:vName a with
 |false=>rfl
 |true=>simp only[cond_true,Bool.true_and];exact lastAt (vName_pos h) hl some
theorem spec_l10IntName_ok {a:Str} (hl:a.length≤9223372036854775806):spec_l10IntName a=some (vInt a):=by
 rw[spec_l10IntName_eq,spec_IsValidName_ok hl,spec_IsListName_ok hl]
 unfold vInt
 simp only[Option.bind_some]
 cases vName a<;>rfl
theorem impl_isIntName_ok {a:Str} (hl:a.length≤9223372036854775806):impl_isIntName a=some (vInt a):=by
 rw[impl_isIntName_eq,impl_IsValidName_ok hl,impl_IsListName_ok hl]
 unfold vInt
 simp only[Option.bind_some]
 cases vName a<;>rfl
abbrev Terms:=List (Int×Str)
def fits (x:Int):Bool:=decide (-1000000≤x)&&decide (x≤1000000)
theorem spec_Fits_ok (x:Int):spec_Fits x=some (fits x):=by rw[spec_Fits_eq,l1In_ok];rfl
theorem impl_Fits_ok (x:Int):impl_Fits x=some (fits x):=by rw[impl_Fits_eq,within_ok];rfl
def lessO:Option Str→Str→Bool
 |some q,s=>Op.bytesLess q s
 |none,_=>true
def termsOk:Option Str→Terms→Bool
 |_,[]=>true
 |p,(c,s) :: r=>!(c==0)&&fits c&&vInt s&&lessO p s&&termsOk (some s) r
def prevT (ts:Terms) (k:Nat):Option Str:=if 0<k then (ts[k-1]?).map (·.2) else none
def vSum (c:Int) (ts:Terms):Bool:=fits c&&decide (ts.length≤4)&&termsOk none ts
theorem size_snd {x:Int×Str} {ts:Terms} (h:size ts≤1048576) (hx:x∈ts):x.2.length≤1048576:=by
 have h1:=size_mem hx
 obtain ⟨c,s⟩:=x
 rw[size_prod,size_str] at h1
 show s.length≤_
 omega
theorem decLt0 (k:Nat):decide ((0:Int)<(k:Int))=decide (0<k):=by simp
theorem prev_at {ρ:Type} {ts:Terms} {k:Nat} {x:Int×Str} (hk:k<ts.length) (hl:ts.length≤1048576) (y z:Option ρ) (h0:0<k) :
  (at_ ts (w64 ((k:Int)-1)) fun _ x6=>cond (!(Op.bytesLess x6.2 x.2)) y z)=cond (!lessO (prevT ts k) x.2) y z:=by
 rw[w64_id (by omega) (by omega),show (k:Int)-1=((k-1:Nat):Int) by omega]
 have hx:ts[k-1]?=some (ts[k-1]'(by omega)):=List.getElem?_eq_getElem (by omega)
 rw[at_of hx]
 unfold prevT
 rw[if_pos h0,hx]
 rfl
theorem prevT_succ {ts:Terms} {k:Nat} {x:Int×Str} (hx:ts[k]?=some x):prevT ts (k+1)=some x.2:=by
 unfold prevT
 rw[if_pos (Nat.succ_pos k)]
 simp [hx]
theorem spec_IsValidSum_ok {c:Int} {ts:Terms} (h:size ts≤1048576):spec_IsValidSum c ts=some (vSum c ts):=by
 have hl:ts.length≤1048576:=Nat.le_trans (len_size ts) h
 have:=loopD ts (fun k s=>spec_IsValidSum_l0 (k:Int) c ts=some (termsOk (prevT ts k) s&&(fits c&&decide (ts.length≤4))))
  (by
   rw[spec_IsValidSum_l0_eq,spec_Fits_ok]
   have e4:decide ((ts.length:Int)≤4)=decide (ts.length≤4):=decide_eq_decide.2 (by omega)
   simp only[Int.lt_irrefl,decide_false,cond_false,Option.bind_some,termsOk,Bool.true_and,e4]
   cases fits c<;>rfl)
  (fun k x suf hd hx hk ih=>by
   have hn:=size_snd h (List.mem_of_getElem? hx)
   rw[spec_IsValidSum_l0_eq,at_of hx,spec_Fits_ok,spec_IsValidName_ok (by omega),spec_IsListName_ok (by omega),w64_nat (by omega),ih,prevT_succ hx]
   obtain ⟨d,s⟩:=x
   simp only[hk,Int.ofNat_lt,decide_true,cond_true,Option.bind_some,Bool.not_not,termsOk,decLt0]
   by_cases h0:0<k
   ·rw[decide_eq_true h0,cond_true,prev_at (x:=(d,s)) hk hl _ _ h0]
    unfold vInt
    cases d==0<;>cases fits d<;>cases vName s<;>cases vList s<;>cases lessO (prevT ts k) s<;>simp
   ·have hz:k=0:=by omega
    subst hz
    have hp:prevT ts 0=none:=rfl
    rw[hp]
    unfold vInt
    cases d==0<;>cases fits d<;>cases vName s<;>cases vList s<;>simp [lessO])
 rw[spec_IsValidSum_eq,show (0:Int)=((0:Nat):Int) from rfl,this]
 unfold vSum
 have hp:prevT ts 0=none:=rfl
 rw[hp]
 cases termsOk none ts<;>cases fits c<;>cases decide (ts.length≤4)<;>rfl
theorem impl_IsValidSum_ok {c:Int} {ts:Terms} (h:size ts≤1048576):impl_IsValidSum c ts=some (vSum c ts):=by
 have hl:ts.length≤1048576:=Nat.le_trans (len_size ts) h
 have:=loopD ts (fun k s=>impl_IsValidSum_l0 ts ts.length (k:Int) c ts=some (termsOk (prevT ts k) s))
  (by
   rw[impl_IsValidSum_l0_eq]
   simp [termsOk])
  (fun k x suf hd hx hk ih=>by
   have hn:=size_snd h (List.mem_of_getElem? hx)
   rw[impl_IsValidSum_l0_eq,at_of hx,impl_Fits_ok,impl_isIntName_ok (by omega),w64_nat (by omega),ih,prevT_succ hx]
   obtain ⟨d,s⟩:=x
   simp only[hk,Int.ofNat_lt,decide_true,cond_true,Option.bind_some,Bool.not_not,termsOk,decLt0]
   by_cases h0:0<k
   ·rw[decide_eq_true h0,cond_true,prev_at (x:=(d,s)) hk hl _ _ h0]
    cases d==0<;>cases fits d<;>cases vInt s<;>cases lessO (prevT ts k) s<;>simp
   ·have hz:k=0:=by omega
    subst hz
    have hp:prevT ts 0=none:=rfl
    rw[hp]
    cases d==0<;>cases fits d<;>cases vInt s<;>simp [lessO])
 have this:impl_IsValidSum_l0 ts ts.length 0 c ts=some (termsOk none ts):=this
 rw[impl_IsValidSum_eq,impl_Fits_ok,this]
 unfold vSum
 have e4:decide ((4:Int)<ts.length)=!decide (ts.length≤4):=by
  by_cases h:ts.length≤4
  ·have:¬ (4:Int)<ts.length:=by omega
   simp [h,this]
  ·have:(4:Int)<ts.length:=by omega
   simp [h,this]
 rw[e4]
 simp only[Option.bind_some]
 cases fits c<;>cases decide (ts.length≤4)<;>rfl
end X
namespace X
open Go TM
open TM.Dat (size okd inr)
abbrev Sums:=List (Int×Terms)
theorem size_sum {x:Int×Terms} {xs:Sums} (h:size xs≤1048576) (hx:x∈xs):size x.2≤1048576:=by
 have h1:=size_mem hx
 obtain ⟨c,s⟩:=x
 rw[size_prod] at h1
 show size s≤_
 omega
def vArg (l:Bool) (xs:Sums) (t:Str):Bool:=(xs.all fun x=>vSum x.1 x.2)&&(cond l (decide (xs.length≤3)&&((t==[]) || vList t)) (decide (xs.length=1)&&(t==[])))
theorem spec_IsValidArg_ok {l:Bool} {xs:Sums} {t:Str} (h:size xs≤1048576) (ht:t.length≤1048576):spec_IsValidArg l xs t=some (vArg l xs t):=by
 have hl:xs.length≤1048576:=Nat.le_trans (len_size xs) h
 have:=loopD xs (fun k s=>spec_IsValidArg_l0 (k:Int) l xs t=some ((s.all fun x=>vSum x.1 x.2)&&(cond l (decide (xs.length≤3)&&((t==[]) || vList t)) (decide (xs.length=1)&&(t==[])))))
  (by
   rw[spec_IsValidArg_l0_eq,spec_IsListName_ok (by omega)]
   have e3:decide ((xs.length:Int)≤3)=decide (xs.length≤3):=decide_eq_decide.2 (by omega)
   have e1:((xs.length:Int)==1)=decide (xs.length=1):=by rw[beqD];exact decide_eq_decide.2 (by omega)
   simp only[Int.lt_irrefl,decide_false,cond_false,Option.bind_some,List.all_nil,Bool.true_and,e3,e1]
   cases l<;>cases decide (xs.length≤3)<;>cases decide (xs.length=1)<;>cases t==[]<;>rfl)
  (fun k x suf hd hx hk ih=>by
   rw[spec_IsValidArg_l0_eq,at_of hx,spec_IsValidSum_ok (size_sum h (List.mem_of_getElem? hx)),w64_nat (by omega),ih]
   simp only[hk,Int.ofNat_lt,decide_true,cond_true,Option.bind_some,List.all_cons]
   cases vSum x.1 x.2<;>simp)
 rw[spec_IsValidArg_eq,show (0:Int)=((0:Nat):Int) from rfl,this]
 rfl
theorem impl_IsValidArg_ok {l:Bool} {xs:Sums} {t:Str} (h:size xs≤1048576) (ht:t.length≤1048576):impl_IsValidArg l xs t=some (vArg l xs t):=by
 have hl:xs.length≤1048576:=Nat.le_trans (len_size xs) h
 have hc:slices_ContainsFunc_8 xs ()=some (xs.any fun x=>!vSum x.1 x.2):=by
  rw[slices_ContainsFunc_8_eq,slices_IndexFunc_9_eq]
  exact idxLoop (F:=fun i=>slices_IndexFunc_9_l0 xs xs.length i) (fun i=>slices_IndexFunc_9_l0_eq xs _ i) (fun x hx=>by rw[impl_IsValidArg_1_eq,impl_IsValidSum_ok (size_sum h hx)];rfl) (by omega)
 rw[impl_IsValidArg_eq,hc,impl_IsListName_ok (by omega)]
 have e3:decide ((xs.length:Int)≤3)=decide (xs.length≤3):=decide_eq_decide.2 (by omega)
 have e1:((xs.length:Int)==1)=decide (xs.length=1):=by rw[beqD];exact decide_eq_decide.2 (by omega)
 have ea:(xs.all fun x=>vSum x.1 x.2)=!(xs.any fun x=>!vSum x.1 x.2):=by
  rw[Bool.eq_iff_iff]
  simp
 unfold vArg
 rw[ea]
 simp only[Option.bind_some,e3,e1]
 cases l<;>cases (xs.any fun x=>!vSum x.1 x.2)<;>cases decide (xs.length≤3)<;>cases decide (xs.length=1)<;>cases t==[]<;>rfl
def namesT (ts:Terms):List Str:=ts.map (·.2)
def namesS (xs:Sums):List Str:=xs.flatMap fun x=>namesT x.2
def names (xs:Sums) (t:Str):List Str:=namesS xs++cond (t==[]) [] [t]
theorem impl_sumNames_ok {c:Int} {ts:Terms} (h:ts.length≤1048576):impl_sumNames c ts=some (namesT ts):=by
 have:=loopD ts (fun k s=>∀ acc:List Str,acc.length+s.length≤1048576→impl_sumNames_l0 ts ts.length (k:Int) acc=some (acc++namesT s))
  (fun acc _=>by
   rw[impl_sumNames_l0_eq]
   simp [namesT])
  (fun k x suf hd hx hk ih acc ha=>by
   rw[List.length_cons] at ha
   rw[impl_sumNames_l0_eq,at_of hx,app_of (by simp;omega),w64_nat (by omega),ih _ (by simp;omega)]
   simp [hk,namesT])
 rw[impl_sumNames_eq,show (0:Int)=((0:Nat):Int) from rfl,this [] (by simp;exact h)]
 rfl
theorem namesS_len (xs:Sums):(namesS xs).length≤size xs:=by
 induction xs with
 |nil=>simp [namesS]
 |cons x xs ih=>
  have h1:size (x :: xs)=1+size x+size xs:=by
   rw[size_list,size_list,List.map_cons,List.length_cons]
   show _+(size x+TM.sums _)=_
   omega
  have h2:(namesS (x :: xs)).length=x.2.length+(namesS xs).length:=by simp [namesS,namesT]
  have h3:size x=size x.2:=by obtain ⟨c,s⟩:=x;rw[size_prod,size_int];simp
  have h4:=len_size x.2
  omega
theorem impl_names_ok {l:Bool} {xs:Sums} {t:Str} (h:size xs≤1048576):impl_NamesOf l xs t=impl_SortNames (names xs t):=by
 have hl:xs.length≤1048576:=Nat.le_trans (len_size xs) h
 have key:=loopD xs (fun k s=>∀ acc:List Str,acc.length+(namesS s).length≤1048576→impl_NamesOf_l0 xs xs.length (k:Int) l xs t acc=impl_SortNames (acc++namesS s++cond (t==[]) [] [t]))
  (fun acc ha=>by
   rw[impl_NamesOf_l0_eq]
   have hid:∀ o:Option (List Str),(o.bind fun x=>some x)=o:=fun o=>by cases o<;>rfl
   simp only[Int.lt_irrefl,decide_false,cond_false,hid]
   cases t==[]
   ·simp only[Bool.not_false,cond_true,cond_false]
    rw[app_of (by simp at ha ⊢;omega)]
    simp [namesS]
   ·simp [namesS])
  (fun k x suf hd hx hk ih acc ha=>by
   have hs:(namesS (x :: suf)).length=x.2.length+(namesS suf).length:=by simp [namesS,namesT]
   have h2:=len_size x.2
   have h3:=size_sum h (List.mem_of_getElem? hx)
   have hn:(namesT x.2).length=x.2.length:=by simp [namesT]
   rw[impl_NamesOf_l0_eq,at_of hx,impl_sumNames_ok (by omega),Option.bind_some,app_of (by omega),w64_nat (by omega),ih _ (by rw[List.length_append];omega)]
   simp [hk,namesS])
 rw[impl_NamesOf_eq,show (0:Int)=((0:Nat):Int) from rfl,key [] (by have:=namesS_len xs;simp;omega)]
 rfl
theorem spec_NamesOf_l1_ok {l:Bool} {xs:Sums} {t:Str} (h:size xs≤1048576) {k:Nat} {x:Int×Terms} (hx:xs[k]?=some x) (acc:List Str) (ha:acc.length+x.2.length≤1048576) :
  spec_NamesOf_l1 (k:Int) 0 l xs t acc=spec_NamesOf_l0 ((k+1:Nat):Int) l xs t (acc++namesT x.2):=by
 have hl:xs.length≤1048576:=Nat.le_trans (len_size xs) h
 have hk:k<xs.length:=(List.getElem?_eq_some_iff.1 hx).1
 have key:=loopD x.2 (fun j s=>∀ acc:List Str,acc.length+s.length≤1048576→spec_NamesOf_l1 (k:Int) (j:Int) l xs t acc=spec_NamesOf_l0 ((k+1:Nat):Int) l xs t (acc++namesT s))
  (fun acc _=>by
   rw[spec_NamesOf_l1_eq,at_of hx,w64_nat (n:=k) (by omega)]
   simp only[Int.lt_irrefl,decide_false,cond_false,namesT,List.map_nil,List.append_nil])
  (fun j y suf hd hy hj ih acc ha=>by
   rw[List.length_cons] at ha
   have hj2:=len_size x.2
   have hj3:=size_sum h (List.mem_of_getElem? hx)
   rw[spec_NamesOf_l1_eq,at_of hx,at_of hx,at_of hy,app_of (by simp;omega),w64_nat (n:=j) (by omega),ih _ (by simp;omega)]
   simp [hj,namesT])
 exact key acc ha
theorem spec_names_ok {l:Bool} {xs:Sums} {t:Str} (h:size xs≤1048576):spec_NamesOf l xs t=spec_SortNames (names xs t):=by
 have hl:xs.length≤1048576:=Nat.le_trans (len_size xs) h
 have key:=loopD xs (fun k s=>∀ acc:List Str,acc.length+(namesS s).length≤1048576→spec_NamesOf_l0 (k:Int) l xs t acc=spec_SortNames (acc++namesS s++cond (t==[]) [] [t]))
  (fun acc ha=>by
   rw[spec_NamesOf_l0_eq]
   have hid:∀ o:Option (List Str),(o.bind fun x=>some x)=o:=fun o=>by cases o<;>rfl
   simp only[Int.lt_irrefl,decide_false,cond_false,hid]
   cases t==[]
   ·simp only[Bool.not_false,cond_true,cond_false]
    rw[app_of (by simp at ha ⊢;omega)]
    simp [namesS]
   ·simp [namesS])
  (fun k x suf hd hx hk ih acc ha=>by
   have hs:(namesS (x :: suf)).length=x.2.length+(namesS suf).length:=by simp [namesS,namesT]
   have hn:(namesT x.2).length=x.2.length:=by simp [namesT]
   rw[spec_NamesOf_l0_eq,spec_NamesOf_l1_ok h hx acc (by omega),ih _ (by rw[List.length_append];omega)]
   simp [hk,namesS])
 rw[spec_NamesOf_eq,show (0:Int)=((0:Nat):Int) from rfl,key [] (by have:=namesS_len xs;simp;omega)]
 rfl
theorem win_of {α ρ:Type} {l:List α} {a b:Nat} (h1:a≤b) (h2:b≤l.length) (k:Nat→Nat→Option ρ):win_ l (a:Int) (b:Int) k=k a b:=by
 unfold win_
 rw[if_pos ⟨by omega,by omega,by omega⟩]
 rfl
def insN (s:Str):List Str→List Str
 |[]=>[s]
 |x :: r=>if Op.bytesLess x s then x :: insN s r else if x==s then x :: r else s :: x :: r
theorem insN_mem {s:Str}:∀ {l:List Str} {y:Str},y∈insN s l↔y=s∨y∈l
 |[],y=>by simp [insN]
 |x :: r,y=>by
  unfold insN
  split
  ·rw[List.mem_cons,insN_mem,List.mem_cons]
   constructor
   ·rintro (h | h | h)
    ·exact .inr (.inl h)
    ·exact .inl h
    ·exact .inr (.inr h)
   ·rintro (h | h | h)
    ·exact .inr (.inl h)
    ·exact .inl h
    ·exact .inr (.inr h)
  ·split
   ·rename_i he
    have he:=eq_of_beq he
    subst he
    rw[List.mem_cons]
    constructor
    ·exact fun h=>.inr h
    ·rintro (h | h)
     ·exact .inl h
     ·exact h
   ·simp
theorem insN_len (s:Str):∀ (l:List Str),(insN s l).length≤l.length+1
 |[]=>by simp [insN]
 |x :: r=>by
  unfold insN
  have:=insN_len s r
  split
  ·simp;omega
  ·split<;>simp
theorem sort_step {l:List Str} {i:Nat} {s:Str} (hs:l[i]?=some s) (hi:l.length≤1048577) (out:List Str) (ho:out.length≤1048577) :
  spec_SortNames_l1 l (i:Int) 0 out=spec_SortNames_l0 l ((i+1:Nat):Int) (insN s out):=by
 have hil:i<l.length:=(List.getElem?_eq_some_iff.1 hs).1
 have key:=loopD out (fun k suf=>spec_SortNames_l1 l (i:Int) (k:Int) out=spec_SortNames_l0 l ((i+1:Nat):Int) (out.take k++insN s suf))
  (by
   rw[spec_SortNames_l1_eq]
   simp only[Int.lt_irrefl,decide_false,cond_false]
   rw[win_of (Nat.le_refl _) (Nat.le_refl _),show cutL out out.length out.length=[] by simp [cutL],app_of (by simp),show (0:Int)=((0:Nat):Int) from rfl,win_of (Nat.zero_le _) (Nat.le_refl _),at_of hs]
   have e:(0==0)=true:=rfl
   simp only[e,cond_true,List.isEmpty_cons,Bool.not_false,Bool.or_true]
   rw[app_of (by simp;omega),app_of (by simp;omega),w64_nat (by omega)]
   simp [insN])
  (fun k x suf hd hx hk ih=>by
   rw[spec_SortNames_l1_eq]
   have ht:out.take (k+1)=out.take k++[x]:=by rw[List.take_add_one,hx];rfl
   have hdk:out.drop k=x :: suf:=hd
   simp only[Int.ofNat_lt,hk,decide_true,cond_true,at_of hx,atN_of hx,at_of hs]
   rw[insN]
   cases h1:Op.bytesLess x s with
   |true=>
    simp only[cond_true,if_true]
    rw[w64_nat (by omega),ih,ht,List.append_assoc]
    rfl
   |false=>
    simp only[cond_false]
    cases h2:x==s with
    |true=>
     simp only[cond_true]
     rw[w64_nat (by omega),← hdk,if_neg (by simp),if_pos trivial,List.take_append_drop]
    |false=>
     simp only[cond_false]
     rw[win_of (by omega) (Nat.le_refl _),show cutL out k out.length=out.drop k by simp [cutL],app_of (by simp;omega),show (0:Int)=((0:Nat):Int) from rfl,win_of (Nat.zero_le _) (by omega)]
     have e:(0==0)=true:=rfl
     simp only[e,cond_true,List.isEmpty_cons,Bool.not_false,Bool.or_true]
     rw[app_of (by simp;omega),app_of (by simp;omega),w64_nat (by omega),hdk]
     simp)
 exact key
theorem spec_SortNames_ok {l:List Str} (h:l.length≤1048577):∃ r,spec_SortNames l=some r∧r.length≤l.length∧∀ s,s∈r↔s∈l:=by
 have key:=loopD l (fun k suf=>∀ out:List Str,out.length+suf.length≤l.length→∃ r,spec_SortNames_l0 l (k:Int) out=some r∧r.length≤out.length+suf.length∧∀ s,s∈r↔s∈out∨s∈suf)
  (fun out _=>by
   refine ⟨out,?_,by simp,by simp⟩
   rw[spec_SortNames_l0_eq]
   simp)
  (fun k x suf hd hx hk ih out ho=>by
   rw[List.length_cons] at ho
   have hlen:=insN_len x out
   obtain ⟨r,h1,h2,h3⟩:=ih (insN x out) (by omega)
   refine ⟨r,?_,by rw[List.length_cons];omega,fun s=>?_⟩
   ·rw[spec_SortNames_l0_eq]
    simp only[Int.ofNat_lt,hk,decide_true,cond_true]
    rw[sort_step hx h out (by omega)]
    exact h1
   ·rw[h3,insN_mem,List.mem_cons]
    constructor
    ·rintro ((h | h) | h)
     ·exact .inr (.inl h)
     ·exact .inl h
     ·exact .inr (.inr h)
    ·rintro (h | h | h)
     ·exact .inl (.inr h)
     ·exact .inl (.inl h)
     ·exact .inr h)
 obtain ⟨r,h1,h2,h3⟩:=key [] (by simp)
 exact ⟨r,by rw[spec_SortNames_eq];exact h1,by simpa using h2,fun s=>by rw[h3];simp⟩
theorem spec_Without_ok {l m:List Str} (h:l.length≤1048577) (hm:m.length≤9223372036854775806):spec_Without l m=some (l.filter fun s=>!hasN m s):=by
 have key:=loopD l (fun k suf=>∀ out:List Str,out.length+suf.length≤l.length→spec_Without_l0 l m (k:Int) out=some (out++suf.filter fun s=>!hasN m s))
  (fun out _=>by
   rw[spec_Without_l0_eq]
   simp)
  (fun k x suf hd hx hk ih out ho=>by
   rw[List.length_cons] at ho
   rw[spec_Without_l0_eq,at_of hx,spec_l1Has_ok hm,Option.bind_some]
   simp only[Int.ofNat_lt,hk,decide_true,cond_true]
   cases hh:hasN m x with
   |true=>
    simp only[Bool.not_true,cond_false]
    rw[w64_nat (by omega),ih _ (by omega)]
    simp [hh]
   |false=>
    simp only[Bool.not_false,cond_true]
    rw[at_of hx,app_of (by simp;omega),w64_nat (by omega),ih _ (by simp;omega)]
    simp [hh])
 rw[spec_Without_eq]
 exact key [] (by simp)
theorem allN_iff {l r m:List Str} (h:∀ s,s∈r↔s∈l):((r.filter fun s=>!hasN m s).length=0)↔(l.all fun s=>hasN m s)=true:=by
 rw[List.length_eq_zero_iff,List.filter_eq_nil_iff,List.all_eq_true]
 constructor
 ·intro k s hs
  have:=k s ((h s).2 hs)
  simpa using this
 ·intro k s hs
  have:=k s ((h s).1 hs)
  simp [this]
theorem spec_l10Arg_ok {l:Bool} {xs:Sums} {t:Str} {q:Bool} {sc:List Str} (h:size xs≤1048576) (ht:t.length≤1048576) (hs:sc.length≤9223372036854775806) :
  spec_l10Arg l xs t q sc=some (vArg l xs t&&((l==q)&&(names xs t).all fun s=>hasN sc s)):=by
 rw[spec_l10Arg_eq,spec_IsValidArg_ok h ht,spec_names_ok h,Option.bind_some]
 have hn:(names xs t).length≤1048577:=by
  have:=namesS_len xs
  unfold names
  cases t==[]<;>simp<;>omega
 obtain ⟨r,h1,h2,h3⟩:=spec_SortNames_ok hn
 rw[h1,Option.bind_some,spec_Without_ok (by omega) hs,Option.bind_some]
 have e:(((r.filter fun s=>!hasN sc s).length:Int)==0)=(names xs t).all fun s=>hasN sc s:=by
  rw[beqD,Bool.eq_iff_iff,decide_eq_true_eq,← allN_iff h3]
  omega
 rw[e]
 cases vArg l xs t<;>cases l==q<;>rfl
end X
namespace X
open Go TM
open TM.Dat (size okd inr)
structure Per (l m:List Str):Prop where
 len:m.length=l.length
 mem:∀ s,s∈m↔s∈l
theorem Per.rfl' {l:List Str}:Per l l:=⟨rfl,fun _=>Iff.rfl⟩
theorem Per.trans {l m n:List Str} (h:Per l m) (k:Per m n):Per l n:=⟨k.len.trans h.len,fun s=>(k.mem s).trans (h.mem s)⟩
def swp (l:List Str) (i j:Nat):List Str:=(l.set i (l.getD j [])).set j (l.getD i [])
theorem mem_iff_get {l:List Str} {s:Str}:s∈l↔∃ k:Nat,l[k]?=some s:=List.mem_iff_getElem?
theorem swp_per {l:List Str} {i j:Nat} (hi:i<l.length) (hj:j<l.length):Per l (swp l i j):=by
 refine ⟨by simp [swp],fun s=>?_⟩
 have ei:l[i]?=some (l.getD i []):=by simp [List.getD,hi]
 have ej:l[j]?=some (l.getD j []):=by simp [List.getD,hj]
 have get:∀ k:Nat,(swp l i j)[k]?=if j=k then some (l.getD i []) else if i=k then some (l.getD j []) else l[k]?:=by
  intro k
  unfold swp
  rw[List.getElem?_set,List.getElem?_set]
  by_cases h1:j=k
  ·subst h1;simp [hj]
  ·by_cases h2:i=k
   ·subst h2;simp [h1,hi]
   ·simp [h1,h2]
 rw[mem_iff_get,mem_iff_get]
 constructor
 ·rintro ⟨k,hk⟩
  rw[get] at hk
  split at hk
  ·exact ⟨i,by rw[ei];exact hk⟩
  ·split at hk
   ·exact ⟨j,by rw[ej];exact hk⟩
   ·exact ⟨k,hk⟩
 ·rintro ⟨k,hk⟩
  by_cases h1:k=i
  ·subst h1
   exact ⟨j,by rw[get,if_pos rfl,← ei];exact hk⟩
  ·by_cases h2:k=j
   ·subst h2
    refine ⟨i,?_⟩
    rw[get,if_neg h1,if_pos rfl,← ej];exact hk
   ·exact ⟨k,by rw[get,if_neg (fun e=>h2 e.symm),if_neg (fun e=>h1 e.symm)];exact hk⟩
theorem getL {l:List Str} {i:Nat} (hi:i<l.length):l[i]?=some (l.getD i []):=by simp [List.getD,hi]
theorem swap_of {ρ:Type} {l:List Str} {i j:Nat} (hi:i<l.length) (hj:j<l.length) (K:List Str→Option ρ) :
  (at_ l (j:Int) fun x7 _=>atN l x7 fun x9=>at_ l (i:Int) fun x10 _=>atN l x10 fun x12=>at_ l (i:Int) fun x13 _=>atN l x13 fun _=>atN l x13 fun _=>at_ (l.set x13 x9) (j:Int) fun x17 _=>atN (l.set x13 x9) x17 fun _=>atN (l.set x13 x9) x17 fun _=>K ((l.set x13 x9).set x17 x12))=K (swp l i j):=by
 have hj':∀ x:Str,(l.set i x)[j]?=some ((l.set i x).getD j []):=fun x=>getL (by simpa using hj)
 rw[at_of (getL hj),atN_of (getL hj),at_of (getL hi),atN_of (getL hi),at_of (getL hi),atN_of (getL hi),atN_of (getL hi),at_of (hj' _),atN_of (hj' _),atN_of (hj' _)]
 rfl
theorem less_ok (a b:Str):cmp_Less a b=some (Op.bytesLess a b):=by
 simp [cmp_Less_eq,cmp_isNaN_eq]
theorem cmp_of {ρ:Type} {l:List Str} {i j:Nat} (hi:i<l.length) (hj:j<l.length) (K:Bool→Option ρ) :
  (at_ l (i:Int) fun x0 _=>atN l x0 fun x2=>at_ l (j:Int) fun x3 _=>atN l x3 fun x5=>(cmp_Less x2 x5).bind K)=K (Op.bytesLess (l.getD i []) (l.getD j [])):=by
 rw[at_of (getL hi),atN_of (getL hi),at_of (getL hj),atN_of (getL hj),less_ok,Option.bind_some]
theorem pred64 {n:Nat} (h:0<n) (h2:n<9223372036854775807):w64 ((n:Int)-1)=((n-1:Nat):Int):=by
 rw[w64_id (by omega) (by omega)];omega
theorem ins_l1_ok {lo hi i:Nat} (hi64:i<9223372036854775806):∀ (j:Nat) (l:List Str),j<l.length→l.length<9223372036854775806→∃ l',Per l l'∧slices_insertionSortOrdered_l1 lo hi i j l=slices_insertionSortOrdered_l0 lo hi ((i+1:Nat):Int) l':=by
 intro j
 induction j with
 |zero=>
  intro l hj hl
  refine ⟨l,.rfl',?_⟩
  rw[slices_insertionSortOrdered_l1_eq,w64_nat (by omega)]
  have:¬ ((lo:Int)<((0:Nat):Int)):=by omega
  simp only[this,decide_false,cond_false]
 |succ j ih=>
  intro l hj hl
  by_cases hlt:lo<j+1
  ·cases hb:Op.bytesLess (l.getD (j+1) []) (l.getD j []) with
   |true=>
    obtain ⟨l',h1,h2⟩:=ih (swp l (j+1) j) (by simp [swp];omega) (by simp [swp];omega)
    refine ⟨l',(swp_per hj (by omega)).trans h1,?_⟩
    rw[slices_insertionSortOrdered_l1_eq,pred64 (by omega) (by omega),Nat.add_sub_cancel,cmp_of hj (by omega),hb]
    have:((lo:Int)<((j+1:Nat):Int)):=by omega
    simp only[this,decide_true,cond_true]
    rw[swap_of hj (by omega),h2]
   |false=>
    refine ⟨l,.rfl',?_⟩
    rw[slices_insertionSortOrdered_l1_eq,pred64 (by omega) (by omega),Nat.add_sub_cancel,cmp_of hj (by omega),hb]
    have:((lo:Int)<((j+1:Nat):Int)):=by omega
    simp only[this,decide_true,cond_true,cond_false]
    rw[w64_nat (by omega)]
  ·refine ⟨l,.rfl',?_⟩
   rw[slices_insertionSortOrdered_l1_eq]
   have:¬ ((lo:Int)<((j+1:Nat):Int)):=by omega
   simp only[this,decide_false,cond_false]
   rw[w64_nat (by omega)]
theorem ins_l0_ok {lo hi:Nat}:∀ (m i:Nat) (l:List Str),hi-i=m→hi≤l.length→l.length<9223372036854775806→∃ l',Per l l'∧slices_insertionSortOrdered_l0 lo hi i l=some l':=by
 intro m
 induction m with
 |zero=>
  intro i l hm hh hl
  refine ⟨l,.rfl',?_⟩
  rw[slices_insertionSortOrdered_l0_eq]
  have:¬ ((i:Int)<(hi:Int)):=by omega
  simp [this]
 |succ m ih=>
  intro i l hm hh hl
  obtain ⟨l1,h1,h2⟩:=ins_l1_ok (lo:=lo) (hi:=hi) (i:=i) (by omega) i l (by omega) hl
  obtain ⟨l2,h3,h4⟩:=ih (i+1) l1 (by omega) (by rw[h1.len];exact hh) (by rw[h1.len];exact hl)
  refine ⟨l2,h1.trans h3,?_⟩
  rw[slices_insertionSortOrdered_l0_eq]
  have:((i:Int)<(hi:Int)):=by omega
  simp only[this,decide_true,cond_true]
  rw[h2,h4]
theorem ins_ok {lo hi:Nat} {l:List Str} (h:hi≤l.length) (hlo:lo<9223372036854775806) (hl:l.length<9223372036854775806):∃ l',Per l l'∧slices_insertionSortOrdered l lo hi=some l':=by
 rw[slices_insertionSortOrdered_eq,w64_nat (by omega)]
 exact ins_l0_ok _ _ _ rfl h hl
theorem rev_l0_ok:∀ (m i j:Nat) (l:List Str),j-i=m→j<l.length→l.length<9223372036854775806→∃ l',Per l l'∧slices_reverseRangeOrdered_l0 i j l=some l':=by
 intro m
 induction m using Nat.strongRecOn with
 |_ m ih=>
  intro i j l hm hj hl
  by_cases hlt:i<j
  ·obtain ⟨l',h1,h2⟩:=ih ((j-1)-(i+1)) (by omega) (i+1) (j-1) (swp l i j) rfl (by simp [swp];omega) (by simp [swp];omega)
   refine ⟨l',(swp_per (by omega) hj).trans h1,?_⟩
   rw[slices_reverseRangeOrdered_l0_eq]
   have:((i:Int)<(j:Int)):=by omega
   simp only[this,decide_true,cond_true]
   rw[swap_of (by omega) hj,w64_nat (by omega),pred64 (by omega) (by omega),h2]
  ·refine ⟨l,.rfl',?_⟩
   rw[slices_reverseRangeOrdered_l0_eq]
   have:¬ ((i:Int)<(j:Int)):=by omega
   simp [this]
theorem rev_ok {lo hi:Nat} {l:List Str} (h0:0<hi) (h:hi≤l.length) (hl:l.length<9223372036854775806):∃ l',Per l l'∧slices_reverseRangeOrdered l lo hi=some l':=by
 rw[slices_reverseRangeOrdered_eq,pred64 h0 (by omega)]
 exact rev_l0_ok _ _ _ _ rfl (by omega) hl
theorem ord2_ok {l:List Str} {i j:Nat} {s:Int} (hi:i<l.length) (hj:j<l.length):∃ s':Int,∃ p q:Nat,slices_order2Ordered l i j s=some (s',(p:Int),(q:Int))∧(p=i∧q=j∨p=j∧q=i):=by
 rw[slices_order2Ordered_eq,at_of (getL hj),at_of (getL hi),less_ok,Option.bind_some]
 cases Op.bytesLess (l.getD j []) (l.getD i []) with
 |true=>exact ⟨_,j,i,rfl,.inr ⟨rfl,rfl⟩⟩
 |false=>exact ⟨_,i,j,rfl,.inl ⟨rfl,rfl⟩⟩
theorem med_ok {l:List Str} {i j k:Nat} {s:Int} (hi:i<l.length) (hj:j<l.length) (hk:k<l.length):∃ s':Int,∃ p:Nat,slices_medianOrdered l i j k s=some (s',(p:Int))∧(p=i∨p=j∨p=k):=by
 obtain ⟨s1,p1,q1,e1,h1⟩:=ord2_ok (s:=s) hi hj
 have hp1:p1<l.length:=by rcases h1 with h | h<;>omega
 have hq1:q1<l.length:=by rcases h1 with h | h<;>omega
 obtain ⟨s2,p2,q2,e2,h2⟩:=ord2_ok (s:=s1) hq1 hk
 have hp2:p2<l.length:=by rcases h2 with h | h<;>omega
 obtain ⟨s3,p3,q3,e3,h3⟩:=ord2_ok (s:=s2) hp1 hp2
 refine ⟨s3,q3,?_,by omega⟩
 rw[slices_medianOrdered_eq,e1,Option.bind_some]
 simp only
 rw[e2,Option.bind_some]
 simp only
 rw[e3,Option.bind_some]
theorem pivot_ok {l:List Str} (h:l.length=13):∃ p:Nat,∃ hint:Int,slices_choosePivotOrdered l 0 13=some ((p:Int),hint)∧p<13:=by
 obtain ⟨s,p,e,hp⟩:=med_ok (l:=l) (i:=3) (j:=6) (k:=9) (s:=0) (by omega) (by omega) (by omega)
 have e:slices_medianOrdered l 3 6 9 0=some (s,(p:Int)):=e
 have hh:∃ hint:Int,slices_choosePivotOrdered l 0 13=some ((p:Int),hint):=by
  rw[slices_choosePivotOrdered_eq]
  have w0:w64 (13-0)=13:=by decide
  have w1:w64 (0+w64 (w64 (Int.tdiv 13 4) * 1))=3:=by decide
  have w2:w64 (0+w64 (w64 (Int.tdiv 13 4) * 2))=6:=by decide
  have w3:w64 (0+w64 (w64 (Int.tdiv 13 4) * 3))=9:=by decide
  have d1:decide ((8:Int)≤13)=true:=rfl
  have d2:decide ((50:Int)≤13)=false:=rfl
  simp only[w0,w1,w2,w3,d1,d2,cond_true,cond_false,e,Option.bind_some]
  cases s==0
  ·cases s==12
   ·exact ⟨_,rfl⟩
   ·exact ⟨_,rfl⟩
  ·exact ⟨_,rfl⟩
 obtain ⟨hint,hh⟩:=hh
 exact ⟨p,hint,hh,by omega⟩
theorem part_l1_ok {l:List Str} (h:l.length=13) {a3:Int}:∀ (m i:Nat),13-i=m→0<i→i≤13→∃ b,slices_partialInsertionSortOrdered_l1 0 13 i a3 l=some (l,b):=by
 intro m
 induction m with
 |zero=>
  intro i hm h0 hi
  have:i=13:=by omega
  subst this
  rw[slices_partialInsertionSortOrdered_l1_eq]
  exact ⟨true,rfl⟩
 |succ m ih=>
  intro i hm h0 hi
  rw[slices_partialInsertionSortOrdered_l1_eq,pred64 h0 (by omega),cmp_of (by omega) (by omega)]
  have hlt:decide ((i:Int)<13)=true:=decide_eq_true (by omega)
  have hne:((i:Int)==13)=false:=by rw[beqD];exact decide_eq_false (by omega)
  have w0:w64 (13-0)=13:=by decide
  have d2:decide ((13:Int)<50)=true:=rfl
  simp only[hlt,cond_true,hne,cond_false,w0,d2]
  cases Op.bytesLess (l.getD i []) (l.getD (i-1) []) with
  |true=>exact ⟨false,rfl⟩
  |false=>
   simp only[Bool.not_false,cond_true]
   rw[w64_nat (by omega)]
   exact ih (i+1) (by omega) (by omega) (by omega)
theorem part_ok {l:List Str} (h:l.length=13):∃ b,slices_partialInsertionSortOrdered l 0 13=some (l,b):=by
 obtain ⟨b,hb⟩:=part_l1_ok h (a3:=0) 12 1 rfl (by omega) (by omega)
 refine ⟨b,?_⟩
 rw[slices_partialInsertionSortOrdered_eq,slices_partialInsertionSortOrdered_l0_eq]
 have w:w64 (0+1)=((1:Nat):Int):=by decide
 have d:decide ((0:Int)<5)=true:=rfl
 rw[w,d,cond_true]
 exact hb
def PtR (l:List Str) (r:Option (List Str×Int×Bool)):Prop:=∃ l':List Str,∃ mid:Nat,∃ b:Bool,r=some (l',(mid:Int),b)∧Per l l'∧mid<l.length
theorem PtR.of {l l1:List Str} {r:Option (List Str×Int×Bool)} (h:Per l l1) (k:PtR l1 r):PtR l r:=by
 obtain ⟨l',mid,b,h1,h2,h3⟩:=k
 exact ⟨l',mid,b,h1,h.trans h2,by rw[← h.len];exact h3⟩
theorem swp_len {l:List Str} {i j:Nat}:(swp l i j).length=l.length:=by simp [swp]
theorem ptn24 {z:Nat}:∀ (m i j:Nat) (l:List Str),j+1-i=m→1≤i→j<l.length→z<l.length→l.length<9223372036854775806 →
  PtR l (slices_partitionOrdered_l4 z i j l)∧PtR l (slices_partitionOrdered_l2 z i j l):=by
 intro m
 induction m using Nat.strongRecOn with
 |_ m ih=>
  intro i j l hm h1 hj hz hl
  have p4:PtR l (slices_partitionOrdered_l4 z i j l):=by
   rw[slices_partitionOrdered_l4_eq]
   by_cases hij:i≤j
   ·have d1:decide ((i:Int)≤(j:Int))=true:=decide_eq_true (by omega)
    have d2:decide ((j:Int)<(i:Int))=false:=decide_eq_false (by omega)
    simp only[d1,d2,cond_true,cond_false]
    rw[cmp_of hj hz]
    cases Op.bytesLess (l.getD j []) (l.getD z []) with
    |false=>
     simp only[Bool.not_false,cond_true]
     rw[pred64 (by omega) (by omega)]
     exact (ih _ (by omega) i (j-1) l rfl h1 (by omega) hz hl).1
    |true=>
     simp only[Bool.not_true,cond_false]
     rw[swap_of (by omega) hj,w64_nat (by omega),pred64 (by omega) (by omega)]
     exact PtR.of (swp_per (by omega) hj) (ih _ (by omega) (i+1) (j-1) _ rfl (by omega) (by rw[swp_len];omega) (by rw[swp_len];exact hz) (by rw[swp_len];exact hl)).2
   ·have d1:decide ((i:Int)≤(j:Int))=false:=decide_eq_false (by omega)
    have d2:decide ((j:Int)<(i:Int))=true:=decide_eq_true (by omega)
    simp only[d1,d2,cond_true,cond_false]
    rw[swap_of hj hz (fun m=>some (m,(j:Int),false))]
    exact ⟨_,j,_,rfl,swp_per hj hz,hj⟩
  refine ⟨p4,?_⟩
  rw[slices_partitionOrdered_l2_eq]
  by_cases hij:i≤j
  ·have d1:decide ((i:Int)≤(j:Int))=true:=decide_eq_true (by omega)
   simp only[d1,cond_true]
   rw[cmp_of (by omega) hz]
   cases Op.bytesLess (l.getD i []) (l.getD z []) with
   |true=>
    simp only[cond_true]
    rw[w64_nat (by omega)]
    exact (ih _ (by omega) (i+1) j l rfl (by omega) hj hz hl).2
   |false=>simpa only[cond_false] using p4
  ·have d1:decide ((i:Int)≤(j:Int))=false:=decide_eq_false (by omega)
   simpa only[d1,cond_false] using p4
theorem ptn01 {z:Nat}:∀ (m i j:Nat) (l:List Str),j+1-i=m→1≤i→j<l.length→z<l.length→l.length<9223372036854775806 →
  PtR l (slices_partitionOrdered_l1 z i j l)∧PtR l (slices_partitionOrdered_l0 z i j l):=by
 intro m
 induction m using Nat.strongRecOn with
 |_ m ih=>
  intro i j l hm h1 hj hz hl
  have p4:PtR l (slices_partitionOrdered_l1 z i j l):=by
   rw[slices_partitionOrdered_l1_eq]
   by_cases hij:i≤j
   ·have d1:decide ((i:Int)≤(j:Int))=true:=decide_eq_true (by omega)
    have d2:decide ((j:Int)<(i:Int))=false:=decide_eq_false (by omega)
    simp only[d1,d2,cond_true,cond_false]
    rw[cmp_of hj hz]
    cases Op.bytesLess (l.getD j []) (l.getD z []) with
    |false=>
     simp only[Bool.not_false,cond_true]
     rw[pred64 (by omega) (by omega)]
     exact (ih _ (by omega) i (j-1) l rfl h1 (by omega) hz hl).1
    |true=>
     simp only[Bool.not_true,cond_false]
     rw[swap_of (by omega) hj,w64_nat (by omega),pred64 (by omega) (by omega)]
     exact PtR.of (swp_per (by omega) hj) (ptn24 _ (i+1) (j-1) _ rfl (by omega) (by rw[swp_len];omega) (by rw[swp_len];exact hz) (by rw[swp_len];exact hl)).2
   ·have d1:decide ((i:Int)≤(j:Int))=false:=decide_eq_false (by omega)
    have d2:decide ((j:Int)<(i:Int))=true:=decide_eq_true (by omega)
    simp only[d1,d2,cond_true,cond_false]
    rw[swap_of hj hz (fun m=>some (m,(j:Int),true))]
    exact ⟨_,j,_,rfl,swp_per hj hz,hj⟩
  refine ⟨p4,?_⟩
  rw[slices_partitionOrdered_l0_eq]
  by_cases hij:i≤j
  ·have d1:decide ((i:Int)≤(j:Int))=true:=decide_eq_true (by omega)
   simp only[d1,cond_true]
   rw[cmp_of (by omega) hz]
   cases Op.bytesLess (l.getD i []) (l.getD z []) with
   |true=>
    simp only[cond_true]
    rw[w64_nat (by omega)]
    exact (ih _ (by omega) (i+1) j l rfl (by omega) hj hz hl).2
   |false=>simpa only[cond_false] using p4
  ·have d1:decide ((i:Int)≤(j:Int))=false:=decide_eq_false (by omega)
   simpa only[d1,cond_false] using p4
theorem ptn_ok {l:List Str} (h:l.length=13) {p:Nat} (hp:p<13):PtR l (slices_partitionOrdered l 0 13 p):=by
 rw[slices_partitionOrdered_eq]
 have w1:w64 (0+1)=((1:Nat):Int):=by decide
 have w2:w64 (13-1)=((12:Nat):Int):=by decide
 have e0:(0:Int)=((0:Nat):Int):=rfl
 rw[w1,w2,e0,swap_of (by omega) (by omega)]
 exact PtR.of (swp_per (by omega) (by omega)) (ptn01 _ 1 12 _ rfl (by omega) (by rw[swp_len];omega) (by rw[swp_len];omega) (by rw[swp_len];omega)).2
theorem pdq_small {l:List Str} {lo hi:Nat} {lim:Int} {b c:Bool} (h:hi≤l.length) (hlo:lo<9223372036854775806) (hl:l.length<9223372036854775806) (h12:(hi:Int)-lo≤12):∃ l',Per l l'∧slices_pdqsortOrdered_l0 lo hi lim b c l=some l':=by
 obtain ⟨l',h1,h2⟩:=ins_ok (lo:=lo) h hlo hl
 refine ⟨l',h1,?_⟩
 rw[slices_pdqsortOrdered_l0_eq,w64_id (by omega) (by omega),decide_eq_true h12,cond_true,h2]
 rfl
theorem pdq_tail {l:List Str} (h:l.length=13) {p:Nat} (hp:p<13) {lim:Int} (K:Bool×Bool→Bool×Bool):∃ l',Per l l' ∧
  ((slices_partitionOrdered l 0 13 p).bind fun x1=>cond (decide ((w64 (x1.2.1-0))<(w64 (13-x1.2.1)))) ((slices_pdqsortOrdered x1.1 0 x1.2.1 lim).bind fun x2=>slices_pdqsortOrdered_l0 (w64 (x1.2.1+1)) 13 lim (decide ((w64 (Int.tdiv (w64 (13-0)) 8))≤(w64 (x1.2.1-0)))) x1.2.2 x2) ((slices_pdqsortOrdered x1.1 (w64 (x1.2.1+1)) 13 lim).bind fun x2=>slices_pdqsortOrdered_l0 0 x1.2.1 lim (decide ((w64 (Int.tdiv (w64 (13-0)) 8))≤(w64 (13-x1.2.1)))) x1.2.2 x2))=some l':=by
 obtain ⟨l1,mid,b,e,h1,hm⟩:=ptn_ok h hp
 rw[e,Option.bind_some]
 simp only
 have hl1:l1.length=13:=h1.len.trans h
 have hmid:mid<13:=by omega
 rw[w64_nat (by omega)]
 have e0:(0:Int)=((0:Nat):Int):=rfl
 have e13:(13:Int)=((13:Nat):Int):=rfl
 cases decide (w64 ((mid:Int)-0)<w64 (13-(mid:Int))) with
 |true=>
  simp only[cond_true]
  obtain ⟨l2,k1,k2⟩:=pdq_small (l:=l1) (lo:=0) (hi:=mid) (lim:=lim) (b:=true) (c:=true) (by omega) (by omega) (by omega) (by omega)
  obtain ⟨l3,k3,k4⟩:=pdq_small (l:=l2) (lo:=mid+1) (hi:=13) (lim:=lim) (b:=decide (w64 (Int.tdiv (w64 (13-0)) 8)≤w64 ((mid:Int)-0))) (c:=b) (by rw[k1.len];omega) (by omega) (by rw[k1.len];omega) (by omega)
  refine ⟨l3,(h1.trans k1).trans k3,?_⟩
  rw[slices_pdqsortOrdered_eq]
  have k2:slices_pdqsortOrdered_l0 0 (mid:Int) lim true true l1=some l2:=k2
  rw[k2,Option.bind_some]
  exact k4
 |false=>
  simp only[cond_false]
  obtain ⟨l2,k1,k2⟩:=pdq_small (l:=l1) (lo:=mid+1) (hi:=13) (lim:=lim) (b:=true) (c:=true) (by omega) (by omega) (by omega) (by omega)
  obtain ⟨l3,k3,k4⟩:=pdq_small (l:=l2) (lo:=0) (hi:=mid) (lim:=lim) (b:=decide (w64 (Int.tdiv (w64 (13-0)) 8)≤w64 (13-(mid:Int)))) (c:=b) (by rw[k1.len];omega) (by omega) (by rw[k1.len];omega) (by omega)
  refine ⟨l3,(h1.trans k1).trans k3,?_⟩
  rw[slices_pdqsortOrdered_eq]
  have k2:slices_pdqsortOrdered_l0 ((mid+1:Nat):Int) 13 lim true true l1=some l2:=k2
  rw[k2,Option.bind_some]
  exact k4
theorem pdq_13 {l:List Str} (h:l.length=13):∃ l',Per l l'∧slices_pdqsortOrdered_l0 0 13 4 true true l=some l':=by
 rw[slices_pdqsortOrdered_l0_eq]
 have w0:w64 (13-0)=13:=by decide
 have d1:decide ((13:Int)≤12)=false:=rfl
 have d2:((4:Int)==0)=false:=rfl
 have d3:decide ((0:Int)<0)=false:=rfl
 simp only[w0,d1,d2,d3,cond_false,cond_true,Bool.not_true]
 obtain ⟨p,hint,e,hp⟩:=pivot_ok h
 rw[e,Option.bind_some]
 simp only
 have hq:w64 (w64 (13-1)-w64 ((p:Int)-0))=((12-p:Nat):Int):=by
  rw[w64_id (n:=13-1) (by omega) (by omega),w64_id (n:=(p:Int)-0) (by omega) (by omega),w64_id (by omega) (by omega)]
  omega
 have tl:=fun (m:List Str) (hm:m.length=13) (q:Nat) (hq:q<13)=>pdq_tail hm hq (lim:=4) id
 simp only[w0] at tl
 cases hint==2 with
 |true=>
  simp only[cond_true]
  obtain ⟨l1,h1,h2⟩:=rev_ok (lo:=0) (hi:=13) (l:=l) (by omega) (by omega) (by omega)
  have h2:slices_reverseRangeOrdered l 0 13=some l1:=h2
  rw[h2,Option.bind_some]
  have hl1:l1.length=13:=h1.len.trans h
  obtain ⟨b,hb⟩:=part_ok hl1
  rw[hb,Option.bind_some]
  cases b with
  |true=>exact ⟨l1,h1,rfl⟩
  |false=>
   simp only[cond_false]
   rw[hq]
   obtain ⟨l',k1,k2⟩:=tl l1 hl1 (12-p) (by omega)
   exact ⟨l',h1.trans k1,k2⟩
 |false=>
  simp only[cond_false]
  cases hint==1 with
  |true=>
   simp only[cond_true]
   obtain ⟨b,hb⟩:=part_ok h
   rw[hb,Option.bind_some]
   cases b with
   |true=>exact ⟨l,.rfl',rfl⟩
   |false=>
    simp only[cond_false]
    exact tl l h p hp
  |false=>
   simp only[cond_false]
   exact tl l h p hp
end X
namespace X
open Go TM
open TM.Dat (size okd inr)
theorem bits13:math_bits_Len (IntKind.u64.wrap 13)=some 4:=by
 rw[math_bits_Len_eq,math_bits_Len64_eq]
 rfl
theorem bits_some:∀ n:Nat,n≤13→∃ v,math_bits_Len (IntKind.u64.wrap (n:Int))=some v:=by
 intro n hn
 rw[math_bits_Len_eq,math_bits_Len64_eq]
 match n,hn with
 |0,_=>exact ⟨_,rfl⟩
 |1,_=>exact ⟨_,rfl⟩
 |2,_=>exact ⟨_,rfl⟩
 |3,_=>exact ⟨_,rfl⟩
 |4,_=>exact ⟨_,rfl⟩
 |5,_=>exact ⟨_,rfl⟩
 |6,_=>exact ⟨_,rfl⟩
 |7,_=>exact ⟨_,rfl⟩
 |8,_=>exact ⟨_,rfl⟩
 |9,_=>exact ⟨_,rfl⟩
 |10,_=>exact ⟨_,rfl⟩
 |11,_=>exact ⟨_,rfl⟩
 |12,_=>exact ⟨_,rfl⟩
 |13,_=>exact ⟨_,rfl⟩
 |n+14,h=>omega
theorem sort13_ok {l:List Str} (h:l.length≤13):∃ l',Per l l'∧slices_Sort l=some l':=by
 rw[slices_Sort_eq]
 by_cases h13:l.length=13
 ·obtain ⟨l',h1,h2⟩:=pdq_13 h13
  refine ⟨l',h1,?_⟩
  have e:(l.length:Int)=13:=by omega
  rw[e,bits13,Option.bind_some,slices_pdqsortOrdered_eq,h2]
  rfl
 ·obtain ⟨v,hv⟩:=bits_some l.length h
  obtain ⟨l',h1,h2⟩:=pdq_small (l:=l) (lo:=0) (hi:=l.length) (lim:=v) (b:=true) (c:=true) (Nat.le_refl _) (by omega) (by omega) (by omega)
  refine ⟨l',h1,?_⟩
  have h2:slices_pdqsortOrdered_l0 0 (l.length:Int) v true true l=some l':=h2
  rw[hv,Option.bind_some,slices_pdqsortOrdered_eq,h2]
  rfl
theorem atW_of {ρ:Type} {l:List Str} {x y j:Nat} (h1:x+j<l.length) (h2:j<y-x) (k:Nat→Str→Option ρ):atW l x y (j:Int) k=k (x+j) (l.getD (x+j) []):=by
 unfold atW
 rw[if_pos ⟨by omega,by omega⟩,Int.toNat_natCast,getL h1]
theorem mem_take_succ {l:List Str} {w:Nat} (h:w<l.length) {s:Str}:s∈l.take (w+1)↔s∈l.take w∨s=l.getD w []:=by
 rw[List.take_add_one,getL h]
 simp
theorem mem_drop {l:List Str} {w:Nat} (h:w<l.length) {s:Str}:s∈l.drop w↔s=l.getD w []∨s∈l.drop (w+1):=by
 rw[List.drop_eq_getElem_cons h,List.mem_cons]
 have:l.getD w []=l[w]:=by simp [List.getD,h]
 rw[this]
theorem comp_l1_ok {base:Nat}:∀ (m k w:Nat) (l:List Str),l.length-base-k=m→base+k≤l.length→1≤w→1≤k→w+1≤base+k→l.length<9223372036854775806→l.getD (base+k-1) []∈l.take w →
  ∃ r,slices_Compact_l1 w base l.length k l=some ((),r)∧r.length≤l.length∧∀ s,s∈r↔s∈l.take w∨s∈l.drop (base+k):=by
 intro m
 induction m with
 |zero=>
  intro k w l hm hb hw hk hwk hl hmem
  have hbk:base+k=l.length:=by omega
  refine ⟨(clr l w l.length []).take w,?_,?_,fun s=>?_⟩
  ·rw[slices_Compact_l1_eq]
   have d:decide ((k:Int)<(((l.length:Int).toNat-(base:Int).toNat:Nat):Int))=false:=decide_eq_false (by rw[Int.toNat_natCast,Int.toNat_natCast];omega)
   rw[d,cond_false,win_of (by omega) (Nat.le_refl _)]
   have hcl:(clr l w l.length []).length=l.length:=by simp [clr];omega
   have e0:(0:Int)=((0:Nat):Int):=rfl
   rw[e0,win_of (Nat.zero_le _) (by rw[hcl];omega)]
   have hw0:decide (0<w)=true:=decide_eq_true (by omega)
   simp [hw0]
  ·have hcl:(clr l w l.length []).length=l.length:=by simp [clr];omega
   rw[List.length_take,hcl];omega
  ·have ht:(clr l w l.length []).take w=l.take w:=by
    unfold clr
    rw[List.append_assoc,List.take_append_of_le_length (by simp;omega),List.take_take,Nat.min_self]
   rw[ht,hbk,List.drop_eq_nil_of_le (Nat.le_refl _)]
   simp
 |succ m ih=>
  intro k w l hm hb hw hk hwk hl hmem
  have hlt:base+k<l.length:=by omega
  rw[slices_Compact_l1_eq]
  have d:decide ((k:Int)<(((l.length:Int).toNat-(base:Int).toNat:Nat):Int))=true:=decide_eq_true (by rw[Int.toNat_natCast,Int.toNat_natCast];omega)
  rw[d]
  simp only[cond_true,Int.toNat_natCast]
  rw[atW_of hlt (by omega),atN_of (getL hlt),pred64 (by omega) (by omega),atW_of (by omega) (by omega),atN_of (getL (by omega)),w64_nat (n:=k) (by omega)]
  have hk1:base+(k-1)=base+k-1:=by omega
  rw[hk1]
  cases hb2:(l.getD (base+k) []==l.getD (base+k-1) []) with
  |true=>
   have he:=eq_of_beq hb2
   simp only[Bool.not_true,cond_false]
   obtain ⟨r,h1,h2,h3⟩:=ih (k+1) w l (by omega) (by omega) hw (by omega) (by omega) hl (by rw[show base+(k+1)-1=base+k by omega,he];exact hmem)
   refine ⟨r,h1,h2,fun s=>?_⟩
   rw[h3,mem_drop hlt]
   constructor
   ·rintro (h | h)
    ·exact .inl h
    ·exact .inr (.inr h)
   ·rintro (h | h | h)
    ·exact .inl h
    ·left;rw[h,he];exact hmem
    ·exact .inr h
  |false=>
   simp only[Bool.not_false,cond_true]
   rw[atW_of hlt (by omega),atN_of (getL hlt),at_of (getL (show w<l.length by omega)),atN_of (getL (show w<l.length by omega)),atN_of (getL (show w<l.length by omega)),w64_nat (n:=w) (by omega)]
   have hsl:(l.set w (l.getD (base+k) [])).length=l.length:=by simp
   have hgd:∀ q,w<q→(l.set w (l.getD (base+k) [])).getD q []=l.getD q []:=by
    intro q hq
    simp [List.getD,List.getElem?_set_ne (show w≠q by omega)]
   have htk:∀ s,s∈(l.set w (l.getD (base+k) [])).take (w+1)↔s∈l.take w∨s=l.getD (base+k) []:=by
    intro s
    rw[mem_take_succ (by rw[hsl];omega),List.take_set_of_le (Nat.le_refl w)]
    have:(l.set w (l.getD (base+k) [])).getD w []=l.getD (base+k) []:=by
     rw[List.getD,List.getElem?_set_self (by omega)];rfl
    rw[this]
   obtain ⟨r,h1,h2,h3⟩:=ih (k+1) (w+1) (l.set w (l.getD (base+k) [])) (by rw[hsl];omega) (by rw[hsl];omega) (by omega) (by omega) (by omega) (by rw[hsl];exact hl) (by
    rw[show base+(k+1)-1=base+k by omega,hgd _ (by omega),htk]
    exact .inr rfl)
   rw[hsl] at h1 h2
   refine ⟨r,h1,h2,fun s=>?_⟩
   rw[h3,htk,mem_drop hlt,List.drop_set_of_lt (by omega)]
   constructor
   ·rintro ((h | h) | h)
    ·exact .inl h
    ·exact .inr (.inl h)
    ·exact .inr (.inr h)
   ·rintro (h | h | h)
    ·exact .inl (.inl h)
    ·exact .inl (.inr h)
    ·exact .inr h
theorem comp_l0_ok {l:List Str} (hl:l.length<9223372036854775806):∀ (m k:Nat),l.length-k=m→1≤k→∃ r,slices_Compact_l0 k l=some ((),r)∧r.length≤l.length∧∀ s,s∈r↔s∈l:=by
 intro m
 induction m with
 |zero=>
  intro k hm hk
  refine ⟨l,?_,Nat.le_refl _,fun _=>Iff.rfl⟩
  rw[slices_Compact_l0_eq,decide_eq_false (by omega)]
  rfl
 |succ m ih=>
  intro k hm hk
  have hlt:k<l.length:=by omega
  rw[slices_Compact_l0_eq,decide_eq_true (by omega),cond_true,at_of (getL hlt),atN_of (getL hlt),pred64 (by omega) (by omega),at_of (getL (show k-1<l.length by omega)),atN_of (getL (show k-1<l.length by omega)),w64_nat (by omega)]
  cases hb:(l.getD k []==l.getD (k-1) []) with
  |false=>
   simp only[cond_false]
   exact ih (k+1) (by omega) (by omega)
  |true=>
   have he:=eq_of_beq hb
   simp only[cond_true]
   rw[win_of (by omega) (Nat.le_refl _)]
   have hprev:l.getD (k-1) []∈l.take k:=by
    rw[show k=(k-1)+1 by omega,mem_take_succ (by omega)]
    exact .inr rfl
   obtain ⟨r,h1,h2,h3⟩:=comp_l1_ok (base:=k) _ 1 k l rfl (by omega) hk (Nat.le_refl _) (by omega) hl (by rw[Nat.add_sub_cancel,he];exact hprev)
   refine ⟨r,h1,h2,fun s=>?_⟩
   rw[h3]
   conv=>rhs;rw[← List.take_append_drop k l,List.mem_append,mem_drop hlt]
   constructor
   ·rintro (h | h)
    ·exact .inl h
    ·exact .inr (.inr h)
   ·rintro (h | h | h)
    ·exact .inl h
    ·left;rw[h,he];exact hprev
    ·exact .inr h
theorem compact_ok {l:List Str} (hl:l.length<9223372036854775806):∃ r,slices_Compact l=some ((),r)∧r.length≤l.length∧∀ s,s∈r↔s∈l:=by
 rw[slices_Compact_eq]
 cases decide ((l.length:Int)<2) with
 |true=>exact ⟨l,rfl,Nat.le_refl _,fun _=>Iff.rfl⟩
 |false=>
  have e1:(1:Int)=((1:Nat):Int):=rfl
  rw[cond_false,e1]
  exact comp_l0_ok hl _ 1 rfl (Nat.le_refl _)
theorem clone1_ok {l:List Str} (h:l.length≤1073741824):slices_Clone_1 l=some l:=by
 rw[slices_Clone_1_eq]
 have e:(app_ ([]:List Str) l fun x0=>some x0)=some l:=by rw[app_of (by simpa using h)];rfl
 rw[e]
 cases l with
 |nil=>simp [both_]
 |cons x xs=>
  have:decide (0<((x :: xs).length:Int))=true:=decide_eq_true (by simp)
  rw[this,cond_true]
theorem impl_SortNames_ok {l:List Str} (h:l.length≤13):∃ r,impl_SortNames l=some r∧r.length≤l.length∧∀ s,s∈r↔s∈l:=by
 obtain ⟨l',h1,h2⟩:=sort13_ok h
 have hl':=h1.len
 obtain ⟨r,k1,k2,k3⟩:=compact_ok (l:=l') (by omega)
 refine ⟨r,?_,by omega,fun s=>(k3 s).trans (h1.mem s)⟩
 rw[impl_SortNames_eq,clone1_ok (by omega),Option.bind_some,h2,Option.bind_some,k1]
 rfl
theorem impl_allIn_ok {l m:List Str} (h:l.length≤9223372036854775806) (hm:m.length≤9223372036854775806):impl_allIn l m=some (l.all fun s=>hasN m s):=by
 have hc:slices_ContainsFunc_7 l m=some (l.any fun s=>!hasN m s):=by
  rw[slices_ContainsFunc_7_eq,slices_IndexFunc_8_eq]
  exact idxLoop (F:=fun i=>slices_IndexFunc_8_l0 l m l.length i) (fun i=>slices_IndexFunc_8_l0_eq l m _ i) (fun x hx=>by rw[impl_allIn_1_eq,slices_Contains_ok hm];rfl) (by omega)
 rw[impl_allIn_eq,hc,Option.bind_some]
 congr 1
 rw[Bool.eq_iff_iff]
 simp
end X
namespace X
open Go TM
open TM.Dat (size okd inr)
abbrev Lins:=Ty6
abbrev Fun1:=Str×List Str×Bool×Lins
abbrev Pat:=Str×Bool×Str×Str
abbrev Arg:=Bool×Sums×Str
abbrev Call1:=Str×Str×List Arg
abbrev Rule1:=Str×List Pat×Sums×List Call1×Bool×Sums×Str
def dist (pre:List Str):List Str→Bool
 |[]=>true
 |x :: r=>!hasN pre x&&dist (pre++[x]) r
theorem take_succ_of {α:Type} {l:List α} {k:Nat} {x:α} (h:l[k]?=some x):l.take (k+1)=l.take k++[x]:=by rw[List.take_add_one,h];rfl
theorem spec_AllDistinct_ok {l:List Str} (hl:l.length≤9223372036854775806):spec_AllDistinct l=some (dist [] l):=by
 have:=loopD l (fun k s=>spec_AllDistinct_l0 l (k:Int)=some (dist (l.take k) s))
  (by rw[spec_AllDistinct_l0_eq];simp [dist])
  (fun k x suf hd hx hk ih=>by
   rw[spec_AllDistinct_l0_eq,subL (by omega),at_of hx,spec_l1Has_ok (by rw[List.length_take];omega),Option.bind_some,w64_nat (by omega),ih,take_succ_of hx]
   simp only[hk,Int.ofNat_lt,decide_true,cond_true,dist]
   cases hasN (l.take k) x<;>rfl)
 rw[spec_AllDistinct_eq]
 exact this
theorem impl_AllDistinct_ok {l:List Str} (hl:l.length≤9223372036854775806):impl_AllDistinct l=some (dist [] l):=by
 have:=loopD l (fun k s=>impl_AllDistinct_l0 l l l.length (k:Int)=some (dist (l.take k) s))
  (by rw[impl_AllDistinct_l0_eq];simp [dist])
  (fun k x suf hd hx hk ih=>by
   rw[impl_AllDistinct_l0_eq,at_of hx,subL (by omega),slices_Contains_ok (by rw[List.length_take];omega),Option.bind_some,w64_nat (by omega),ih,take_succ_of hx]
   simp only[hk,Int.ofNat_lt,decide_true,cond_true,dist]
   cases hasN (l.take k) x<;>rfl)
 rw[impl_AllDistinct_eq]
 exact this
def foundF (fs:List Fun1) (s:Str):Str×List Str×Bool×Lins×Bool:=match fs.find? (fun f=>f.1==s) with
 |some f=>(f.1,f.2.1,f.2.2.1,f.2.2.2,true)
 |none=>([],[],false,[],false)
theorem size_fun {f:Fun1} {fs:List Fun1} (h:size fs≤1048576) (hf:f∈fs):f.1.length+f.2.1.length+size f.2.1+size f.2.2.2≤2097152∧size f.2.1≤1048576∧size f.2.2.2≤1048576∧f.1.length≤1048576:=by
 have h1:=size_mem hf
 obtain ⟨a,b,c,d⟩:=f
 rw[size_prod,size_prod,size_prod,size_str,size_bool] at h1
 have:=len_size b
 show a.length+b.length+size b+size d≤_∧size b≤_∧size d≤_∧a.length≤_
 omega
theorem lin_len {x:Int×Ty11} {ls:Lins} (h:size ls≤1048576) (hx:x∈ls):x.2.length≤1048576:=by
 have h1:=size_mem hx
 obtain ⟨c,s⟩:=x
 rw[size_prod,size_ints] at h1
 show s.length≤_
 omega
theorem str_len {x:Str} {ls:List Str} (h:size ls≤1048576) (hx:x∈ls):x.length≤1048576:=by
 have h1:=size_mem hx
 rw[size_str] at h1
 omega
theorem spec_l10Function_ok {a:Str} {ps:List Str} {b:Bool} {ls:Lins} (h1:ps.length≤1048576) (h:size ls≤1048576):spec_l10Function a ps b ls=some (a,ps,b,ls):=by
 have hl:ls.length≤1048576:=Nat.le_trans (len_size ls) h
 have:=loopD ls (fun k s=>∀ acc:Lins,acc=ls.take k→spec_l10Function_l0 (k:Int) a ps b ls [] [] false [] a ps b acc=some (a,ps,b,ls))
  (fun acc ha=>by
   rw[spec_l10Function_l0_eq,ha,List.take_length]
   simp)
  (fun k x suf hd hx hk ih acc ha=>by
   have hx2:=lin_len h (List.mem_of_getElem? hx)
   rw[spec_l10Function_l0_eq,at_of hx,spec_l4Copy_eq,app_of (by simp;omega),List.nil_append,Option.bind_some,app_of (by rw[ha];simp;omega),w64_nat (by omega),ih _ (by rw[ha,take_succ_of hx])]
   simp [hk])
 rw[spec_l10Function_eq,app_of (by simp;omega),List.nil_append]
 exact this [] (by simp)
theorem impl_copyLins_ok {ls:Lins} (h:size ls≤1048576):impl_copyLins ls=some ls:=by
 have hl:ls.length≤1048576:=Nat.le_trans (len_size ls) h
 have:=loopD ls (fun k s=>∀ acc:Lins,acc=ls.take k→impl_copyLins_l0 ls ls.length (k:Int) acc=some ls)
  (fun acc ha=>by
   rw[impl_copyLins_l0_eq,ha,List.take_length]
   simp)
  (fun k x suf hd hx hk ih acc ha=>by
   have hx2:=lin_len h (List.mem_of_getElem? hx)
   rw[impl_copyLins_l0_eq,at_of hx,impl_copyLin_eq,slices_Clone_ok (by omega),Option.bind_some,Option.bind_some,app_of (by rw[ha];simp;omega),w64_nat (by omega),ih _ (by rw[ha,take_succ_of hx])]
   simp [hk])
 rw[impl_copyLins_eq]
 exact this [] (by simp)
theorem impl_copyFunction_ok {a:Str} {ps:List Str} {b:Bool} {ls:Lins} (h1:ps.length≤1048576) (h:size ls≤1048576):impl_copyFunction a ps b ls=some (a,ps,b,ls):=by
 rw[impl_copyFunction_eq,clone1_ok (by omega),Option.bind_some,impl_copyLins_ok h]
 rfl
theorem spec_FindFunction_ok {fs:List Fun1} {rs:List Rule1} {s:Str} (h:size fs≤1048576):spec_FindFunction fs rs s=some (foundF fs s):=by
 have hl:fs.length≤1048576:=Nat.le_trans (len_size fs) h
 have:=loopD fs (fun k suf=>spec_FindFunction_l0 s (k:Int) fs rs [] [] false []=some (foundF suf s))
  (by rw[spec_FindFunction_l0_eq];simp [foundF])
  (fun k x suf hd hx hk ih=>by
   have hs:=size_fun h (List.mem_of_getElem? hx)
   have hp:=len_size x.2.1
   rw[spec_FindFunction_l0_eq,at_of hx,at_of hx,spec_l10Function_ok (by omega) hs.2.2.1,Option.bind_some,w64_nat (by omega),ih]
   simp only[hk,Int.ofNat_lt,decide_true,cond_true,foundF,List.find?_cons]
   cases x.1==s<;>rfl)
 rw[spec_FindFunction_eq]
 exact this
def idxF (fs:List Fun1) (s:Str):Int:=match fs.findIdx? (fun f=>f.1==s) with
 |some i=>(i:Int)
 |none=>-1
theorem impl_functionAt_ok {fs:List Fun1} {rs:List Rule1} {s:Str} (h:fs.length≤1048576):impl_functionAt fs rs s=some (idxF fs s):=by
 have:=loopD fs (fun k suf=>slices_IndexFunc_5_l0 fs s fs.length (k:Int)=some (match suf.findIdx? (fun f=>f.1==s) with
   |some i=>((i+k:Nat):Int)
   |none=>-1))
  (by rw[slices_IndexFunc_5_l0_eq];simp)
  (fun k x suf hd hx hk ih=>by
   rw[slices_IndexFunc_5_l0_eq,at_of hx,impl_functionAt_1_eq,Option.bind_some,w64_nat (by omega),ih]
   simp only[hk,Int.ofNat_lt,decide_true,cond_true,List.findIdx?_cons]
   cases x.1==s with
   |true=>simp
   |false=>
    cases suf.findIdx? (fun f=>f.1==s) with
    |none=>rfl
    |some i=>
     show some (((i+(k+1):Nat):Int))=some (((i+1+k:Nat):Int))
     congr 2
     omega)
 rw[impl_functionAt_eq,slices_IndexFunc_5_eq,show (0:Int)=((0:Nat):Int) from rfl,this]
 rfl
theorem impl_FindFunction_ok {fs:List Fun1} {rs:List Rule1} {s:Str} (h:size fs≤1048576):impl_FindFunction fs rs s=some (foundF fs s):=by
 have hl:fs.length≤1048576:=Nat.le_trans (len_size fs) h
 rw[impl_FindFunction_eq,impl_functionAt_ok hl,Option.bind_some]
 unfold idxF foundF
 cases hi:fs.findIdx? (fun f=>f.1==s) with
 |none=>
  have:fs.find? (fun f=>f.1==s)=none:=by
   rw[List.find?_eq_none]
   intro f hf
   rw[List.findIdx?_eq_none_iff] at hi
   simpa using hi f hf
  rw[this]
  rfl
 |some i=>
  obtain ⟨hil,hp,hq⟩:=List.findIdx?_eq_some_iff_getElem.1 hi
  have hx:fs[i]?=some fs[i]:=List.getElem?_eq_getElem hil
  have hf:fs.find? (fun f=>f.1==s)=some fs[i]:=by
   rw[List.find?_eq_some_iff_getElem]
   exact ⟨hp,i,hil,rfl,fun j hj=>by simpa using hq j hj⟩
  have hs:=size_fun h (List.mem_of_getElem? hx)
  have hpl:=len_size fs[i].2.1
  rw[hf]
  have hn:decide ((i:Int)<0)=false:=decide_eq_false (by omega)
  simp only[hn,cond_false]
  rw[at_of hx,impl_copyFunction_ok (by omega) hs.2.2.1]
  rfl
end X
namespace X
open Go TM
open TM.Dat (size okd inr)
theorem idx_ok {l:List Str} {s:Str} (hl:l.length≤1048576):∃ v:Int,spec_IndexOf l s=some v∧decide (v<0)=!hasN l s∧decide (0≤v)=hasN l s:=by
 have:=loopD l (fun k suf=>∃ v:Int,spec_IndexOf_l0 l s (k:Int)=some v∧decide (v<0)=!hasN suf s∧decide (0≤v)=hasN suf s)
  ⟨-1,by rw[spec_IndexOf_l0_eq];simp,rfl,rfl⟩
  (fun k x suf hd hx hk ih=>by
   obtain ⟨v,h1,h2,h3⟩:=ih
   cases hb:x==s with
   |true=>
    refine ⟨(k:Int),?_,?_,?_⟩
    ·rw[spec_IndexOf_l0_eq,at_of hx,hb]
     simp [hk]
    ·simp [hasN,hb]
    ·simp [hasN,hb]
   |false=>
    refine ⟨v,?_,?_,?_⟩
    ·rw[spec_IndexOf_l0_eq,at_of hx,hb,w64_nat (by omega),h1]
     simp [hk]
    ·rw[h2];simp [hasN,hb]
    ·rw[h3];simp [hasN,hb])
 rw[spec_IndexOf_eq]
 exact this
theorem pat_len {q:Pat} {ps:List Pat} (h:size ps≤1048576) (hq:q∈ps):q.1.length≤1048576∧q.2.2.1.length≤1048576∧q.2.2.2.length≤1048576:=by
 have h1:=size_mem hq
 obtain ⟨a,b,c,d⟩:=q
 rw[size_prod,size_prod,size_prod,size_str,size_str,size_str] at h1
 show a.length≤_∧c.length≤_∧d.length≤_
 omega
def patC (q:Pat):Bool:=cond q.2.1 (vInt q.2.2.1&&vList q.2.2.2) ((q.2.2.1==[])&&(q.2.2.2==[]))
def vPats (params:List Str):List Str→List Pat→Bool
 |_,[]=>true
 |seen,q :: r=>hasN params q.1&&(vList q.1&&(!hasN seen q.1&&(patC q&&vPats params (seen++[q.1]) r)))
def heads (ps:List Pat):List Str:=ps.map (·.1)
theorem heads_succ {ps:List Pat} {k:Nat} {q:Pat} (h:ps[k]?=some q):heads (ps.take (k+1))=heads (ps.take k)++[q.1]:=by rw[take_succ_of h];simp [heads]
theorem spec_pats_ok {a:Str} {params:List Str} {b:Bool} {ls:Lins} {ps:List Pat} (h:size ps≤1048576) (hp:params.length≤1048576):spec_l10Patterns a params b ls ps=some (vPats params [] ps):=by
 have hl:ps.length≤1048576:=Nat.le_trans (len_size ps) h
 have:=loopD ps (fun k s=>spec_l10Patterns_l0 ps (k:Int) a params b ls (heads (ps.take k))=some (vPats params (heads (ps.take k)) s))
  (by rw[spec_l10Patterns_l0_eq];simp [vPats])
  (fun k q suf hd hx hk ih=>by
   have hq:=pat_len h (List.mem_of_getElem? hx)
   have hh:(heads (ps.take k)).length=k:=by simp [heads];omega
   obtain ⟨v,e1,e2,e3⟩:=idx_ok (l:=params) (s:=q.1) hp
   obtain ⟨u,f1,f2,f3⟩:=idx_ok (l:=heads (ps.take k)) (s:=q.1) (by omega)
   rw[spec_l10Patterns_l0_eq,at_of hx,e1,Option.bind_some,e2,spec_IsListName_ok (by omega),Option.bind_some,f1,Option.bind_some,f3,app_of (by rw[hh];simp;omega),spec_l10IntName_ok (by omega),Option.bind_some,spec_IsListName_ok (by omega),Option.bind_some,w64_nat (by omega),← heads_succ hx,ih]
   simp only[hk,Int.ofNat_lt,decide_true,cond_true,vPats,patC,heads_succ hx]
   cases hasN params q.1<;>cases vList q.1<;>cases hasN (heads (ps.take k)) q.1<;>cases q.2.1<;>cases vInt q.2.2.1<;>cases vList q.2.2.2<;>cases q.2.2.1==[]<;>cases q.2.2.2==[]<;>rfl)
 rw[spec_l10Patterns_eq]
 exact this
theorem impl_pats_ok {a:Str} {params:List Str} {b:Bool} {ls:Lins} {ps:List Pat} (h:size ps≤1048576) (hp:params.length≤1048576):impl_patternsOk a params b ls ps=some (vPats params [] ps):=by
 have hl:ps.length≤1048576:=Nat.le_trans (len_size ps) h
 have:=loopD ps (fun k s=>impl_patternsOk_l0 ps ps ps.length (k:Int) a params b ls=some (vPats params (heads (ps.take k)) s))
  (by rw[impl_patternsOk_l0_eq];simp [vPats])
  (fun k q suf hd hx hk ih=>by
   have hq:=pat_len h (List.mem_of_getElem? hx)
   have hc:slices_ContainsFunc_6 (ps.take k) (q.1,q.2.1,q.2.2.1,q.2.2.2)=some (hasN (heads (ps.take k)) q.1):=by
    rw[slices_ContainsFunc_6_eq,slices_IndexFunc_7_eq]
    have:=idxLoop (a:=ps.take k) (F:=fun i=>slices_IndexFunc_7_l0 (ps.take k) q.1 q.2.1 q.2.2.1 q.2.2.2 (ps.take k).length i) (p:=fun x=>x.1==q.1) (fun i=>slices_IndexFunc_7_l0_eq _ _ _ _ _ _ i) (fun x _=>by rw[impl_patternsOk_1_eq]) (by rw[List.length_take];omega)
    refine this.trans ?_
    congr 1
    unfold hasN heads
    rw[List.any_map]
    rfl
   rw[impl_patternsOk_l0_eq,at_of hx,impl_IsListName_ok (by omega),Option.bind_some,slices_Contains_ok (by omega),Option.bind_some,subL (by omega),hc,Option.bind_some,impl_isIntName_ok (by omega),Option.bind_some,impl_IsListName_ok (by omega),Option.bind_some,w64_nat (by omega),ih]
   simp only[hk,Int.ofNat_lt,decide_true,cond_true,vPats,patC,heads_succ hx]
   cases hasN params q.1<;>cases vList q.1<;>cases hasN (heads (ps.take k)) q.1<;>cases q.2.1<;>cases vInt q.2.2.1<;>cases vList q.2.2.2<;>cases q.2.2.1==[]<;>cases q.2.2.2==[]<;>rfl)
 rw[impl_patternsOk_eq]
 exact this
def patN (ps:List Pat):List Str:=ps.flatMap fun q=>cond q.2.1 [q.2.2.1,q.2.2.2] []
def binds (cs:List Call1):List Str:=cs.map (·.1)
def scopeN (params:List Str) (ps:List Pat) (cs:List Call1) (n:Nat):List Str:=params++patN ps++binds (cs.take n)
theorem patN_len (ps:List Pat):(patN ps).length≤2 * ps.length:=by
 induction ps with
 |nil=>simp [patN]
 |cons q r ih=>
  have:(patN (q :: r)).length=(cond q.2.1 [q.2.2.1,q.2.2.2] []).length+(patN r).length:=by simp [patN]
  rw[this,List.length_cons]
  cases q.2.1<;>simp<;>omega
theorem scopeN_len {params:List Str} {ps:List Pat} {cs:List Call1} {n:Nat} (h1:params.length≤1048576) (h2:ps.length≤1048576) (h3:cs.length≤1048576):(scopeN params ps cs n).length≤4194304:=by
 have:=patN_len ps
 unfold scopeN binds
 simp
 omega
theorem patN_succ {ps:List Pat} {k:Nat} {q:Pat} (h:ps[k]?=some q):patN (ps.take (k+1))=patN (ps.take k)++cond q.2.1 [q.2.2.1,q.2.2.2] []:=by rw[take_succ_of h];simp [patN]
theorem binds_succ {cs:List Call1} {k:Nat} {c:Call1} (h:cs[k]?=some c):binds (cs.take (k+1))=binds (cs.take k)++[c.1]:=by rw[take_succ_of h];simp [binds]
theorem spec_scope_l1 {fn:Str} {ps:List Pat} {gs:Sums} {cs:List Call1} {rl:Bool} {rx:Sums} {rt:Str} {n:Nat} (hn:n≤cs.length) (hc:cs.length≤1048576) (base:List Str) (hb:base.length≤3145728) :
  spec_ScopeOf_l1 (n:Int) 0 fn ps gs cs rl rx rt base=some (base++binds (cs.take n)):=by
 have:=loopN n (fun k=>spec_ScopeOf_l1 (n:Int) (k:Int) fn ps gs cs rl rx rt (base++binds (cs.take k))=some (base++binds (cs.take n)))
  (by rw[spec_ScopeOf_l1_eq];simp)
  (fun k hk ih=>by
   have hx:cs[k]?=some (cs[k]'(by omega)):=List.getElem?_eq_getElem (by omega)
   rw[spec_ScopeOf_l1_eq,at_of hx,app_of (by simp [binds];omega),w64_nat (by omega),List.append_assoc,← binds_succ hx,ih]
   simp [hk])
 simpa [binds] using this
theorem spec_scope_ok {fs:List Fun1} {rs:List Rule1} {fn:Str} {ps:List Pat} {gs:Sums} {cs:List Call1} {rl:Bool} {rx:Sums} {rt:Str} {n:Nat} (h:size fs≤1048576) (hp:ps.length≤1048576) (hc:cs.length≤1048576) (hn:n≤cs.length)
  (hf:(foundF fs fn).2.2.2.2=true) (hpl:(foundF fs fn).2.1.length≤1048576):spec_ScopeOf fs rs fn ps gs cs rl rx rt n=some (scopeN (foundF fs fn).2.1 ps cs n):=by
 rw[spec_ScopeOf_eq,spec_FindFunction_ok h,Option.bind_some,hf,l1In_ok,Option.bind_some]
 have d1:decide ((0:Int)≤(n:Int))=true:=decide_eq_true (by omega)
 have d2:decide ((n:Int)≤(cs.length:Int))=true:=decide_eq_true (by omega)
 simp only[d1,d2,Bool.not_true,Bool.not_false,cond_true,Bool.and_self,cond_false]
 rw[app_of (by simp;omega),List.nil_append]
 have:=loopD ps (fun k s=>spec_ScopeOf_l0 (n:Int) (k:Int) fn ps gs cs rl rx rt ((foundF fs fn).2.1++patN (ps.take k))=some (scopeN (foundF fs fn).2.1 ps cs n))
  (by
   have hpn:=patN_len ps
   rw[spec_ScopeOf_l0_eq,List.take_length,spec_scope_l1 hn hc _ (by rw[List.length_append];omega)]
   simp [scopeN])
  (fun k q suf hd hx hk ih=>by
   have hpn:=patN_len (ps.take k)
   have htk:(ps.take k).length=k:=by rw[List.length_take];omega
   rw[patN_succ hx] at ih
   rw[spec_ScopeOf_l0_eq,at_of hx,at_of hx,at_of hx,w64_nat (by omega)]
   simp only[hk,Int.ofNat_lt,decide_true,cond_true]
   cases hq:q.2.1 with
   |true=>
    rw[hq] at ih
    simp only[cond_true] at ih ⊢
    rw[app_of (by rw[List.length_append];simp;omega),List.append_assoc]
    exact ih
   |false=>
    rw[hq] at ih
    simp only[cond_false,List.append_nil] at ih ⊢
    exact ih)
 simpa [patN] using this
theorem impl_scope_l1 {cs:List Call1} (hc:cs.length≤1048576) (base:List Str) (hb:base.length≤3145728) :
  impl_ScopeOf_l1 cs cs.length 0 base=some (base++binds cs):=by
 have:=loopD cs (fun k s=>impl_ScopeOf_l1 cs cs.length (k:Int) (base++binds (cs.take k))=some (base++binds cs))
  (by rw[impl_ScopeOf_l1_eq];simp)
  (fun k c suf hd hx hk ih=>by
   rw[impl_ScopeOf_l1_eq,at_of hx,app_of (by simp [binds];omega),w64_nat (by omega),List.append_assoc,← binds_succ hx,ih]
   simp [hk])
 simpa [binds] using this
theorem impl_scope_ok {fs:List Fun1} {rs:List Rule1} {fn:Str} {ps:List Pat} {gs:Sums} {cs:List Call1} {rl:Bool} {rx:Sums} {rt:Str} {n:Nat} (h:size fs≤1048576) (hp:ps.length≤1048576) (hc:cs.length≤1048576) (hn:n≤cs.length)
  (hf:(foundF fs fn).2.2.2.2=true) (hpl:(foundF fs fn).2.1.length≤1048576):impl_ScopeOf fs rs fn ps gs cs rl rx rt n=some (scopeN (foundF fs fn).2.1 ps cs n):=by
 rw[impl_ScopeOf_eq,impl_FindFunction_ok h,Option.bind_some,hf,within_ok,Option.bind_some]
 have d1:decide ((0:Int)≤(n:Int))=true:=decide_eq_true (by omega)
 have d2:decide ((n:Int)≤(cs.length:Int))=true:=decide_eq_true (by omega)
 simp only[d1,d2,Bool.not_true,Bool.not_false,cond_true,Bool.and_self,cond_false]
 have:=loopD ps (fun k s=>impl_ScopeOf_l0 (n:Int) ps ps.length (k:Int) fn ps gs cs rl rx rt ((foundF fs fn).2.1++patN (ps.take k))=some (scopeN (foundF fs fn).2.1 ps cs n))
  (by
   have hpn:=patN_len ps
   have htn:(cs.take n).length=n:=by rw[List.length_take];omega
   rw[impl_ScopeOf_l0_eq,List.take_length,subL hn,impl_scope_l1 (by omega) _ (by rw[List.length_append];omega)]
   simp [scopeN])
  (fun k q suf hd hx hk ih=>by
   have hpn:=patN_len (ps.take k)
   have htk:(ps.take k).length=k:=by rw[List.length_take];omega
   rw[patN_succ hx] at ih
   rw[impl_ScopeOf_l0_eq,at_of hx,w64_nat (by omega)]
   simp only[hk,Int.ofNat_lt,decide_true,cond_true]
   cases hq:q.2.1 with
   |true=>
    rw[hq] at ih
    simp only[cond_true] at ih ⊢
    rw[app_of (by rw[List.length_append];simp;omega),List.append_assoc]
    exact ih
   |false=>
    rw[hq] at ih
    simp only[cond_false,List.append_nil] at ih ⊢
    exact ih)
 simpa [patN] using this
end X
namespace X
open Go TM
open TM.Dat (size okd inr)
theorem sum_one {g:Int×Terms} {gs:Sums} (h:size gs≤1048576) (hg:g∈gs):size [g]≤1048576:=by
 have h1:=size_mem hg
 have h2:0<gs.length:=List.length_pos_of_mem hg
 have h3:size [g]=1+size g:=by rw[size_list];show 1+(size g+0)=_;omega
 omega
theorem sub_one {α ρ:Type} {l:List α} {k:Nat} {x:α} (h:l[k]?=some x) (K:List α→Option ρ):sub_ l (k:Int) ((k+1:Nat):Int) K=K [x]:=by
 have hk:k<l.length:=(List.getElem?_eq_some_iff.1 h).1
 unfold sub_
 rw[if_pos ⟨by omega,by omega,by omega⟩]
 have:cutL l (k:Int).toNat ((k+1:Nat):Int).toNat=[x]:=by
  rw[Int.toNat_natCast,Int.toNat_natCast]
  unfold cutL
  rw[take_succ_of h]
  have:(l.take k).length=k:=by rw[List.length_take];omega
  rw[List.drop_append_of_le_length (by omega),List.drop_eq_nil_of_le (by omega)]
  rfl
 rw[this]
def vGuard (sc:List Str) (g:Int×Terms):Bool:=vSum g.1 g.2&&(namesT g.2).all fun s=>hasN sc s
theorem spec_guards_ok {gs:Sums} {sc:List Str} (h:size gs≤1048576) (hs:sc.length≤9223372036854775806):spec_l10Guards gs sc=some (gs.all (vGuard sc)&&decide (gs.length≤2)):=by
 have hl:gs.length≤1048576:=Nat.le_trans (len_size gs) h
 have:=loopD gs (fun k s=>spec_l10Guards_l0 gs sc (k:Int)=some (s.all (vGuard sc)&&decide (gs.length≤2)))
  (by
   rw[spec_l10Guards_l0_eq]
   have e2:decide ((gs.length:Int)≤2)=decide (gs.length≤2):=decide_eq_decide.2 (by omega)
   simp [e2])
  (fun k g suf hd hx hk ih=>by
   have hm:=List.mem_of_getElem? hx
   have h1:=sum_one h hm
   rw[spec_l10Guards_l0_eq,at_of hx,spec_IsValidSum_ok (size_sum h hm),Option.bind_some,w64_nat (by omega),sub_one hx,spec_l10Arg_ok h1 (by simp) hs,Option.bind_some,ih]
   have e:names [g] []=namesT g.2:=by simp [names,namesS]
   have ev:vArg false [g] []=vSum g.1 g.2:=by simp [vArg]
   rw[e,ev]
   simp only[hk,Int.ofNat_lt,decide_true,cond_true,List.all_cons,vGuard]
   cases vSum g.1 g.2<;>cases ((namesT g.2).all fun s=>hasN sc s)<;>simp)
 rw[spec_l10Guards_eq]
 exact this
def vArg1 (sc:List Str) (a:Arg) (p:Str):Bool:=vArg a.1 a.2.1 a.2.2&&((a.1==vList p)&&(names a.2.1 a.2.2).all fun s=>hasN sc s)
def vArgs (sc:List Str):List Arg→List Str→Bool
 |[],_=>true
 |a :: az,p :: ps=>vArg1 sc a p&&vArgs sc az ps
 |_ :: _,[]=>false
theorem arg_len {a:Arg} {az:List Arg} (h:size az≤1048576) (ha:a∈az):size a.2.1≤1048576∧a.2.2.length≤1048576:=by
 have h1:=size_mem ha
 obtain ⟨x,b,c⟩:=a
 rw[size_prod,size_prod,size_str] at h1
 show size b≤_∧c.length≤_
 omega
theorem vArg_names {l:Bool} {xs:Sums} {t:Str} (h:vArg l xs t=true):(names xs t).length≤13:=by
 unfold vArg at h
 rw[Bool.and_eq_true,List.all_eq_true] at h
 obtain ⟨h1,h2⟩:=h
 have h3:xs.length≤3:=by
  cases l
  ·simp at h2;omega
  ·simp at h2;omega
 have h4:∀ (ys:Sums),(∀ x∈ys,vSum x.1 x.2=true)→(namesS ys).length≤4 * ys.length:=by
  intro ys
  induction ys with
  |nil=>intro _;simp [namesS]
  |cons y ys ih=>
   intro hy
   have e:(namesS (y :: ys)).length=y.2.length+(namesS ys).length:=by simp [namesS,namesT]
   have hv:=hy y (by simp)
   unfold vSum at hv
   simp only[Bool.and_eq_true,decide_eq_true_eq] at hv
   have:=ih (fun x hx=>hy x (by simp [hx]))
   rw[e,List.length_cons]
   omega
 have h5:=h4 xs h1
 unfold names
 cases t==[]<;>simp<;>omega
theorem impl_names_in {l:Bool} {xs:Sums} {t:Str} {sc:List Str} (h:size xs≤1048576) (hv:vArg l xs t=true) (hs:sc.length≤9223372036854775806) :
  ((impl_NamesOf l xs t).bind fun x=>impl_allIn x sc)=some ((names xs t).all fun s=>hasN sc s):=by
 obtain ⟨r,h1,h2,h3⟩:=impl_SortNames_ok (vArg_names hv)
 have:=vArg_names hv
 rw[impl_names_ok h,h1,Option.bind_some,impl_allIn_ok (by omega) hs]
 congr 1
 rw[Bool.eq_iff_iff,List.all_eq_true,List.all_eq_true]
 exact ⟨fun k s hs=>k s ((h3 s).2 hs),fun k s hs=>k s ((h3 s).1 hs)⟩
theorem spec_args_ok {sc:List Str} {x y:Str} {az:List Arg} {gn:Str} {gp:List Str} {gl:Bool} {gq:Lins} (h:size az≤1048576) (hg:size gp≤1048576) (he:az.length=gp.length) (hs:sc.length≤9223372036854775806) :
  spec_l10Call_l0 sc 0 x y az gn gp gl gq=some (vArgs sc az gp):=by
 have hl:az.length≤1048576:=Nat.le_trans (len_size az) h
 have:=loopD az (fun k s=>spec_l10Call_l0 sc (k:Int) x y az gn gp gl gq=some (vArgs sc s (gp.drop k)))
  (by rw[spec_l10Call_l0_eq];simp [vArgs])
  (fun k a suf hd hx hk ih=>by
   have ha:=arg_len h (List.mem_of_getElem? hx)
   have hp:gp[k]?=some (gp[k]'(by omega)):=List.getElem?_eq_getElem (by omega)
   have hpl:=str_len hg (List.mem_of_getElem? hp)
   rw[spec_l10Call_l0_eq,at_of hx,at_of hp,atN_of hp,spec_IsListName_ok (by omega),Option.bind_some,spec_l10Arg_ok ha.1 ha.2 hs,Option.bind_some,w64_nat (by omega),ih,List.drop_eq_getElem_cons (show k<gp.length by omega)]
   simp only[hk,Int.ofNat_lt,decide_true,cond_true,vArgs,vArg1]
   cases vArg a.1 a.2.1 a.2.2<;>cases a.1==vList (gp[k]'(by omega))<;>cases ((names a.2.1 a.2.2).all fun s=>hasN sc s)<;>rfl)
 exact this
theorem impl_args_ok {sc:List Str} {az:List Arg} {gn:Str} {gp:List Str} {gl:Bool} {gq:Lins} (h:size az≤1048576) (hg:size gp≤1048576) (he:az.length=gp.length) (hs:sc.length≤9223372036854775806) :
  impl_callOk_l0 sc az az.length 0 gn gp gl gq=some (vArgs sc az gp):=by
 have hl:az.length≤1048576:=Nat.le_trans (len_size az) h
 have:=loopD az (fun k s=>impl_callOk_l0 sc az az.length (k:Int) gn gp gl gq=some (vArgs sc s (gp.drop k)))
  (by rw[impl_callOk_l0_eq];simp [vArgs])
  (fun k a suf hd hx hk ih=>by
   have ha:=arg_len h (List.mem_of_getElem? hx)
   have hp:gp[k]?=some (gp[k]'(by omega)):=List.getElem?_eq_getElem (by omega)
   have hpl:=str_len hg (List.mem_of_getElem? hp)
   rw[impl_callOk_l0_eq,at_of hx,impl_IsValidArg_ok ha.1 ha.2,Option.bind_some,at_of hp,atN_of hp,impl_IsListName_ok (by omega),Option.bind_some,w64_nat (by omega),ih,List.drop_eq_getElem_cons (show k<gp.length by omega)]
   simp only[hk,Int.ofNat_lt,decide_true,cond_true,vArgs,vArg1]
   cases hv:vArg a.1 a.2.1 a.2.2 with
   |false=>rfl
   |true=>
    cases a.1==vList (gp[k]'(by omega)) with
    |false=>rfl
    |true=>
     have hb:=impl_names_in (sc:=sc) ha.1 hv hs
     simp only[Bool.not_true,Bool.not_false,cond_true,Bool.true_and]
     have ha2:∀ (K:Bool→Option Bool),((impl_NamesOf a.1 a.2.1 a.2.2).bind fun x7=>(impl_allIn x7 sc).bind K)=(((impl_NamesOf a.1 a.2.1 a.2.2).bind fun x=>impl_allIn x sc)).bind K:=by
      intro K
      rw[Option.bind_assoc]
     rw[ha2,hb,Option.bind_some]
     cases ((names a.2.1 a.2.2).all fun s=>hasN sc s)<;>rfl)
 exact this
def vCall (fs:List Fun1) (sc:List Str) (c:Call1):Bool:=(foundF fs c.2.1).2.2.2.2&&(decide (c.2.2.length=(foundF fs c.2.1).2.1.length)&&(cond (foundF fs c.2.1).2.2.1 (vList c.1) (vInt c.1)&&vArgs sc c.2.2 (foundF fs c.2.1).2.1))
theorem found_size {fs:List Fun1} {s:Str} (h:size fs≤1048576):size (foundF fs s).2.1≤1048576∧(foundF fs s).2.1.length≤1048576:=by
 unfold foundF
 cases hf:fs.find? (fun f=>f.1==s) with
 |none=>
  simp [size_list]
  exact Nat.zero_le _
 |some f=>
  have h1:=size_fun h (List.mem_of_find?_eq_some hf)
  have:=len_size f.2.1
  show size f.2.1≤_∧f.2.1.length≤_
  omega
theorem call_len {c:Call1} {cs:List Call1} (h:size cs≤1048576) (hc:c∈cs):c.1.length≤1048576∧c.2.1.length≤1048576∧size c.2.2≤1048576:=by
 have h1:=size_mem hc
 obtain ⟨a,b,d⟩:=c
 rw[size_prod,size_prod,size_str,size_str] at h1
 show a.length≤_∧b.length≤_∧size d≤_
 omega
theorem spec_call_ok {fs:List Fun1} {rs:List Rule1} {c:Call1} {sc:List Str} (h:size fs≤1048576) (h1:c.1.length≤1048576) (h2:size c.2.2≤1048576) (hs:sc.length≤9223372036854775806) :
  spec_l10Call fs rs c.1 c.2.1 c.2.2 sc=some (vCall fs sc c):=by
 obtain ⟨g1,g2⟩:=found_size (s:=c.2.1) h
 rw[spec_l10Call_eq,spec_FindFunction_ok h,Option.bind_some,spec_IsListName_ok (by omega),spec_l10IntName_ok (by omega)]
 have e:((c.2.2.length:Int)==((foundF fs c.2.1).2.1.length:Int))=decide (c.2.2.length=(foundF fs c.2.1).2.1.length):=by rw[beqD];exact decide_eq_decide.2 (by omega)
 simp only[e,Option.bind_some]
 unfold vCall
 by_cases hl:c.2.2.length=(foundF fs c.2.1).2.1.length
 ·rw[spec_args_ok h2 g1 hl hs]
  simp only[hl,decide_true]
  cases (foundF fs c.2.1).2.2.2.2<;>cases (foundF fs c.2.1).2.2.1<;>cases vList c.1<;>cases vInt c.1<;>rfl
 ·simp only[hl,decide_false]
  cases (foundF fs c.2.1).2.2.2.2<;>rfl
theorem impl_call_ok {fs:List Fun1} {rs:List Rule1} {c:Call1} {sc:List Str} (h:size fs≤1048576) (h1:c.1.length≤1048576) (h2:size c.2.2≤1048576) (hs:sc.length≤9223372036854775806) :
  impl_callOk fs rs c.1 c.2.1 c.2.2 sc=some (vCall fs sc c):=by
 obtain ⟨g1,g2⟩:=found_size (s:=c.2.1) h
 rw[impl_callOk_eq,impl_FindFunction_ok h,Option.bind_some,impl_IsListName_ok (by omega),impl_isIntName_ok (by omega)]
 have e:((c.2.2.length:Int)==((foundF fs c.2.1).2.1.length:Int))=decide (c.2.2.length=(foundF fs c.2.1).2.1.length):=by rw[beqD];exact decide_eq_decide.2 (by omega)
 simp only[e,Option.bind_some]
 unfold vCall
 by_cases hl:c.2.2.length=(foundF fs c.2.1).2.1.length
 ·rw[impl_args_ok h2 g1 hl hs]
  simp only[hl,decide_true]
  cases (foundF fs c.2.1).2.2.2.2<;>cases (foundF fs c.2.1).2.2.1<;>cases vList c.1<;>cases vInt c.1<;>rfl
 ·simp only[hl,decide_false]
  cases (foundF fs c.2.1).2.2.2.2<;>rfl
def vCalls (fs:List Fun1) (P:List Str) (ps:List Pat) (cs:List Call1):Nat→List Call1→Bool
 |_,[]=>true
 |k,c :: r=>vCall fs (scopeN P ps cs k) c&&vCalls fs P ps cs (k+1) r
def vEnd (fs:List Fun1) (fn:Str) (ps:List Pat) (cs:List Call1) (rl:Bool) (rx:Sums) (rt:Str):Bool:=
 vArg rl rx rt&&((rl==(foundF fs fn).2.2.1)&&(((names rx rt).all fun s=>hasN (scopeN (foundF fs fn).2.1 ps cs cs.length) s)&&dist [] (scopeN (foundF fs fn).2.1 ps cs cs.length)))
def vRule (fs:List Fun1) (r:Rule1):Bool:=(foundF fs r.1).2.2.2.2&&(vPats (foundF fs r.1).2.1 [] r.2.1&&(decide (r.2.2.1.length≤2)&&(decide (r.2.2.2.1.length≤2) &&
 (r.2.2.1.all (vGuard (scopeN (foundF fs r.1).2.1 r.2.1 r.2.2.2.1 0))&&(vCalls fs (foundF fs r.1).2.1 r.2.1 r.2.2.2.1 0 r.2.2.2.1&&vEnd fs r.1 r.2.1 r.2.2.2.1 r.2.2.2.2.1 r.2.2.2.2.2.1 r.2.2.2.2.2.2)))))
structure RB (fs:List Fun1) (ps:List Pat) (gs:Sums) (cs:List Call1) (rx:Sums) (rt:Str):Prop where
 f:size fs≤1048576
 p:size ps≤1048576
 g:size gs≤1048576
 c:size cs≤1048576
 x:size rx≤1048576
 t:rt.length≤1048576
theorem spec_rule_l0 {fs:List Fun1} {rs:List Rule1} {fn:Str} {ps:List Pat} {gs:Sums} {cs:List Call1} {rl:Bool} {rx:Sums} {rt:Str} {u:Str} {v:Lins} (B:RB fs ps gs cs rx rt) (hf:(foundF fs fn).2.2.2.2=true) :
  spec_IsValidRule_l0 0 fs rs fn ps gs cs rl rx rt u (foundF fs fn).2.1 (foundF fs fn).2.2.1 v=some (vCalls fs (foundF fs fn).2.1 ps cs 0 cs&&vEnd fs fn ps cs rl rx rt):=by
 obtain ⟨g1,g2⟩:=found_size (s:=fn) B.f
 have hp:=Nat.le_trans (len_size ps) B.p
 have hc:=Nat.le_trans (len_size cs) B.c
 have:=loopD cs (fun k s=>spec_IsValidRule_l0 (k:Int) fs rs fn ps gs cs rl rx rt u (foundF fs fn).2.1 (foundF fs fn).2.2.1 v=some (vCalls fs (foundF fs fn).2.1 ps cs k s&&vEnd fs fn ps cs rl rx rt))
  (by
   have hsl:=scopeN_len (n:=cs.length) g2 hp hc
   rw[spec_IsValidRule_l0_eq,spec_scope_ok B.f hp hc (Nat.le_refl _) hf g2,Option.bind_some,spec_l10Arg_ok B.x B.t (by omega),Option.bind_some,spec_AllDistinct_ok (by omega),Option.bind_some]
   simp only[Int.lt_irrefl,decide_false,cond_false,vCalls,Bool.true_and,vEnd]
   cases vArg rl rx rt<;>cases rl==(foundF fs fn).2.2.1<;>cases ((names rx rt).all fun s=>hasN (scopeN (foundF fs fn).2.1 ps cs cs.length) s)<;>rfl)
  (fun k c suf hd hx hk ih=>by
   have hcl:=call_len B.c (List.mem_of_getElem? hx)
   have hsl:=scopeN_len (n:=k) g2 hp hc
   rw[spec_IsValidRule_l0_eq,at_of hx,spec_scope_ok B.f hp hc (by omega) hf g2,Option.bind_some,spec_call_ok B.f hcl.1 hcl.2.2 (by omega),Option.bind_some,w64_nat (by omega),ih]
   simp only[hk,Int.ofNat_lt,decide_true,cond_true,vCalls]
   cases vCall fs (scopeN (foundF fs fn).2.1 ps cs k) c<;>rfl)
 exact this
theorem spec_rule_ok {fs:List Fun1} {rs:List Rule1} {fn:Str} {ps:List Pat} {gs:Sums} {cs:List Call1} {rl:Bool} {rx:Sums} {rt:Str} (B:RB fs ps gs cs rx rt) :
  spec_IsValidRule fs rs fn ps gs cs rl rx rt=some (vRule fs (fn,ps,gs,cs,rl,rx,rt)):=by
 obtain ⟨g1,g2⟩:=found_size (s:=fn) B.f
 have hp:=Nat.le_trans (len_size ps) B.p
 have hc:=Nat.le_trans (len_size cs) B.c
 have hsl:=scopeN_len (n:=0) g2 hp hc
 rw[spec_IsValidRule_eq,spec_FindFunction_ok B.f,Option.bind_some]
 unfold vRule
 simp only
 cases hf:(foundF fs fn).2.2.2.2 with
 |false=>rfl
 |true=>
  have e0:(0:Int)=((0:Nat):Int):=rfl
  rw[spec_pats_ok B.p g2,Option.bind_some,spec_rule_l0 B hf]
  have hsc:=spec_scope_ok (rs:=rs) (gs:=gs) (rl:=rl) (rx:=rx) (rt:=rt) (n:=0) B.f hp hc (Nat.zero_le _) hf g2
  have hsc:spec_ScopeOf fs rs fn ps gs cs rl rx rt 0=some (scopeN (foundF fs fn).2.1 ps cs 0):=hsc
  rw[hsc,Option.bind_some,spec_guards_ok B.g (by omega),Option.bind_some]
  have e2:decide ((2:Int)<(cs.length:Int))=!decide (cs.length≤2):=by
   by_cases h:cs.length≤2
   ·rw[decide_eq_true h,decide_eq_false (by omega)];rfl
   ·rw[decide_eq_false h,decide_eq_true (by omega)];rfl
  rw[e2]
  cases vPats (foundF fs fn).2.1 [] ps<;>cases (gs.all (vGuard (scopeN (foundF fs fn).2.1 ps cs 0)))<;>cases decide (gs.length≤2)<;>cases decide (cs.length≤2)<;>rfl
theorem impl_rule_l1 {fs:List Fun1} {rs:List Rule1} {fn:Str} {ps:List Pat} {gs:Sums} {cs:List Call1} {rl:Bool} {rx:Sums} {rt:Str} {u:Str} {v:Lins} (B:RB fs ps gs cs rx rt) (hf:(foundF fs fn).2.2.2.2=true) :
  impl_IsValidRule_l1 cs cs.length 0 fs rs fn ps gs cs rl rx rt u (foundF fs fn).2.1 (foundF fs fn).2.2.1 v=some (vCalls fs (foundF fs fn).2.1 ps cs 0 cs&&vEnd fs fn ps cs rl rx rt):=by
 obtain ⟨g1,g2⟩:=found_size (s:=fn) B.f
 have hp:=Nat.le_trans (len_size ps) B.p
 have hc:=Nat.le_trans (len_size cs) B.c
 have:=loopD cs (fun k s=>impl_IsValidRule_l1 cs cs.length (k:Int) fs rs fn ps gs cs rl rx rt u (foundF fs fn).2.1 (foundF fs fn).2.2.1 v=some (vCalls fs (foundF fs fn).2.1 ps cs k s&&vEnd fs fn ps cs rl rx rt))
  (by
   have hsl:=scopeN_len (n:=cs.length) g2 hp hc
   rw[impl_IsValidRule_l1_eq,impl_scope_ok B.f hp hc (Nat.le_refl _) hf g2,Option.bind_some,impl_IsValidArg_ok B.x B.t,Option.bind_some,impl_AllDistinct_ok (by omega),Option.bind_some]
   simp only[Int.lt_irrefl,decide_false,cond_false,vCalls,Bool.true_and,vEnd]
   cases hv:vArg rl rx rt with
   |false=>rfl
   |true=>
    cases rl==(foundF fs fn).2.2.1 with
    |false=>rfl
    |true=>
     have hb:=impl_names_in (sc:=scopeN (foundF fs fn).2.1 ps cs cs.length) B.x hv (by omega)
     have ha2:∀ (K:Bool→Option Bool),((impl_NamesOf rl rx rt).bind fun x7=>(impl_allIn x7 (scopeN (foundF fs fn).2.1 ps cs cs.length)).bind K)=(((impl_NamesOf rl rx rt).bind fun x=>impl_allIn x (scopeN (foundF fs fn).2.1 ps cs cs.length))).bind K:=by
      intro K
      rw[Option.bind_assoc]
     simp only[cond_true,Bool.true_and]
     rw[ha2,hb,Option.bind_some]
     cases ((names rx rt).all fun s=>hasN (scopeN (foundF fs fn).2.1 ps cs cs.length) s)<;>rfl)
  (fun k c suf hd hx hk ih=>by
   have hcl:=call_len B.c (List.mem_of_getElem? hx)
   have hsl:=scopeN_len (n:=k) g2 hp hc
   rw[impl_IsValidRule_l1_eq,at_of hx,impl_scope_ok B.f hp hc (by omega) hf g2,Option.bind_some,impl_call_ok B.f hcl.1 hcl.2.2 (by omega),Option.bind_some,w64_nat (by omega),ih]
   simp only[hk,Int.ofNat_lt,decide_true,cond_true,vCalls]
   cases vCall fs (scopeN (foundF fs fn).2.1 ps cs k) c<;>rfl)
 exact this
theorem impl_rule_l0 {fs:List Fun1} {rs:List Rule1} {fn:Str} {ps:List Pat} {gs:Sums} {cs:List Call1} {rl:Bool} {rx:Sums} {rt:Str} {u:Str} {v:Lins} (B:RB fs ps gs cs rx rt) (hf:(foundF fs fn).2.2.2.2=true) :
  impl_IsValidRule_l0 gs gs.length 0 fs rs fn ps gs cs rl rx rt u (foundF fs fn).2.1 (foundF fs fn).2.2.1 v=some (gs.all (vGuard (scopeN (foundF fs fn).2.1 ps cs 0))&&(vCalls fs (foundF fs fn).2.1 ps cs 0 cs&&vEnd fs fn ps cs rl rx rt)):=by
 obtain ⟨g1,g2⟩:=found_size (s:=fn) B.f
 have hp:=Nat.le_trans (len_size ps) B.p
 have hc:=Nat.le_trans (len_size cs) B.c
 have hg:=Nat.le_trans (len_size gs) B.g
 have hsl:=scopeN_len (n:=0) g2 hp hc
 have hsc:impl_ScopeOf fs rs fn ps gs cs rl rx rt 0=some (scopeN (foundF fs fn).2.1 ps cs 0):=impl_scope_ok (n:=0) B.f hp hc (Nat.zero_le _) hf g2
 have:=loopD gs (fun k s=>impl_IsValidRule_l0 gs gs.length (k:Int) fs rs fn ps gs cs rl rx rt u (foundF fs fn).2.1 (foundF fs fn).2.2.1 v=some (s.all (vGuard (scopeN (foundF fs fn).2.1 ps cs 0))&&(vCalls fs (foundF fs fn).2.1 ps cs 0 cs&&vEnd fs fn ps cs rl rx rt)))
  (by
   rw[impl_IsValidRule_l0_eq,impl_rule_l1 B hf]
   simp)
  (fun k g suf hd hx hk ih=>by
   have hm:=List.mem_of_getElem? hx
   have hz:=size_sum B.g hm
   have hz2:=len_size g.2
   have hn:(namesT g.2).length=g.2.length:=by simp [namesT]
   rw[impl_IsValidRule_l0_eq,at_of hx,impl_IsValidSum_ok hz,Option.bind_some,impl_sumNames_ok (by omega),Option.bind_some,hsc,Option.bind_some,impl_allIn_ok (by omega) (by omega),Option.bind_some,w64_nat (by omega),ih]
   simp only[hk,Int.ofNat_lt,decide_true,cond_true,List.all_cons,vGuard]
   cases vSum g.1 g.2<;>cases ((namesT g.2).all fun s=>hasN (scopeN (foundF fs fn).2.1 ps cs 0) s)<;>simp)
 exact this
theorem impl_rule_ok {fs:List Fun1} {rs:List Rule1} {fn:Str} {ps:List Pat} {gs:Sums} {cs:List Call1} {rl:Bool} {rx:Sums} {rt:Str} (B:RB fs ps gs cs rx rt) :
  impl_IsValidRule fs rs fn ps gs cs rl rx rt=some (vRule fs (fn,ps,gs,cs,rl,rx,rt)):=by
 obtain ⟨g1,g2⟩:=found_size (s:=fn) B.f
 rw[impl_IsValidRule_eq,impl_FindFunction_ok B.f,Option.bind_some]
 unfold vRule
 simp only
 cases hf:(foundF fs fn).2.2.2.2 with
 |false=>rfl
 |true=>
  rw[impl_pats_ok B.p g2,Option.bind_some,impl_rule_l0 B hf]
  have e2:decide ((2:Int)<(cs.length:Int))=!decide (cs.length≤2):=by
   by_cases h:cs.length≤2
   ·rw[decide_eq_true h,decide_eq_false (by omega)];rfl
   ·rw[decide_eq_false h,decide_eq_true (by omega)];rfl
  have e3:decide ((2:Int)<(gs.length:Int))=!decide (gs.length≤2):=by
   by_cases h:gs.length≤2
   ·rw[decide_eq_true h,decide_eq_false (by omega)];rfl
   ·rw[decide_eq_false h,decide_eq_true (by omega)];rfl
  rw[e2,e3]
  cases vPats (foundF fs fn).2.1 [] ps<;>cases (gs.all (vGuard (scopeN (foundF fs fn).2.1 ps cs 0)))<;>cases decide (gs.length≤2)<;>cases decide (cs.length≤2)<;>rfl
theorem rule_RB {fs:List Fun1} {rs:List Rule1} {r:Rule1} (h:size fs≤1048576) (h2:size rs≤1048576) (hr:r∈rs):RB fs r.2.1 r.2.2.1 r.2.2.2.1 r.2.2.2.2.2.1 r.2.2.2.2.2.2:=by
 have h1:=size_mem hr
 obtain ⟨a,b,c,d,e,f,g⟩:=r
 rw[size_prod,size_prod,size_prod,size_prod,size_prod,size_prod,size_str,size_str] at h1
 refine ⟨h,?_,?_,?_,?_,?_⟩
 ·show size b≤_;omega
 ·show size c≤_;omega
 ·show size d≤_;omega
 ·show size f≤_;omega
 ·show g.length≤_;omega
def vFun (f:Fun1):Bool:=vInt f.1&&(decide (f.2.1.length≤2)&&((f.2.1.all vName&&dist [] f.2.1)&&(decide (f.2.2.2.length≤2)&&f.2.2.2.all fun l=>validL l.1 l.2 f.2.1.length)))
def fnames (fs:List Fun1):List Str:=fs.map (·.1)
def vProg (fs:List Fun1) (rs:List Rule1):Bool:=(decide (1≤fs.length)&&decide (fs.length≤3))&&(decide (rs.length≤8)&&((fs.all vFun&&dist [] (fnames fs))&&rs.all (vRule fs)))
theorem le2 (n:Nat):decide ((2:Int)<(n:Int))=!decide (n≤2):=by
 by_cases h:n≤2
 ·rw[decide_eq_true h,decide_eq_false (by omega)];rfl
 ·rw[decide_eq_false h,decide_eq_true (by omega)];rfl
theorem spec_l5Names_ok {l:List Str} (h:size l≤1048576):spec_l5Names l=some (l.all vName&&dist [] l):=by
 have hl:=Nat.le_trans (len_size l) h
 have:=loopD l (fun k s=>spec_l5Names_l0 l (k:Int)=some (s.all vName&&dist [] l))
  (by rw[spec_l5Names_l0_eq,spec_AllDistinct_ok (by omega)];simp)
  (fun k x suf hd hx hk ih=>by
   have hx2:=str_len h (List.mem_of_getElem? hx)
   rw[spec_l5Names_l0_eq,at_of hx,spec_IsValidName_ok (by omega),Option.bind_some,w64_nat (by omega),ih]
   simp only[hk,Int.ofNat_lt,decide_true,cond_true,List.all_cons]
   cases vName x<;>simp)
 rw[spec_l5Names_eq]
 exact this
end X
namespace X
open Go TM
open TM.Dat (size okd inr)
theorem fun_l1 {fs:List Fun1} {k:Nat} {a3:List Str} {a4:Int} {a5:Bool} {a6:List Str} {a7 a8:Bool} {a9:Lins} {a10:Int} {a11:Bool} {acc:List Str} {nm:Str} {params:List Str} {b:Bool} {pre:Lins} (h:size pre≤1048576) (ha:acc.length≤1048576) (hk:k≤1048576) :
  spec_l10Functions_l1 fs k 0 a3 a4 a5 a6 a7 a8 a9 a10 a11 acc nm params b pre=cond (pre.all fun l=>validL l.1 l.2 params.length) (spec_l10Functions_l0 fs ((k+1:Nat):Int) (acc++[nm])) (some false):=by
 have hl:=Nat.le_trans (len_size pre) h
 have:=loopD pre (fun j s=>spec_l10Functions_l1 fs k (j:Int) a3 a4 a5 a6 a7 a8 a9 a10 a11 acc nm params b pre=cond (s.all fun l=>validL l.1 l.2 params.length) (spec_l10Functions_l0 fs ((k+1:Nat):Int) (acc++[nm])) (some false))
  (by
   rw[spec_l10Functions_l1_eq,app_of (by simp;omega),w64_nat (n:=k) (by omega)]
   simp only[Int.lt_irrefl,decide_false,cond_false,List.all_nil,cond_true])
  (fun j x suf hd hx hj ih=>by
   have hx2:=lin_len h (List.mem_of_getElem? hx)
   rw[spec_l10Functions_l1_eq,at_of hx,spec_IsValidLin_ok (by omega),Option.bind_some,w64_nat (n:=j) (by omega),ih]
   simp only[hj,Int.ofNat_lt,decide_true,cond_true,List.all_cons]
   cases validL x.1 x.2 params.length<;>rfl)
 exact this
theorem fnames_succ {fs:List Fun1} {k:Nat} {f:Fun1} (h:fs[k]?=some f):fnames (fs.take (k+1))=fnames (fs.take k)++[f.1]:=by rw[take_succ_of h];simp [fnames]
theorem spec_funs_ok {fs:List Fun1} (h:size fs≤1048576):spec_l10Functions fs=some (fs.all vFun&&((decide (1≤fs.length)&&decide (fs.length≤3))&&dist [] (fnames fs))):=by
 have hl:=Nat.le_trans (len_size fs) h
 have:=loopD fs (fun k s=>spec_l10Functions_l0 fs (k:Int) (fnames (fs.take k))=some (s.all vFun&&((decide (1≤fs.length)&&decide (fs.length≤3))&&dist [] (fnames fs))))
  (by
   rw[spec_l10Functions_l0_eq,List.take_length,l1In_ok,Option.bind_some,spec_AllDistinct_ok (by simp [fnames];omega)]
   have e1:decide ((1:Int)≤(fs.length:Int))=decide (1≤fs.length):=decide_eq_decide.2 (by omega)
   have e3:decide ((fs.length:Int)≤3)=decide (fs.length≤3):=decide_eq_decide.2 (by omega)
   simp only[Int.lt_irrefl,decide_false,cond_false,List.all_nil,Bool.true_and,e1,e3,Option.bind_some]
   cases decide (1≤fs.length)<;>cases decide (fs.length≤3)<;>rfl)
  (fun k f suf hd hx hk ih=>by
   have hf:=size_fun h (List.mem_of_getElem? hx)
   have hn:(fnames (fs.take k)).length≤1048576:=by simp [fnames];omega
   rw[spec_l10Functions_l0_eq,at_of hx,spec_l10IntName_ok (by omega),Option.bind_some,spec_l5Names_ok hf.2.1,Option.bind_some,le2,le2,fun_l1 hf.2.2.1 hn (by omega),← fnames_succ hx,ih]
   simp only[hk,Int.ofNat_lt,decide_true,cond_true,List.all_cons,vFun]
   cases vInt f.1<;>cases decide (f.2.1.length≤2)<;>cases (f.2.1.all vName&&dist [] f.2.1)<;>cases decide (f.2.2.2.length≤2)<;>cases (f.2.2.2.all fun l=>validL l.1 l.2 f.2.1.length)<;>simp)
 rw[spec_l10Functions_eq]
 exact this
theorem spec_prog_ok {fs:List Fun1} {rs:List Rule1} (h:size fs≤1048576) (h2:size rs≤1048576):spec_IsValidProgram fs rs=some (vProg fs rs):=by
 have hl:=Nat.le_trans (len_size rs) h2
 have:=loopD rs (fun k s=>spec_IsValidProgram_l0 (k:Int) fs rs=some (s.all (vRule fs)))
  (by rw[spec_IsValidProgram_l0_eq];simp)
  (fun k r suf hd hx hk ih=>by
   rw[spec_IsValidProgram_l0_eq,at_of hx,spec_rule_ok (rule_RB h h2 (List.mem_of_getElem? hx)),Option.bind_some,w64_nat (by omega),ih]
   simp only[hk,Int.ofNat_lt,decide_true,cond_true,List.all_cons]
   show cond (!vRule fs r) _ _=_
   cases vRule fs r<;>rfl)
 have this:spec_IsValidProgram_l0 0 fs rs=some (rs.all (vRule fs)):=this
 rw[spec_IsValidProgram_eq,spec_funs_ok h,Option.bind_some,this]
 have e8:decide ((8:Int)<(rs.length:Int))=!decide (rs.length≤8):=by
  by_cases h:rs.length≤8
  ·rw[decide_eq_true h,decide_eq_false (by omega)];rfl
  ·rw[decide_eq_false h,decide_eq_true (by omega)];rfl
 rw[e8]
 unfold vProg
 cases fs.all vFun<;>cases decide (1≤fs.length)<;>cases decide (fs.length≤3)<;>cases dist [] (fnames fs)<;>cases decide (rs.length≤8)<;>rfl
theorem idx_first {fs:List Fun1} {k:Nat} {f:Fun1} (hx:fs[k]?=some f):(idxF fs f.1==(k:Int))=!hasN (fnames (fs.take k)) f.1:=by
 have hk:k<fs.length:=(List.getElem?_eq_some_iff.1 hx).1
 have hfk:fs[k]=f:=(List.getElem?_eq_some_iff.1 hx).2
 rw[beqD,Bool.eq_iff_iff,decide_eq_true_eq]
 have hno:(!hasN (fnames (fs.take k)) f.1)=true↔∀ j (hj:j<k),¬ (fs[j]'(by omega)).1=f.1:=by
  unfold hasN fnames
  simp only[Bool.not_eq_true',List.any_eq_false,List.mem_map,beq_iff_eq]
  constructor
  ·intro h j hj e
   exact h _ ⟨fs[j]'(by omega),List.mem_iff_getElem.2 ⟨j,by rw[List.length_take];omega,by simp⟩,rfl⟩ e
  ·rintro h x ⟨g,hg,rfl⟩ e
   obtain ⟨j,hj,rfl⟩:=List.mem_iff_getElem.1 hg
   rw[List.length_take] at hj
   exact h j (by omega) (by simpa using e)
 rw[hno]
 unfold idxF
 cases hi:fs.findIdx? (fun g=>g.1==f.1) with
 |none=>
  rw[List.findIdx?_eq_none_iff] at hi
  have:=hi f (List.mem_of_getElem? hx)
  simp at this
 |some i=>
  obtain ⟨hil,hp,hq⟩:=List.findIdx?_eq_some_iff_getElem.1 hi
  constructor
  ·intro e j hj
   have e:(i:Int)=(k:Int):=e
   have:i=k:=by omega
   subst this
   have:=hq j hj
   simpa using this
  ·intro hall
   rcases Nat.lt_trichotomy i k with h | h | h
   ·exact absurd (eq_of_beq hp) (hall i h)
   ·subst h;rfl
   ·have:=hq k h
    rw[hfk] at this
    simp at this
theorem impl_prog_ok {fs:List Fun1} {rs:List Rule1} (h:size fs≤1048576) (h2:size rs≤1048576):impl_IsValidProgram fs rs=some (vProg fs rs):=by
 have hl:=Nat.le_trans (len_size fs) h
 have hr:=Nat.le_trans (len_size rs) h2
 have hc:slices_ContainsFunc_5 rs (fs,rs)=some (rs.any fun r=>!vRule fs r):=by
  rw[slices_ContainsFunc_5_eq,slices_IndexFunc_6_eq]
  exact idxLoop (F:=fun i=>slices_IndexFunc_6_l0 rs fs rs rs.length i) (fun i=>slices_IndexFunc_6_l0_eq rs fs rs _ i) (fun r hm=>by rw[impl_IsValidProgram_3_eq,impl_rule_ok (rule_RB h h2 hm)];rfl) (by omega)
 have ea:(rs.all (vRule fs))=!(rs.any fun r=>!vRule fs r):=by
  rw[Bool.eq_iff_iff];simp
 have:=loopD fs (fun k s=>impl_IsValidProgram_l0 fs fs.length (k:Int) fs rs=some ((s.all vFun&&dist (fnames (fs.take k)) (fnames s))&&rs.all (vRule fs)))
  (by
   rw[impl_IsValidProgram_l0_eq,hc,ea]
   simp [dist,fnames])
  (fun k f suf hd hx hk ih=>by
   have hf:=size_fun h (List.mem_of_getElem? hx)
   have hp:=len_size f.2.1
   have hq:=len_size f.2.2.2
   have c9:slices_ContainsFunc_9 f.2.1 ()=some (f.2.1.any fun x=>!vName x):=by
    rw[slices_ContainsFunc_9_eq,slices_IndexFunc_10_eq]
    exact idxLoop (F:=fun i=>slices_IndexFunc_10_l0 f.2.1 f.2.1.length i) (fun i=>slices_IndexFunc_10_l0_eq _ _ i) (fun x hm=>by rw[impl_IsValidProgram_1_eq,impl_IsValidName_ok (by have:=str_len hf.2.1 hm;omega)];rfl) (by omega)
   have c10:slices_ContainsFunc_10 f.2.2.2 (f.1,f.2.1,f.2.2.1,f.2.2.2)=some (f.2.2.2.any fun l=>!validL l.1 l.2 f.2.1.length):=by
    rw[slices_ContainsFunc_10_eq,slices_IndexFunc_11_eq]
    exact idxLoop (F:=fun i=>slices_IndexFunc_11_l0 f.2.2.2 f.1 f.2.1 f.2.2.1 f.2.2.2 f.2.2.2.length i) (fun i=>slices_IndexFunc_11_l0_eq _ _ _ _ _ _ i) (fun x hm=>by rw[impl_IsValidProgram_2_eq,impl_IsValidLin_ok (by have:=lin_len hf.2.2.1 hm;omega)];rfl) (by omega)
   have e1:f.2.1.all vName=!(f.2.1.any fun x=>!vName x):=by rw[Bool.eq_iff_iff];simp
   have e2:(f.2.2.2.all fun l=>validL l.1 l.2 f.2.1.length)=!(f.2.2.2.any fun l=>!validL l.1 l.2 f.2.1.length):=by rw[Bool.eq_iff_iff];simp
   rw[impl_IsValidProgram_l0_eq,at_of hx,impl_isIntName_ok (by omega),Option.bind_some,impl_functionAt_ok hl,Option.bind_some,idx_first hx,le2,le2,impl_AllDistinct_ok (by omega),Option.bind_some,c9,Option.bind_some,c10,Option.bind_some,w64_nat (by omega),ih,fnames_succ hx]
   simp only[hk,Int.ofNat_lt,decide_true,cond_true,List.all_cons,vFun,e1,e2,fnames,List.map_cons,dist]
   cases vInt f.1<;>cases hasN ((fs.take k).map (·.1)) f.1<;>cases decide (f.2.1.length≤2)<;>cases dist [] f.2.1<;>cases (f.2.1.any fun x=>!vName x)<;>cases decide (f.2.2.2.length≤2)<;>cases (f.2.2.2.any fun l=>!validL l.1 l.2 f.2.1.length)<;>simp)
 have this:impl_IsValidProgram_l0 fs fs.length 0 fs rs=some ((fs.all vFun&&dist [] (fnames fs))&&rs.all (vRule fs)):=this
 rw[impl_IsValidProgram_eq,within_ok,Option.bind_some,this]
 have e8:decide ((8:Int)<(rs.length:Int))=!decide (rs.length≤8):=by
  by_cases h:rs.length≤8
  ·rw[decide_eq_true h,decide_eq_false (by omega)];rfl
  ·rw[decide_eq_false h,decide_eq_true (by omega)];rfl
 have e1:decide ((1:Int)≤(fs.length:Int))=decide (1≤fs.length):=decide_eq_decide.2 (by omega)
 have e3:decide ((fs.length:Int)≤3)=decide (fs.length≤3):=decide_eq_decide.2 (by omega)
 rw[e8,e1,e3]
 unfold vProg
 cases decide (1≤fs.length)<;>cases decide (fs.length≤3)<;>cases decide (rs.length≤8)<;>simp
end X
namespace X
open Go TM
open TM.Dat (size okd inr)
abbrev Val:=Bool×Int×Ty11
theorem upto {α β:Type} {F:Int→List α→Option β} (f:Int→α) {K:List α→Option β} {lo hi:Int}
  (hF:∀ k acc,lo≤k→k≤hi→acc.length≤1000→F k acc=F (k+1) (acc++[f k])) (hE:∀ acc,F (hi+1) acc=K acc) :
  ∀ (n:Nat) (acc:List α),(n:Int)≤hi+1-lo→acc.length+n≤1000→F (hi+1-n) acc=K (acc++(List.range n).map fun j:Nat=>f (hi+1-n+(j:Int))):=by
 intro n
 induction n with
 |zero=>intro acc _ _;simpa using hE acc
 |succ n ih=>
  intro acc h1 h2
  rw[hF _ _ (by omega) (by omega) (by omega),show hi+1-((n+1:Nat):Int)+1=hi+1-n by omega,ih _ (by omega) (by simp;omega),List.range_succ_eq_map]
  simp only[List.map_cons,List.map_map,List.append_assoc,List.singleton_append]
  congr 3
  ·congr 1;omega
  ·apply List.map_congr_left
   intro j _
   simp only[Function.comp_apply]
   congr 1
   omega
def choices (b:Bool):List Val:=cond b [(true,0,[]),(true,0,[0]),(true,0,[0,0])] [(false,-2,[]),(false,-1,[]),(false,0,[]),(false,1,[]),(false,2,[]),(false,3,[]),(false,4,[]),(false,5,[])]
theorem choices_len (b:Bool):(choices b).length≤8:=by cases b<;>decide
theorem choices_items {b:Bool} {v:Val} (h:v∈choices b):v.2.2.length≤2:=by
 have:(choices b).all (fun v=>decide (v.2.2.length≤2))=true:=by cases b<;>decide
 simpa using List.all_eq_true.1 this v h
theorem spec_choices_ok (b:Bool):spec_l23Choices b=some (choices b):=by
 rw[spec_l23Choices_eq]
 cases b
 ·exact upto (F:=spec_l23Choices_l1) (fun k=>(false,k,[])) (K:=some) (lo:=-2) (hi:=5)
   (fun k acc h1 h2 h3=>by rw[spec_l23Choices_l1_eq,app_of (by simp;omega),w64_id (by omega) (by omega)];simp [h2])
   (fun acc=>by rw[spec_l23Choices_l1_eq];rfl) 8 [] (by decide) (by decide)
 ·exact upto (F:=spec_l23Choices_l0) (fun k=>(true,0,List.replicate k.toNat 0)) (K:=some) (lo:=0) (hi:=2)
   (fun k acc h1 h2 h3=>by
    obtain ⟨n,rfl⟩:=Int.eq_ofNat_of_zero_le h1
    rw[spec_l23Choices_l0_eq,rep_of (by omega),app_of (by simp;omega),w64_id (by omega) (by omega)];simp [h2])
   (fun acc=>by rw[spec_l23Choices_l0_eq];rfl) 3 [] (by decide) (by decide)
theorem impl_choices_l1 {a0 a1:Int} {out:List (List Val)} {ps:List Str}:impl_SampleArgs_l1 0 a0 a1 out [] ps=impl_SampleArgs_l3 (choices true) a0 a1 out out.length 0 [] ps:=
 upto (F:=fun k acc=>impl_SampleArgs_l1 k a0 a1 out acc ps) (fun k=>(true,0,List.replicate k.toNat 0)) (K:=fun c=>impl_SampleArgs_l3 c a0 a1 out out.length 0 [] ps) (lo:=0) (hi:=2)
   (fun k acc h1 h2 h3=>by
    obtain ⟨n,rfl⟩:=Int.eq_ofNat_of_zero_le h1
    show impl_SampleArgs_l1 _ _ _ _ _ _=impl_SampleArgs_l1 _ _ _ _ _ _
    rw[impl_SampleArgs_l1_eq,rep_of (by omega),app_of (by simp;omega),w64_id (by omega) (by omega)];simp [h2])
   (fun acc=>(impl_SampleArgs_l1_eq _ _ _ _ _ _).trans rfl) 3 [] (by decide) (by decide)
theorem impl_choices_l2 {a0 a1:Int} {out:List (List Val)} {ps:List Str}:impl_SampleArgs_l2 (-2) a0 a1 out [] ps=impl_SampleArgs_l3 (choices false) a0 a1 out out.length 0 [] ps:=
 upto (F:=fun k acc=>impl_SampleArgs_l2 k a0 a1 out acc ps) (fun k=>(false,k,[])) (K:=fun c=>impl_SampleArgs_l3 c a0 a1 out out.length 0 [] ps) (lo:=-2) (hi:=5)
   (fun k acc h1 h2 h3=>by show impl_SampleArgs_l2 _ _ _ _ _ _=impl_SampleArgs_l2 _ _ _ _ _ _;rw[impl_SampleArgs_l2_eq,app_of (by simp;omega),w64_id (by omega) (by omega)];simp [h2])
   (fun acc=>(impl_SampleArgs_l2_eq _ _ _ _ _ _).trans rfl) 8 [] (by decide) (by decide)
def okVs (l:List Val):Prop:=l.length≤1048576∧∀ v∈l,v.2.2.length≤1048576
theorem spec_l23Copy_ok {l:List Val} (h:okVs l):spec_l23Copy l=some l:=by
 have:=loopD l (fun k s=>∀ acc:List Val,acc=l.take k→spec_l23Copy_l0 l (k:Int) acc=some l)
  (fun acc ha=>by rw[spec_l23Copy_l0_eq,ha,List.take_length];simp)
  (fun k x suf hd hx hk ih acc ha=>by
   have:=h.1
   have hx2:=h.2 x (List.mem_of_getElem? hx)
   rw[spec_l23Copy_l0_eq,at_of hx,at_of hx,at_of hx,app_of (by simp;omega),app_of (by rw[ha];simp;omega),w64_nat (by omega),ih _ (by rw[ha,take_succ_of hx];rfl)]
   simp [hk])
 rw[spec_l23Copy_eq]
 exact this [] (by simp)
theorem impl_copyValue_ok {v:Val} (h:v.2.2.length≤1048576):impl_copyValue v.1 v.2.1 v.2.2=some v:=by
 rw[impl_copyValue_eq,slices_Clone_ok (by omega)];rfl
theorem impl_copyValues_ok {l:List Val} (h:okVs l):impl_copyValues l=some l:=by
 have:=loopD l (fun k s=>∀ acc:List Val,acc=l.take k→impl_copyValues_l0 l l.length (k:Int) acc=some l)
  (fun acc ha=>by rw[impl_copyValues_l0_eq,ha,List.take_length];simp)
  (fun k x suf hd hx hk ih acc ha=>by
   have:=h.1
   rw[impl_copyValues_l0_eq,at_of hx,impl_copyValue_ok (h.2 x (List.mem_of_getElem? hx)),Option.bind_some,app_of (by rw[ha];simp;omega),w64_nat (by omega),ih _ (by rw[ha,take_succ_of hx])]
   simp [hk])
 rw[impl_copyValues_eq]
 exact this [] (by simp)
def ext (ch:List Val) (out:List (List Val)):List (List Val):=out.flatMap fun x=>ch.map fun c=>x++[c]
def smp (out:List (List Val)):List Str→List (List Val)
 |[]=>out
 |p :: ps=>smp (ext (choices (vList p)) out) ps
def okSm (n:Nat) (out:List (List Val)):Prop:=∀ l∈out,l.length≤n∧∀ v∈l,v.2.2.length≤2
theorem okS_ext {n:Nat} {b:Bool} {out:List (List Val)} (h:okSm n out):okSm (n+1) (ext (choices b) out):=by
 intro l hl
 simp only[ext,List.mem_flatMap,List.mem_map] at hl
 obtain ⟨x,hx,c,hc,rfl⟩:=hl
 refine ⟨by have:=(h x hx).1;simp;omega,fun v hv=>?_⟩
 rcases List.mem_append.1 hv with hv | hv
 ·exact (h x hx).2 v hv
 ·rw[List.mem_singleton.1 hv];exact choices_items hc
theorem ext_len {b:Bool} (out:List (List Val)):(ext (choices b) out).length≤out.length * 8:=by
 unfold ext
 induction out with
 |nil=>simp
 |cons x out ih=>
  have:=choices_len b
  simp only[List.flatMap_cons,List.length_append,List.length_map,List.length_cons] at ih ⊢
  omega
theorem spec_smp_l2 {ch:List Val} {out:List (List Val)} {x:List Val} {k i:Nat} {a5:Str} {ps:List Str} {a7:Bool} {a8:Lins} (hx:out[i]?=some x) (hi:i≤1000) (ho:x.length≤2∧∀ v∈x,v.2.2.length≤2) (hc:ch.length≤8∧∀ v∈ch,v.2.2.length≤2)
  {nx:List (List Val)} (hn:nx.length≤900):spec_SampleArgs_l2 out k ch i 0 a5 ps a7 a8 nx=spec_SampleArgs_l1 out k ch ((i+1:Nat):Int) a5 ps a7 a8 (nx++ch.map fun c=>x++[c]):=by
 have:=loopD ch (fun j s=>∀ nx:List (List Val),nx.length+s.length≤910→spec_SampleArgs_l2 out k ch i (j:Int) a5 ps a7 a8 nx=spec_SampleArgs_l1 out k ch ((i+1:Nat):Int) a5 ps a7 a8 (nx++s.map fun c=>x++[c]))
  (fun nx _=>by rw[spec_SampleArgs_l2_eq,w64_nat (n:=i) (by omega)];simp)
  (fun j c suf hd hj hjl ih nx hl=>by
   have:=ho.1
   have:=hc.1
   have hv:=hc.2 c (List.mem_of_getElem? hj)
   rw[List.length_cons] at hl
   have hok:okVs (x++[c]):=⟨by simp;omega,fun v hv'=>by
    rcases List.mem_append.1 hv' with hv' | hv'
    ·have:=ho.2 v hv';omega
    ·rw[List.mem_singleton.1 hv'];omega⟩
   rw[spec_SampleArgs_l2_eq,at_of hx,app_of (by simp;omega),at_of hj,List.nil_append,app_of (by simp;omega),show ((c.1,c.2.1,c.2.2):Val)=c from rfl,spec_l23Copy_ok hok,Option.bind_some,app_of (by simp;omega),w64_nat (n:=j) (by omega),ih _ (by simp;omega)]
   simp [hjl])
 exact this nx (by omega)
theorem spec_smp_l1 {b:Bool} {out:List (List Val)} {k:Nat} {a5:Str} {ps:List Str} {a7:Bool} {a8:Lins} (ho:okSm 2 out) (hl:out.length≤100) (hk:k≤1000) :
  spec_SampleArgs_l1 out k (choices b) 0 a5 ps a7 a8 []=spec_SampleArgs_l0 ((k+1:Nat):Int) a5 ps a7 a8 (ext (choices b) out):=by
 have:=loopD out (fun i s=>∀ nx:List (List Val),nx.length+s.length * 8≤800→spec_SampleArgs_l1 out k (choices b) (i:Int) a5 ps a7 a8 nx=spec_SampleArgs_l0 ((k+1:Nat):Int) a5 ps a7 a8 (nx++ext (choices b) s))
  (fun nx _=>by rw[spec_SampleArgs_l1_eq,w64_nat (n:=k) (by omega)];simp [ext])
  (fun i x suf hd hi hil ih nx hn=>by
   have:=choices_len b
   rw[List.length_cons] at hn
   rw[spec_SampleArgs_l1_eq,show ((0:Int))=((0:Nat):Int) from rfl]
   simp only[hil,Int.ofNat_lt,decide_true,cond_true]
   refine (spec_smp_l2 hi (by omega) (ho x (List.mem_of_getElem? hi)) ⟨choices_len b,fun v hv=>choices_items hv⟩ (by omega)).trans ?_
   rw[ih _ (by simp;omega)]
   simp [ext])
 exact this [] (by simp;omega)
theorem spec_smp_l0 {a5:Str} {ps:List Str} {a7:Bool} {a8:Lins} (hp:ps.length≤2) (hs:∀ p∈ps,p.length≤1048576) :
  spec_SampleArgs_l0 0 a5 ps a7 a8 [[]]=some (smp [[]] ps):=by
 have:=loopD ps (fun k s=>∀ (n:Nat) (out:List (List Val)),okSm n out→n+s.length≤2→out.length * 8 ^ s.length≤64→spec_SampleArgs_l0 (k:Int) a5 ps a7 a8 out=some (smp out s))
  (fun n out _ _ _=>by rw[spec_SampleArgs_l0_eq];simp [smp])
  (fun k p suf hd hk hkl ih n out ho hn hl=>by
   rw[List.length_cons] at hn
   have hl2:(out.length * 8) * 8 ^ suf.length≤64:=by rw[List.length_cons,Nat.pow_succ] at hl;rw[Nat.mul_assoc,Nat.mul_comm 8];exact hl
   have h8:1≤8 ^ suf.length:=Nat.one_le_pow _ _ (by omega)
   have hol:out.length * 8≤64:=Nat.le_trans (Nat.le_mul_of_pos_right _ h8) hl2
   have he:=ext_len (b:=vList p) out
   have hok:=okS_ext (b:=vList p) ho
   rw[spec_SampleArgs_l0_eq,at_of hk,atN_of hk,spec_IsListName_ok (by have:=hs p (List.mem_of_getElem? hk);omega),Option.bind_some,spec_choices_ok,Option.bind_some,
    spec_smp_l1 (fun l hl=>⟨by have:=(ho l hl).1;omega,(ho l hl).2⟩) (by omega) (by omega),ih _ _ hok (by omega) (Nat.le_trans (Nat.mul_le_mul_right _ he) hl2)]
   simp [hkl,smp])
 exact this 0 [[]] (by intro l hl;rw[List.mem_singleton.1 hl];simp) (by omega) (by
  have:ps.length=0∨ps.length=1∨ps.length=2:=by omega
  rcases this with h | h | h<;>rw[h]<;>decide)
theorem smp_ok:∀ {ps:List Str} {n:Nat} {out:List (List Val)},okSm n out→okSm (n+ps.length) (smp out ps)∧(smp out ps).length≤out.length * 8 ^ ps.length
 |[],n,out,h=>⟨h,by simp [smp]⟩
 |p :: ps,n,out,h=>by
  obtain ⟨h1,h2⟩:=smp_ok (ps:=ps) (okS_ext (b:=vList p) h)
  refine ⟨by rw[List.length_cons,show n+(ps.length+1)=n+1+ps.length by omega];exact h1,Nat.le_trans h2 ?_⟩
  rw[List.length_cons,Nat.pow_succ,Nat.mul_comm (8 ^ _),← Nat.mul_assoc]
  exact Nat.mul_le_mul_right _ (ext_len out)
theorem impl_smp_l4 {ch:List Val} {out:List (List Val)} {x:List Val} {n k:Int} {i:Nat} {ps:List Str} (hi:i≤1000) (ho:x.length≤2∧∀ v∈x,v.2.2.length≤2) (hc:ch.length≤8∧∀ v∈ch,v.2.2.length≤2)
  {m:Int} {nx:List (List Val)} (hn:nx.length≤900):impl_SampleArgs_l4 ch x n k out m i ch ch.length 0 nx ps=impl_SampleArgs_l3 ch n k out m ((i+1:Nat):Int) (nx++ch.map fun c=>x++[c]) ps:=by
 have:=loopD ch (fun j s=>∀ nx:List (List Val),nx.length+s.length≤910→impl_SampleArgs_l4 ch x n k out m i ch ch.length (j:Int) nx ps=impl_SampleArgs_l3 ch n k out m ((i+1:Nat):Int) (nx++s.map fun c=>x++[c]) ps)
  (fun nx _=>by rw[impl_SampleArgs_l4_eq,w64_nat (n:=i) (by omega)];simp)
  (fun j c suf hd hj hjl ih nx hl=>by
   have:=ho.1
   have:=hc.1
   have hv:=hc.2 c (List.mem_of_getElem? hj)
   rw[List.length_cons] at hl
   have hok:okVs x:=⟨by omega,fun v hv'=>by have:=ho.2 v hv';omega⟩
   rw[impl_SampleArgs_l4_eq,at_of hj,impl_copyValues_ok hok,Option.bind_some,impl_copyValue_ok (by omega),Option.bind_some,app_of (by simp;omega),app_of (by simp;omega),w64_nat (n:=j) (by omega),ih _ (by simp;omega)]
   simp [hjl])
 exact this nx (by omega)
theorem impl_smp_l3 {b:Bool} {out:List (List Val)} {n:Int} {k:Nat} {ps:List Str} (ho:okSm 2 out) (hl:out.length≤100) (hk:k≤1000) :
  impl_SampleArgs_l3 (choices b) n k out out.length 0 [] ps=impl_SampleArgs_l0 n ((k+1:Nat):Int) (ext (choices b) out) ps:=by
 have:=loopD out (fun i s=>∀ nx:List (List Val),nx.length+s.length * 8≤800→impl_SampleArgs_l3 (choices b) n k out out.length (i:Int) nx ps=impl_SampleArgs_l0 n ((k+1:Nat):Int) (nx++ext (choices b) s) ps)
  (fun nx _=>by rw[impl_SampleArgs_l3_eq,w64_nat (n:=k) (by omega)];simp [ext])
  (fun i x suf hd hi hil ih nx hn=>by
   have:=choices_len b
   rw[List.length_cons] at hn
   rw[impl_SampleArgs_l3_eq,at_of hi]
   simp only[hil,Int.ofNat_lt,decide_true,cond_true]
   refine (impl_smp_l4 (by omega) (ho x (List.mem_of_getElem? hi)) ⟨choices_len b,fun v hv=>choices_items hv⟩ (by omega)).trans ?_
   rw[ih _ (by simp;omega)]
   simp [ext])
 exact this [] (by simp;omega)
theorem impl_smp_l0 {ps:List Str} (hp:ps.length≤2) (hs:∀ p∈ps,p.length≤1048576) :
  impl_SampleArgs_l0 ps.length 0 [[]] ps=some (smp [[]] ps):=by
 have:=loopD ps (fun k s=>∀ (n:Nat) (out:List (List Val)),okSm n out→n+s.length≤2→out.length * 8 ^ s.length≤64→impl_SampleArgs_l0 ps.length (k:Int) out ps=some (smp out s))
  (fun n out _ _ _=>by rw[impl_SampleArgs_l0_eq];simp [smp])
  (fun k p suf hd hk hkl ih n out ho hn hl=>by
   rw[List.length_cons] at hn
   have hl2:(out.length * 8) * 8 ^ suf.length≤64:=by rw[List.length_cons,Nat.pow_succ] at hl;rw[Nat.mul_assoc,Nat.mul_comm 8];exact hl
   have h8:1≤8 ^ suf.length:=Nat.one_le_pow _ _ (by omega)
   have hol:out.length * 8≤64:=Nat.le_trans (Nat.le_mul_of_pos_right _ h8) hl2
   have he:=ext_len (b:=vList p) out
   have hok:=okS_ext (b:=vList p) ho
   have h3:=impl_smp_l3 (b:=vList p) (n:=ps.length) (k:=k) (ps:=ps) (fun l hl=>⟨by have:=(ho l hl).1;omega,(ho l hl).2⟩) (by omega:out.length≤100) (by omega)
   rw[impl_SampleArgs_l0_eq,at_of hk,atN_of hk,impl_IsListName_ok (by have:=hs p (List.mem_of_getElem? hk);omega),Option.bind_some,impl_choices_l1,impl_choices_l2]
   simp only[hkl,Int.ofNat_lt,decide_true,cond_true,smp]
   rw[← ih _ _ hok (by omega) (Nat.le_trans (Nat.mul_le_mul_right _ he) hl2),← h3]
   cases vList p<;>rfl)
 exact this 0 [[]] (by intro l hl;rw[List.mem_singleton.1 hl];simp) (by omega) (by
  have:ps.length=0∨ps.length=1∨ps.length=2:=by omega
  rcases this with h | h | h<;>rw[h]<;>decide)
def samples (fs:List Fun1) (rs:List Rule1) (s:Str):List (List Val):=cond (vProg fs rs&&(foundF fs s).2.2.2.2) (smp [[]] (foundF fs s).2.1) []
theorem found_params {fs:List Fun1} {rs:List Rule1} {s:Str} (h:vProg fs rs=true):(foundF fs s).2.1.length≤2:=by
 unfold foundF
 split
 ·rename_i f hf
  have hm:=List.mem_of_find?_eq_some hf
  simp only[vProg,Bool.and_eq_true] at h
  have:=List.all_eq_true.1 h.2.2.1.1 f hm
  simp only[vFun,Bool.and_eq_true,decide_eq_true_eq] at this
  exact this.2.1
 ·simp
theorem spec_SampleArgs_ok {fs:List Fun1} {rs:List Rule1} {s:Str} (h:size fs≤1048576) (h2:size rs≤1048576):spec_SampleArgs fs rs s=some (samples fs rs s):=by
 rw[spec_SampleArgs_eq,spec_FindFunction_ok h,Option.bind_some,spec_prog_ok h h2,Option.bind_some]
 unfold samples
 cases hv:vProg fs rs
 ·cases (foundF fs s).2.2.2.2<;>rfl
 ·rw[spec_smp_l0 (found_params hv) fun p hp=>str_len (found_size h).1 hp]
  cases (foundF fs s).2.2.2.2<;>rfl
theorem impl_SampleArgs_ok {fs:List Fun1} {rs:List Rule1} {s:Str} (h:size fs≤1048576) (h2:size rs≤1048576):impl_SampleArgs fs rs s=some (samples fs rs s):=by
 rw[impl_SampleArgs_eq,impl_FindFunction_ok h,Option.bind_some,impl_prog_ok h h2,Option.bind_some]
 unfold samples
 cases hv:vProg fs rs
 ·cases (foundF fs s).2.2.2.2<;>rfl
 ·rw[impl_smp_l0 (found_params hv) fun p hp=>str_len (found_size h).1 hp]
  cases (foundF fs s).2.2.2.2<;>rfl
theorem samples_ok {fs:List Fun1} {rs:List Rule1} {s:Str}:okSm 2 (samples fs rs s)∧(samples fs rs s).length≤64:=by
 unfold samples
 cases hv:vProg fs rs&&(foundF fs s).2.2.2.2
 ·exact ⟨fun l hl=>by simp at hl,by simp⟩
 ·rw[Bool.and_eq_true] at hv
  have hp:=found_params (s:=s) hv.1
  obtain ⟨h1,h2⟩:=smp_ok (ps:=(foundF fs s).2.1) (n:=0) (out:=[[]]) (by intro l hl;rw[List.mem_singleton.1 hl];simp)
  refine ⟨fun l hl=>⟨by have:=(h1 l hl).1;omega,(h1 l hl).2⟩,Nat.le_trans h2 ?_⟩
  have:(foundF fs s).2.1.length=0∨(foundF fs s).2.1.length=1∨(foundF fs s).2.1.length=2:=by omega
  rcases this with h | h | h<;>rw[h]<;>decide
end X
namespace X
open Go TM
open TM.Dat (size okd inr)
theorem getm {α:Type} (pre:List α) (e:α) (suf:List α):(pre++e :: suf)[pre.length]?=some e:=by simp
theorem setm {α:Type} (pre:List α) (e e':α) (suf:List α):(pre++e :: suf).set pre.length e'=pre++e' :: suf:=by simp
theorem ltm {α:Type} (pre:List α) (e:α) (suf:List α):decide ((pre.length:Int)<((pre++e :: suf).length:Int))=true:=by simp;omega
theorem nltm {α:Type} (l:List α):decide ((l.length:Int)<(l.length:Int))=false:=by simp
theorem markList {α:Type} {F:Int→Int→List α→Option (List α×Int)} {H:List α→Int→Int→Option Int} {wt:α→Nat} (ok:α→Prop)
  (hF1:∀ k l,F k (l.length:Int) l=some (l,k)) (hH1:∀ l k,H l k (l.length:Int)=some k)
  (hFe:∀ (pre:List α) (e:α) (suf:List α) (k:Int),ok e→pre.length<4611686018427387904→0≤k→k+wt e≤4611686018427387904→∃ e',F k (pre.length:Int) (pre++e :: suf)=F (k+wt e) ((pre.length+1:Nat):Int) (pre++e' :: suf)∧∀ pre' suf':List α,pre'.length=pre.length→H (pre'++e' :: suf') k (pre'.length:Int)=H (pre'++e' :: suf') (k+wt e) ((pre'.length+1:Nat):Int)) :
  ∀ (l:List α) (k:Int),(∀ x∈l,ok x)→0≤k→k+(sums (l.map wt):Nat)≤4611686018427387904→l.length≤4611686018427387904→∃ l',F k 0 l=some (l',k+(sums (l.map wt):Nat))∧H l' k 0=some (k+(sums (l.map wt):Nat)):=by
 have key:∀ (suf pre:List α) (k:Int),(∀ x∈suf,ok x)→0≤k→k+(sums (suf.map wt):Nat)≤4611686018427387904→pre.length+suf.length≤4611686018427387904→∃ suf':List α,F k (pre.length:Int) (pre++suf)=some (pre++suf',k+(sums (suf.map wt):Nat))∧∀ pre':List α,pre'.length=pre.length→H (pre'++suf') k (pre'.length:Int)=some (k+(sums (suf.map wt):Nat)):=by
  intro suf
  induction suf with
  |nil=>intro pre k _ _ _ _;exact ⟨[],by simpa [sums] using hF1 k pre,fun pre' _=>by simpa [sums] using hH1 pre' k⟩
  |cons e suf ih=>
   intro pre k ho h0 h1 h2
   simp only[List.map_cons,sums,List.length_cons] at h1 h2 ⊢
   obtain ⟨e',q1,q2⟩:=hFe pre e suf k (ho e (by simp)) (by omega) h0 (by omega)
   obtain ⟨suf',q3,q4⟩:=ih (pre++[e']) (k+wt e) (fun x hx=>ho x (by simp [hx])) (by omega) (by omega) (by simp;omega)
   refine ⟨e' :: suf',?_,fun pre' hp=>?_⟩
   ·rw[q1]
    rw[show (pre.length+1:Nat)=(pre++[e']).length by simp,show pre++e' :: suf=pre++[e']++suf by simp,q3]
    simp only[List.append_assoc,List.singleton_append]
    congr 2
    omega
   ·rw[q2 pre' suf' hp]
    have:=q4 (pre'++[e']) (by simp [hp])
    rw[show (pre'.length+1:Nat)=(pre'++[e']).length by simp,show pre'++e' :: suf'=pre'++[e']++suf' by simp,this]
    congr 1
    omega
 intro l k ho h0 h1 h2
 obtain ⟨l',q1,q2⟩:=key l [] k ho h0 h1 (by simpa using h2)
 exact ⟨l',by simpa using q1,by simpa using q2 [] rfl⟩
theorem w64_up {k:Int} (h0:0≤k) (h:k≤4611686018427387904):w64 (k+1)=k+1:=w64_id (by omega) (by omega)
theorem w64_upn {n:Nat} (h:n<4611686018427387904):w64 ((n:Int)+1)=((n+1:Nat):Int):=w64_nat (by omega)
def Marks {α:Type} (M:α→Int→Option (α×Int)) (H:α→Int→Option Int) (wt:α→Nat) (ok:α→Prop):Prop:=
 ∀ (x:α) (k:Int),ok x→0≤k→k+(wt x:Int)≤4611686018427387904→∃ y:α,M x k=some (y,k+(wt x:Int))∧H y k=some (k+(wt x:Int))
def wtI (l:Ty11):Nat:=sums (l.map fun _=>1)
theorem wtI_len (l:Ty11):wtI l=l.length:=by
 unfold wtI
 induction l with
 |nil=>rfl
 |cons x l ih=>simp only[List.map_cons,sums,ih,List.length_cons];omega
theorem mark_IntS:Marks laws_markIntS laws_heldIntS wtI (fun l=>l.length≤4611686018427387904):=by
 intro x k hx h0 h1
 have:=markList (F:=fun k i l=>laws_markIntS_l0 k i l) (H:=fun l k i=>laws_heldIntS_l0 l k i) (wt:=fun _=>1) (fun _=>True)
  (fun k l=>by rw[laws_markIntS_l0_eq,nltm,cond_false]) (fun l k=>by rw[laws_heldIntS_l0_eq,nltm,cond_false])
  (fun pre e suf k _ hp h0 h1=>⟨k,by
   rw[laws_markIntS_l0_eq,ltm,cond_true,at_of (getm pre e suf),atN_of (getm pre e suf),atN_of (getm pre e suf),setm,w64_up h0 (by omega),w64_upn hp];rfl,fun pre' suf' hl=>by
   rw[laws_heldIntS_l0_eq,ltm,cond_true,at_of (getm pre' k suf'),w64_up h0 (by omega),w64_upn (by omega)];simp⟩) x k (fun _ _=>trivial) h0 h1 hx
 obtain ⟨l',q1,q2⟩:=this
 exact ⟨l',by rw[laws_markIntS_eq];exact q1,by rw[laws_heldIntS_eq];exact q2⟩
theorem markText_l0_ex:∀ (m:Nat) (k:Int) (out:Ty1),0≤k→k<10 ^ m→k≤4611686018427387905→out.length+m+1≤1000→∃ t,laws_markText_l0 k out=some t:=by
 intro m
 induction m with
 |zero=>
  intro k out h0 h1 _ h2
  have:k=0:=by simp at h1;omega
  subst this
  rw[laws_markText_l0_eq]
  simp only[Int.lt_irrefl,decide_false,cond_false]
  unfold catS
  rw[if_pos (by simp;omega)]
  exact ⟨_,rfl⟩
 |succ m ih=>
  intro k out h0 h1 hb h2
  rw[laws_markText_l0_eq]
  unfold catS
  by_cases hk:0<k
  ·simp only[hk,decide_true,cond_true]
   rw[if_pos (by simp [bytesI];omega)]
   have hq:Int.tdiv k 10=k / 10:=Int.tdiv_eq_ediv_of_nonneg h0
   rw[hq,w64_id (by omega) (by omega)]
   refine ih _ _ (by omega) ?_ (by omega) (by simp [bytesI];omega)
   rw[Int.pow_succ] at h1
   omega
  ·simp only[hk,decide_false,cond_false]
   rw[if_pos (by simp;omega)]
   exact ⟨_,rfl⟩
noncomputable def mt (k:Int):Ty1:=(laws_markText k).getD []
theorem markText_ok {k:Int} (h0:0≤k) (h1:k≤4611686018427387905):laws_markText k=some (mt k):=by
 have:∃ t,laws_markText k=some t:=by
  rw[laws_markText_eq]
  cases decide (k≤0) with
  |true=>exact ⟨_,rfl⟩
  |false=>exact markText_l0_ex 20 k [] h0 (by omega) h1 (by simp)
 obtain ⟨t,h⟩:=this
 unfold mt
 rw[h]
 rfl
end X
namespace X
open Go TM
open TM.Dat (size okd inr)
def wtV (v:Val):Nat:=2+wtI v.2.2
theorem mark_ValueS:Marks laws_markValueS laws_heldValueS (fun l=>sums (l.map wtV)) (fun l=>l.length≤4611686018427387904):=by
 intro x k hx h0 h1
 have:=markList (F:=fun k i l=>laws_markValueS_l0 k i l) (H:=fun l k i=>laws_heldValueS_l0 l k i) (wt:=wtV) (fun _=>True)
  (fun k l=>by rw[laws_markValueS_l0_eq,nltm,cond_false]) (fun l k=>by rw[laws_heldValueS_l0_eq,nltm,cond_false])
  (fun pre e suf k _ hp h0 h1=>by
   have hw:wtV e=2+wtI e.2.2:=rfl
   obtain ⟨e',q1,q2⟩:=mark_IntS e.2.2 (k+1+1) (by have:=wtI_len e.2.2;omega) (by omega) (by omega)
   refine ⟨((Int.tmod k 3)==0,k+1,e'),?_,fun pre' suf' hl=>?_⟩
   ·rw[laws_markValueS_l0_eq,ltm,cond_true,at_of (getm pre e suf),atN_of (getm pre e suf),atN_of (getm pre e suf),setm,w64_up h0 (by omega),at_of (getm pre _ suf),atN_of (getm pre _ suf),atN_of (getm pre _ suf),setm,at_of (getm pre _ suf),atN_of (getm pre _ suf),atN_of (getm pre _ suf),w64_up (by omega) (by omega)]
    simp only
    rw[q1,Option.bind_some,atN_of (getm pre _ suf),setm,w64_upn hp]
    simp only
    rw[hw]
    congr 1
    omega
   ·rw[laws_heldValueS_l0_eq,ltm,cond_true,at_of (getm pre' _ suf'),at_of (getm pre' _ suf'),at_of (getm pre' _ suf'),w64_up h0 (by omega),w64_up (by omega) (by omega)]
    simp only
    rw[q2,Option.bind_some,w64_upn (by omega)]
    have:¬ k+1+1+(wtI e.2.2:Int)<0:=by omega
    simp only[beq_self_eq_true,Bool.not_true,cond_false,this,decide_false]
    rw[hw]
    congr 1
    omega) x k (fun _ _=>trivial) h0 h1 hx
 obtain ⟨l',q1,q2⟩:=this
 exact ⟨l',by rw[laws_markValueS_eq];exact q1,by rw[laws_heldValueS_eq];exact q2⟩
def wtVs (l:List Val):Nat:=sums (l.map wtV)
theorem mark_ValueSS:Marks laws_markValueSS laws_heldValueSS (fun l=>sums (l.map wtVs)) (fun l=>l.length≤4611686018427387904∧∀ x∈l,x.length≤4611686018427387904):=by
 intro x k hx h0 h1
 have:=markList (F:=fun k i l=>laws_markValueSS_l0 k i l) (H:=fun l k i=>laws_heldValueSS_l0 l k i) (wt:=wtVs) (fun x=>x.length≤4611686018427387904)
  (fun k l=>by rw[laws_markValueSS_l0_eq,nltm,cond_false]) (fun l k=>by rw[laws_heldValueSS_l0_eq,nltm,cond_false])
  (fun pre e suf k ho hp h0 h1=>by
   obtain ⟨e',q1,q2⟩:=mark_ValueS e k ho h0 h1
   refine ⟨e',?_,fun pre' suf' hl=>?_⟩
   ·rw[laws_markValueSS_l0_eq,ltm,cond_true,at_of (getm pre e suf),atN_of (getm pre e suf),atN_of (getm pre e suf),q1,Option.bind_some,atN_of (getm pre e suf),setm,w64_upn hp];rfl
   ·rw[laws_heldValueSS_l0_eq,ltm,cond_true,at_of (getm pre' e' suf'),q2,Option.bind_some,w64_upn (by omega)]
    have:¬ k+((sums (e.map wtV):Nat):Int)<0:=by omega
    simp only[this,decide_false,cond_false];rfl) x k hx.2 h0 h1 hx.1
 obtain ⟨l',q1,q2⟩:=this
 exact ⟨l',by rw[laws_markValueSS_eq];exact q1,by rw[laws_heldValueSS_eq];exact q2⟩
def MarkE {α:Type} [Dat α] (M:α→Int→Option (α×Int)):Prop:=
 ∀ (x:α) (k:Int),size x≤1048576→0≤k→k+8 * (size x:Int)≤4398046511104→∃ (y:α) (k':Int),M x k=some (y,k')∧k≤k'∧k'≤k+8 * (size x:Int)
theorem markL {α:Type} [Dat α] {F:Int→Int→List α→Option (List α×Int)}
  (hF1:∀ k l,F k (l.length:Int) l=some (l,k))
  (hFe:∀ (pre:List α) (e:α) (suf:List α) (k:Int),pre.length<4611686018427387904→size e≤1048576→0≤k→k+8 * (size e:Int)+8≤4398046511104→∃ e' k',F k (pre.length:Int) (pre++e :: suf)=F k' ((pre.length+1:Nat):Int) (pre++e' :: suf)∧k≤k'∧k'≤k+8 * (size e:Int)+8) :
  MarkE fun l k=>F k 0 l:=by
 have key:∀ (suf pre:List α) (k:Int),pre.length+size suf≤1048576→0≤k→k+8 * (size suf:Int)≤4398046511104→∃ (suf':List α) (k':Int),F k (pre.length:Int) (pre++suf)=some (pre++suf',k')∧k≤k'∧k'≤k+8 * (size suf:Int):=by
  intro suf
  induction suf with
  |nil=>intro pre k _ _ _;exact ⟨[],k,by simpa using hF1 k pre,by omega,by omega⟩
  |cons e suf ih=>
   intro pre k ho h0 h1
   have hs:size (e :: suf)=size e+size suf+1:=by simp only[size_list,List.map_cons,sums,List.length_cons];omega
   rw[hs] at ho h1 ⊢
   obtain ⟨e',k1,q1,q2,q3⟩:=hFe pre e suf k (by omega) (by omega) h0 (by omega)
   obtain ⟨suf',k2,q4,q5,q6⟩:=ih (pre++[e']) k1 (by simp;omega) (by omega) (by omega)
   refine ⟨e' :: suf',k2,?_,by omega,by omega⟩
   rw[q1,show (pre.length+1:Nat)=(pre++[e']).length by simp,show pre++e' :: suf=pre++[e']++suf by simp,q4]
   simp
 intro l k h h0 h1
 obtain ⟨l',k',q1,q2,q3⟩:=key l [] k (by simpa using h) h0 h1
 exact ⟨l',k',by simpa using q1,q2,q3⟩
theorem at_m {α ρ:Type} (pre:List α) (e:α) (suf:List α) (K:Nat→α→Option ρ):at_ (pre++e :: suf) (pre.length:Int) K=K pre.length e:=at_of (getm pre e suf) K
theorem atN_m {α ρ:Type} (pre:List α) (e:α) (suf:List α) (K:α→Option ρ):atN (pre++e :: suf) pre.length K=K e:=atN_of (getm pre e suf) K
theorem markT {k:Int} (h0:0≤k) (h1:k≤4611686018427387905):laws_markText k=some (mt k):=markText_ok h0 h1
theorem mE_IntS:MarkE laws_markIntS:=by
 have:=markL (F:=laws_markIntS_l0) (fun k l=>by rw[laws_markIntS_l0_eq,nltm,cond_false])
  (fun pre e suf k hp he h0 h1=>⟨_,_,by rw[laws_markIntS_l0_eq];simp only[ltm,cond_true,at_m,atN_m,setm,w64_upn hp,w64_up h0 (by omega)];rfl,by omega,by omega⟩)
 intro x k h;rw[laws_markIntS_eq];exact this x k h
theorem mE_StringS:MarkE laws_markStringS:=by
 have:=markL (F:=laws_markStringS_l0) (fun k l=>by rw[laws_markStringS_l0_eq,nltm,cond_false])
  (fun pre e suf k hp he h0 h1=>⟨_,_,by rw[laws_markStringS_l0_eq];simp only[ltm,cond_true,markT h0 (by omega),Option.bind_some,at_m,atN_m,setm,w64_upn hp,w64_up h0 (by omega)];rfl,by omega,by omega⟩)
 intro x k h;rw[laws_markStringS_eq];exact this x k h
theorem mE_LinS:MarkE laws_markLinS:=by
 have:=markL (F:=laws_markLinS_l0) (fun k l=>by rw[laws_markLinS_l0_eq,nltm,cond_false])
  (fun pre e suf k hp he h0 h1=>by
   have hs:size e=0+size e.2:=rfl
   obtain ⟨y,k',q1,q2,q3⟩:=mE_IntS e.2 (k+1) (by omega) (by omega) (by omega)
   exact ⟨_,_,by rw[laws_markLinS_l0_eq];simp only[ltm,cond_true,at_m,atN_m,setm,w64_upn hp,w64_up h0 (by omega:k≤4611686018427387904),q1,Option.bind_some];rfl,by omega,by omega⟩)
 intro x k h;rw[laws_markLinS_eq];exact this x k h
theorem mE_TermS:MarkE laws_markTermS:=by
 have:=markL (F:=laws_markTermS_l0) (fun k l=>by rw[laws_markTermS_l0_eq,nltm,cond_false])
  (fun pre e suf k hp he h0 h1=>⟨_,_,by rw[laws_markTermS_l0_eq];simp only[ltm,cond_true,at_m,atN_m,setm,w64_upn hp,w64_up h0 (by omega:k≤4611686018427387904),w64_up (k:=k+1) (by omega) (by omega),markT (k:=k+1) (by omega) (by omega),Option.bind_some];rfl,by omega,by omega⟩)
 intro x k h;rw[laws_markTermS_eq];exact this x k h
theorem mE_SumS:MarkE laws_markSumS:=by
 have:=markL (F:=laws_markSumS_l0) (fun k l=>by rw[laws_markSumS_l0_eq,nltm,cond_false])
  (fun pre e suf k hp he h0 h1=>by
   have hs:size e=0+size e.2:=rfl
   obtain ⟨y,k',q1,q2,q3⟩:=mE_TermS e.2 (k+1) (by omega) (by omega) (by omega)
   exact ⟨_,_,by rw[laws_markSumS_l0_eq];simp only[ltm,cond_true,at_m,atN_m,setm,w64_upn hp,w64_up h0 (by omega:k≤4611686018427387904),q1,Option.bind_some];rfl,by omega,by omega⟩)
 intro x k h;rw[laws_markSumS_eq];exact this x k h
theorem mE_ArgS:MarkE laws_markArgS:=by
 have:=markL (F:=laws_markArgS_l0) (fun k l=>by rw[laws_markArgS_l0_eq,nltm,cond_false])
  (fun pre e suf k hp he h0 h1=>by
   have hs:size e=0+(size e.2.1+size e.2.2):=rfl
   obtain ⟨y,k',q1,q2,q3⟩:=mE_SumS e.2.1 (k+1) (by omega) (by omega) (by omega)
   exact ⟨_,_,by rw[laws_markArgS_l0_eq];simp only[ltm,cond_true,at_m,atN_m,setm,w64_upn hp,w64_up h0 (by omega:k≤4611686018427387904),q1,Option.bind_some,markT (k:=k') (by omega) (by omega),w64_up (k:=k') (by omega) (by omega)];rfl,by omega,by omega⟩)
 intro x k h;rw[laws_markArgS_eq];exact this x k h
theorem mE_CallS:MarkE laws_markCallS:=by
 have:=markL (F:=laws_markCallS_l0) (fun k l=>by rw[laws_markCallS_l0_eq,nltm,cond_false])
  (fun pre e suf k hp he h0 h1=>by
   have hs:size e=size e.1+(size e.2.1+size e.2.2):=rfl
   obtain ⟨y,k',q1,q2,q3⟩:=mE_ArgS e.2.2 (k+1+1) (by omega) (by omega) (by omega)
   exact ⟨_,_,by rw[laws_markCallS_l0_eq];simp only[ltm,cond_true,at_m,atN_m,setm,w64_upn hp,w64_up h0 (by omega:k≤4611686018427387904),w64_up (k:=k+1) (by omega) (by omega),markT h0 (by omega),markT (k:=k+1) (by omega) (by omega),q1,Option.bind_some];rfl,by omega,by omega⟩)
 intro x k h;rw[laws_markCallS_eq];exact this x k h
theorem mE_PatternS:MarkE laws_markPatternS:=by
 have:=markL (F:=laws_markPatternS_l0) (fun k l=>by rw[laws_markPatternS_l0_eq,nltm,cond_false])
  (fun pre e suf k hp he h0 h1=>⟨_,_,by rw[laws_markPatternS_l0_eq];simp only[ltm,cond_true,at_m,atN_m,setm,w64_upn hp,w64_up h0 (by omega:k≤4611686018427387904),w64_up (k:=k+1) (by omega) (by omega),w64_up (k:=k+1+1) (by omega) (by omega),w64_up (k:=k+1+1+1) (by omega) (by omega),markT h0 (by omega),markT (k:=k+1+1) (by omega) (by omega),markT (k:=k+1+1+1) (by omega) (by omega),Option.bind_some];rfl,by omega,by omega⟩)
 intro x k h;rw[laws_markPatternS_eq];exact this x k h
theorem mE_FunctionS:MarkE laws_markFunctionS:=by
 have:=markL (F:=laws_markFunctionS_l0) (fun k l=>by rw[laws_markFunctionS_l0_eq,nltm,cond_false])
  (fun pre e suf k hp he h0 h1=>by
   have hs:size e=size e.1+(size e.2.1+(0+size e.2.2.2)):=rfl
   obtain ⟨y,k',q1,q2,q3⟩:=mE_StringS e.2.1 (k+1) (by omega) (by omega) (by omega)
   obtain ⟨y2,k2,q4,q5,q6⟩:=mE_LinS e.2.2.2 (k'+1) (by omega) (by omega) (by omega)
   exact ⟨_,_,by rw[laws_markFunctionS_l0_eq];simp only[ltm,cond_true,at_m,atN_m,setm,w64_upn hp,w64_up h0 (by omega:k≤4611686018427387904),w64_up (k:=k') (by omega) (by omega),markT h0 (by omega),q1,q4,Option.bind_some];rfl,by omega,by omega⟩)
 intro x k h;rw[laws_markFunctionS_eq];exact this x k h
theorem mE_RuleS:MarkE laws_markRuleS:=by
 have:=markL (F:=laws_markRuleS_l0) (fun k l=>by rw[laws_markRuleS_l0_eq,nltm,cond_false])
  (fun pre e suf k hp he h0 h1=>by
   have hs:size e=size e.1+(size e.2.1+(size e.2.2.1+(size e.2.2.2.1+(0+(size e.2.2.2.2.2.1+size e.2.2.2.2.2.2))))):=rfl
   obtain ⟨y,k',q1,q2,q3⟩:=mE_PatternS e.2.1 (k+1) (by omega) (by omega) (by omega)
   obtain ⟨y2,k2,q4,q5,q6⟩:=mE_SumS e.2.2.1 k' (by omega) (by omega) (by omega)
   obtain ⟨y3,k3,q7,q8,q9⟩:=mE_CallS e.2.2.2.1 k2 (by omega) (by omega) (by omega)
   obtain ⟨y4,k4,q10,q11,q12⟩:=mE_SumS e.2.2.2.2.2.1 (k3+1) (by omega) (by omega) (by omega)
   exact ⟨_,_,by rw[laws_markRuleS_l0_eq];simp only[ltm,cond_true,at_m,atN_m,setm,w64_upn hp,w64_up h0 (by omega:k≤4611686018427387904),w64_up (k:=k3) (by omega) (by omega),w64_up (k:=k4) (by omega) (by omega),markT h0 (by omega),markT (k:=k4) (by omega) (by omega),q1,q4,q7,q10,Option.bind_some];rfl,by omega,by omega⟩)
 intro x k h;rw[laws_markRuleS_eq];exact this x k h
theorem mE_Program {fs:List Fun1} {rs:List Rule1} {k:Int} (h:size (fs,rs)≤1048576) (h0:0≤k) (h1:k≤1099500000000):∃ a b k',laws_markProgram fs rs k=some (a,b,k')∧0≤k':=by
 rw[size_prod] at h
 obtain ⟨y,k',q1,q2,q3⟩:=mE_FunctionS fs k (by omega) h0 (by omega)
 obtain ⟨y2,k2,q4,q5,q6⟩:=mE_RuleS rs k' (by omega) (by omega) (by omega)
 exact ⟨y,y2,k2,by rw[laws_markProgram_eq,q1,Option.bind_some,q4,Option.bind_some],by omega⟩
end X
namespace X
open Go TM
open TM.Dat (size okd inr)
theorem wtVs_le {l:List Val} (h:l.length≤2∧∀ v∈l,v.2.2.length≤2):wtVs l≤8:=by
 have:∀ l:List Val,(∀ v∈l,v.2.2.length≤2)→wtVs l≤4 * l.length:=by
  intro l
  induction l with
  |nil=>intro _;exact Nat.le_refl 0
  |cons v l ih=>
   intro hv
   have h1:=ih fun x hx=>hv x (by simp [hx])
   have h2:=wtI_len v.2.2
   have h3:=hv v (by simp)
   simp only[wtVs,List.map_cons,sums,wtV,List.length_cons] at h1 ⊢
   omega
 have:=this l h.2
 omega
theorem wtSS_le:∀ {l:List (List Val)},okSm 2 l→sums (l.map wtVs)≤8 * l.length
 |[],_=>Nat.le_refl 0
 |x :: l,h=>by
  have h1:=wtVs_le (h x (by simp))
  have h2:=wtSS_le (l:=l) fun y hy=>h y (by simp [hy])
  simp only[List.map_cons,sums,List.length_cons]
  omega
theorem FnExactSampleArgs_ok {a0:List Fun1} {a1:List Rule1} {a2:Str} (h:okd (a0,a1,a2)) (_:inr (a0,a1,a2)):laws_FnExactSampleArgs a0 a1 a2=some true:=by
 rw[laws_FnExactSampleArgs_eq]
 by_cases hl:(1048576:Int)<(a2.length:Int)
 ·simp only[hl,decide_true,cond_true]
 ·simp only[hl,decide_false,cond_false]
  refine lawSz (by omega) (by omega) (laws_szProgram_ok ⟨h.1,h.2.1⟩ (by omega) (by omega)) fun s1=>?_
  have hs:size (a0,a1)≤1048576:=by omega
  have hs':=hs
  rw[size_prod] at hs'
  obtain ⟨hk,hn⟩:=samples_ok (fs:=a0) (rs:=a1) (s:=a2)
  have ho:okd (samples a0 a1 a2):=⟨by omega,fun x hx=>⟨by have:=(hk x hx).1;omega,fun v hv=>⟨trivial,trivial,by have:=(hk x hx).2 v hv;omega,fun _ _=>trivial⟩⟩⟩
  have hw:=wtSS_le hk
  obtain ⟨y,m1,m2⟩:=mark_ValueSS (samples a0 a1 a2) 1 ⟨by omega,fun x hx=>by have:=(hk x hx).1;omega⟩ (by omega) (show (1:Int)+((sums ((samples a0 a1 a2).map wtVs):Nat):Int)≤4611686018427387904 by omega)
  obtain ⟨p,q,k',m3,hk'⟩:=mE_Program (k:=1) hs (by omega) (by omega)
  have hn1:¬ (1:Int)+(sums ((samples a0 a1 a2).map wtVs):Nat)<0:=by omega
  have hn2:¬ k'<0:=by omega
  have e1:=spec_SampleArgs_ok (s:=a2) (fs:=a0) (rs:=a1) (by omega) (by omega)
  have e2:=impl_SampleArgs_ok (s:=a2) (fs:=a0) (rs:=a1) (by omega) (by omega)
  simp only[laws_toProgram_ok hs,Option.bind_some,e1,e2,laws_eqValueSS_self ho,laws_eqProgram_self (okd_of hs),m1,m2,m3,hn1,hn2,decide_false,beq_self_eq_true,Bool.not_true,Bool.not_false,cond_true,cond_false]
end X
