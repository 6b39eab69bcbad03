/- A part of the proof: a verified generator of conditions, and what each function of the program does. -/
import Derived.Test.YtaahcahglfjhfaaZ10
import Derived.Shelf.SlSortCmp.NoneTotal
set_option maxRecDepth 100000
set_option maxHeartbeats 4000000
set_option linter.unusedSimpArgs false
set_option linter.unusedVariables false

namespace Go.Vc.T
open Go Go.Vc Go.Proofs
section
attribute [local simp] Qc Qw Qm QN Qu
def sortS_ren:Go.Shelf.Ren:=⟨fun|6=>121|15=>132|14=>131|28=>141|29=>142|20=>133|21=>134|22=>135|23=>136|24=>137|25=>138|26=>139|27=>140|46=>143|47=>144|48=>145|49=>146|50=>147|57=>148|n=>n,fun|22=>126|24=>129|25=>145|3=>3|39=>160|0=>0|53=>170|55=>172|4=>4|46=>163|45=>162|50=>167|5=>5|9=>9|66=>173|70=>177|76=>179|77=>180|n=>n,fun|n=>n⟩
theorem sortS :Go.Proofs.SlLaysF.n6 Try.prog sortS_ren where
 mixed:=by kernel_rfl
 f6 := ⟨ "slices.SortFunc[[]loop.example/g01083/impl.sieve,loop.example/g01083/impl.sieve]", by decide, Try.func121.trans (congrArg some (by kernel_rfl))⟩
 f14 := ⟨ "slices.pdqsortCmpFunc[loop.example/g01083/impl.sieve]", by decide, Try.func131.trans (congrArg some (by kernel_rfl))⟩
 f15:=Try.func132.trans (congrArg some (by kernel_rfl))
 f20 := ⟨ "slices.insertionSortCmpFunc[loop.example/g01083/impl.sieve]", by decide, Try.func133.trans (congrArg some (by kernel_rfl))⟩
 f21 := ⟨ "slices.heapSortCmpFunc[loop.example/g01083/impl.sieve]", by decide, Try.func134.trans (congrArg some (by kernel_rfl))⟩
 f22 := ⟨ "slices.breakPatternsCmpFunc[loop.example/g01083/impl.sieve]", by decide, Try.func135.trans (congrArg some (by kernel_rfl))⟩
 f23 := ⟨ "slices.choosePivotCmpFunc[loop.example/g01083/impl.sieve]", by decide, Try.func136.trans (congrArg some (by kernel_rfl))⟩
 f24 := ⟨ "slices.reverseRangeCmpFunc[loop.example/g01083/impl.sieve]", by decide, Try.func137.trans (congrArg some (by kernel_rfl))⟩
 f25 := ⟨ "slices.partialInsertionSortCmpFunc[loop.example/g01083/impl.sieve]", by decide, Try.func138.trans (congrArg some (by kernel_rfl))⟩
 f26 := ⟨ "slices.partitionEqualCmpFunc[loop.example/g01083/impl.sieve]", by decide, Try.func139.trans (congrArg some (by kernel_rfl))⟩
 f27 := ⟨ "slices.partitionCmpFunc[loop.example/g01083/impl.sieve]", by decide, Try.func140.trans (congrArg some (by kernel_rfl))⟩
 f28:=Try.func141.trans (congrArg some (by kernel_rfl))
 f29:=Try.func142.trans (congrArg some (by kernel_rfl))
 f46 := ⟨ "slices.siftDownCmpFunc[loop.example/g01083/impl.sieve]", by decide, Try.func143.trans (congrArg some (by kernel_rfl))⟩
 f47:=Try.func144.trans (congrArg some (by kernel_rfl))
 f48:=Try.func145.trans (congrArg some (by kernel_rfl))
 f49 := ⟨ "slices.medianAdjacentCmpFunc[loop.example/g01083/impl.sieve]", by decide, Try.func146.trans (congrArg some (by kernel_rfl))⟩
 f50 := ⟨ "slices.medianCmpFunc[loop.example/g01083/impl.sieve]", by decide, Try.func147.trans (congrArg some (by kernel_rfl))⟩
 f57 := ⟨ "slices.order2CmpFunc[loop.example/g01083/impl.sieve]", by decide, Try.func148.trans (congrArg some (by kernel_rfl))⟩
 t0:=Try.underlying0
 a0:=Try.isAgg0
 z0:=Try.sizeOf0
 v0:=Try.zeroValue0
 t3:=Try.underlying3
 a3:=Try.isAgg3
 z3:=Try.sizeOf3
 v3:=Try.zeroValue3
 t4:=Try.underlying4
 a4:=Try.isAgg4
 z4:=Try.sizeOf4
 v4:=Try.zeroValue4
 t5:=Try.underlying5
 a5:=Try.isAgg5
 z5:=Try.sizeOf5
 v5:=Try.zeroValue5
 t9:=Try.underlying9
 a9:=Try.isAgg9
 z9:=Try.sizeOf9
 v9:=Try.zeroValue9
 t22:=Try.underlying126
 a22:=Try.isAgg126
 z22:=Try.sizeOf126
 v22:=Try.zeroValue126
 a24:=Try.isAgg129
 z24:=Try.sizeOf129
 t25:=Try.underlying145
 a25:=Try.isAgg145
 z25:=Try.sizeOf145
 v25:=Try.zeroValue145
 t39:=Try.underlying160
 a39:=Try.isAgg160
 z39:=Try.sizeOf160
 v39:=Try.zeroValue160
 t45:=Try.underlying162
 a45:=Try.isAgg162
 z45:=Try.sizeOf162
 v45:=Try.zeroValue162
 t46:=Try.underlying163
 a46:=Try.isAgg163
 z46:=Try.sizeOf163
 v46:=Try.zeroValue163
 t50:=Try.underlying167
 a50:=Try.isAgg167
 z50:=Try.sizeOf167
 v50:=Try.zeroValue167
 t53:=Try.underlying170
 a53:=Try.isAgg170
 z53:=Try.sizeOf170
 v53:=Try.zeroValue170
 t55:=Try.underlying172
 a55:=Try.isAgg172
 z55:=Try.sizeOf172
 v55:=Try.zeroValue172
 t66:=Try.underlying173
 a66:=Try.isAgg173
 z66:=Try.sizeOf173
 v66:=Try.zeroValue173
 t70:=Try.underlying177
 a70:=Try.isAgg177
 z70:=Try.sizeOf177
 v70:=Try.zeroValue177
 t76:=Try.underlying179
 a76:=Try.isAgg179
 z76:=Try.sizeOf179
 v76:=Try.zeroValue179
 t77:=Try.underlying180
 a77:=Try.isAgg180
 z77:=Try.sizeOf180
 v77:=Try.zeroValue180
theorem Q31:∀ x:List Int,¬ cmpL x x<0
 | []=>by simp [cmpL]
 | a :: x=>by simp [cmpL];exact Int.not_lt.1 (Q31 x)
theorem Q4a (a b:Int) (x y:List Int):cmpL (a :: x) (b :: y)<0↔a<b∨(a=b∧cmpL x y<0):=by
 have e:cmpL (a :: x) (b :: y)=if a=b then cmpL x y else if a<b then -1 else 1:=by rw [cmpL]
 rw [e]
 by_cases h:a=b
 ·simp [h]
 by_cases h2:a<b<;>simp [h,h2]
theorem Q3y:∀ x y z:List Int,cmpL x y<0→cmpL y z<0→cmpL x z<0
 | [],[],z,h1,h2=>h2
 | [],_ :: _,[],h1,h2=>by simp [cmpL] at h2
 | [],_ :: _,_ :: _,h1,h2=>by simp [cmpL]
 | _ :: _,[],_,h1,h2=>by simp [cmpL] at h1
 | _ :: _,_ :: _,[],h1,h2=>by simp [cmpL] at h2
 | a :: x,b :: y,c :: z,h1,h2=>by
  rw [Q4a] at h1 h2 ⊢;rcases h1 with h1|⟨rfl,h1⟩
  ·rcases h2 with h2|⟨rfl,h2⟩
   ·left;omega
   exact .inl h1
  rcases h2 with h2|⟨rfl,h2⟩
  ·exact .inl h2
  exact .inr ⟨rfl,Q3y x y z h1 h2⟩
theorem Q4F:∀ x y:List Int,¬ cmpL x y<0→¬ cmpL y x<0→x=y
 | [],[],_,_=>rfl
 | [],_ :: _,h1,_=>by simp [cmpL] at h1
 | _ :: _,[],_,h2=>by simp [cmpL] at h2
 | a :: x,b :: y,h1,h2=>by
  rw [Q4a] at h1 h2;have e:a=b:=by
   rcases Int.lt_trichotomy a b with h|h|h
   ·exact absurd (.inl h) h1
   ·exact h
   exact absurd (.inl h) h2
  subst e;rw [Q4F x y (fun h=>h1 (.inr ⟨rfl,h⟩)) fun h=>h2 (.inr ⟨rfl,h⟩)]
theorem cmpL_ok:CmpOk cmpL:=⟨Q31,Q3y,Q4F⟩
theorem sort_121 {xs:List (List Int)} (hp:∀ x∈xs,x.length≤1048576) (hl:xs.length≤1048576) {h:HP} {id n:Nat} (hid:h id=some (.mix 1 (Ls xs))):ICon Try.prog 121 [.own id 0 xs.length,.fn 122 []] h n { v:=.tup [],set:=[(id,.mix 1 (Ls (srt cmpL xs)))] } :=
 sort_icon (p:=fun x=>x.length≤1048576) (f:=121) ⟨_,Try.func121,by decide,rfl⟩ (fun _ _ enc h1 cf hO g cb blk off cap d w eg hcmp hH hblk hsz=>Go.Proofs.Any.slices_SortFunc sortS enc h1 cf hO g cb blk off cap d w eg hcmp hH hblk hsz)
  (fun p cap fv w=>Go.Proofs.AnyF.slices_SortFunc_none { sortS with } p cap fv w) (enters_of Try.func122 (by kernel_rfl) rfl) (fun x y _ _=>Q2z x y (cmpL x y) rfl) cmpL_ok (by simp) hp (by omega) hid
end
section
attribute [local simp] Qc Qw Qm QN Qu
noncomputable def mkB (m:Nat) (P:Nat→Prop):List Bool:=(List.range m).map fun k=>bo (P k)
@[simp] theorem mkB_len (m:Nat) (P:Nat→Prop):(mkB m P).length=m:=by simp [mkB]
theorem Q1q {m:Nat} {P Q:Nat→Prop} (h:∀ k,k<m→(P k↔Q k)):mkB m P=mkB m Q:=by
 unfold mkB;refine List.map_congr_left fun k hk=>?_;exact Q5Y (h k (List.mem_range.1 hk))
theorem mkB_set {m:Nat} {P:Nat→Prop} {v:Int} (hv:0≤v):(mkB m P).set v.toNat true=mkB m fun k=>P k∨(k:Int)=v:=by
 refine List.ext_getElem (by simp) fun i h1 h2=>?_;rw [List.getElem_set];simp only [mkB,List.getElem_map,List.getElem_range]
 by_cases h:v.toNat=i
 ·rw [if_pos h,Q1x (.inr (by omega))]
 rw [if_neg h];refine Q5Y ⟨.inl,fun q=>q.resolve_right (by omega)⟩
theorem mkB_rep (m:Nat):List.replicate m false=mkB m fun _=>False:=by
 refine List.ext_getElem (by simp) fun i h1 h2=>?_;simp [mkB,bo]
theorem mkB_at {m:Nat} {P:Nat→Prop} {i:Nat} (h:i<m):gx (mkB m P) (i:Int)=bo (P i):=by
 simp [gx,mkB,List.getD_eq_getElem?_getD,h]
theorem mkF_mkB (m:Nat) (P:Nat→Prop):∀ i,i≤m→mkF (mkB m P) i=flt i P:=by
 intro i hi;unfold mkF flt
 congr 1
 refine List.filter_congr fun k hk=>?_;have:=List.mem_range.1 hk;show gx (mkB m P) (k:Int)=_;exact mkB_at (by omega)
def clP (c:Cat) (xs:List Int) (k:Nat):Prop:=∃ a∈xs,∃ g:Nat,g<c.fr.length∧ix c.to a=ix c.fr g∧(k:Int)=ix (rx c.cs a) g
noncomputable def clo (c:Cat) (xs:List Int):List Int:=flt c.fr.length (clP c xs)
def Bd (c:Cat) (xs:List Int):Prop:=∀ a∈xs,0≤a∧a<(c.fr.length:Int)
theorem Bd.at {c:Cat} {xs:List Int} (h:Bd c xs) {i:Nat} (hi:i<xs.length):0≤ix xs i∧ix xs i<(c.fr.length:Int):=by
 rw [← Q16 _ _ hi];exact h _ (List.getElem_mem hi)
theorem clo_bd (c:Cat) (xs:List Int):Bd c (clo c xs):=by
 intro a ha;obtain ⟨i,hi,_,rfl⟩:=mem_flt.1 ha;omega
theorem clo_len (c:Cat) (xs:List Int):(clo c xs).length≤c.fr.length:=Q4W _ _
theorem Q6M {c:Cat} {xs:List Int} {i:Nat} (hi:i<xs.length) (k:Nat):clP c (xs.take (i+1)) k↔clP c (xs.take i) k∨∃ g:Nat,g<c.fr.length∧ix c.to (ix xs i)=ix c.fr g∧(k:Int)=ix (rx c.cs (ix xs i)) g:=by
 have e:xs.take (i+1)=xs.take i++[ix xs i]:=by rw [List.take_succ_eq_append_getElem hi,Q16]
 unfold clP;rw [e];constructor
 ·rintro ⟨a,ha,h⟩
  rcases List.mem_append.1 ha with q|q
  ·exact .inl ⟨a,q,h⟩
  rw [List.mem_singleton] at q;subst q;exact .inr h
 rintro (⟨a,ha,h⟩|h)
 ·exact ⟨a,List.mem_append_left _ ha,h⟩
 exact ⟨_,List.mem_append_right _ (List.mem_singleton.2 rfl),h⟩
theorem e_close {c:Cat} (h:c.Is) {xs:List Int} (hx:Bd c xs) (hl:xs.length≤1000):Q1M c xs=some (clo c xs):=by
 have n:=h.nums;unfold Q1M;rw [Qa (by omega)];refine Q1E xs.length (fun i=>mkB c.fr.length (clP c (xs.take i))) (e:=mkB c.fr.length (clP c xs)) (by rw [show ((c.fr.length:Int).toNat)=c.fr.length by omega,mkB_rep];exact Q1q fun k _=>⟨False.elim,fun ⟨a,ha,_⟩=>by simp at ha⟩) (by omega) (fun i hi=>?_) (by simp only;rw [if_neg (by omega),List.take_length]) ?_
 ·have ha:=hx.at hi;simp only;rw [if_pos (by omega),Option.bind_assoc];refine Q1E c.fr.length (fun j=>mkB c.fr.length fun k=>clP c (xs.take i) k∨∃ g:Nat,g<j∧ix c.to (ix xs i)=ix c.fr g∧(k:Int)=ix (rx c.cs (ix xs i)) g) (e:=mkB c.fr.length (clP c (xs.take (i+1)))) (Q1q fun k _=>⟨.inl,fun q=>q.resolve_right fun ⟨g,hg,_⟩=>by omega⟩) (by omega) (fun j hj=>?_) ?_ ?_
  ·simp only;rw [if_pos (by omega),Qa (by omega),Qa (by omega),Qa (by omega)]
   by_cases e:ix c.to (ix xs i)=ix c.fr j
   ·have d:=(h.two (f:=ix xs i) (g:=j) ha (by omega) e).1;have d2:=(cmp_nn h (a:=ix xs i) (b:=j) ha (by omega)).2;rw [if_pos e,Qa (by omega),Q5r (by omega) (by omega)];simp only [Option.bind_some];rw [Qa (by simp;omega)];simp only [Option.bind_some];rw [Qa (by unfold B64;omega),mkB_set d.1]
    congr 3
    refine Q1q fun k _=>⟨?_,?_⟩
    ·rintro ((q|⟨g,hg,q⟩)|q)
     ·exact .inl q
     ·exact .inr ⟨g,by omega,q⟩
     exact .inr ⟨j,by omega,e,q⟩
    rintro (q|⟨g,hg,q⟩)
    ·exact .inl (.inl q)
    by_cases hgj:g=j
    ·subst hgj;exact .inr q.2
    exact .inl (.inr ⟨g,by omega,q⟩)
   rw [if_neg e];simp only [Option.bind_some];rw [Qa (by unfold B64;omega)]
   congr 3
   refine Q1q fun k _=>⟨?_,?_⟩
   ·rintro (q|⟨g,hg,q⟩)
    ·exact .inl q
    exact .inr ⟨g,by omega,q⟩
   rintro (q|⟨g,hg,q⟩)
   ·exact .inl q
   by_cases hgj:g=j
   ·subst hgj;exact absurd q.1 e
   exact .inr ⟨g,by omega,q⟩
  ·simp only;rw [if_neg (by omega)]
   congr 2
   exact Q1q fun k _=>(Q6M hi k).symm
  simp only [Option.bind_some];rw [Qa (by unfold B64;omega)]
 refine Q1E c.fr.length (fun i=>flt i (clP c xs)) (e:=clo c xs) rfl (by omega) (fun i hi=>?_) (by simp only;rw [if_neg (by simp)];rfl) rfl;have hl:=Q4W i (clP c xs);simp only;rw [if_pos (by simp;omega),Qa (by simp;omega),mkB_at hi]
 by_cases e:clP c xs i
 ·rw [Q1x e,if_pos rfl,Qa (by simp;omega),flt_pos e];simp only [Option.bind_some];rw [Qa (by unfold B64;omega)]
 rw [Q1R e,if_neg (by simp),flt_neg e];simp only [Option.bind_some];rw [Qa (by unfold B64;omega)]
theorem e_sieveOf {c:Cat} (h:c.Is) {xs:List Int} (hx:Bd c xs) (hl:xs.length≤1000):QP c xs=some (clo c xs):=by
 have n:=h.nums;unfold QP Q11;simp only [Option.bind_some];rw [Qa (by omega)];refine Q1E xs.length (fun i=>mkB c.fr.length (clP c (xs.take i))) (e:=mkB c.fr.length (clP c xs)) (by rw [show ((c.fr.length:Int).toNat)=c.fr.length by omega,mkB_rep];exact Q1q fun k _=>⟨False.elim,fun ⟨a,ha,_⟩=>by simp at ha⟩) (by omega) (fun i hi=>?_) (by simp only;rw [if_neg (by omega),List.take_length]) ?_
 ·have ha:=hx.at hi;have lo:=Q45 c (ix c.to (ix xs i));simp only;rw [if_pos (by omega),Qa (by omega),Qa (by omega),Q4U h];simp only [Option.bind_some];rw [Option.bind_assoc];refine Q1E (outL c (ix c.to (ix xs i))).length (fun j=>mkB c.fr.length fun k=>clP c (xs.take i) k∨∃ t:Nat,t<j∧(k:Int)=ix (rx c.cs (ix xs i)) (ix (outL c (ix c.to (ix xs i))) t)) (e:=mkB c.fr.length (clP c (xs.take (i+1)))) (Q1q fun k _=>⟨.inl,fun q=>q.resolve_right fun ⟨g,hg,_⟩=>by omega⟩) (by omega) (fun j hj=>?_) ?_ ?_
  ·obtain ⟨g,hg,e,q1⟩:=Q6l hj;have d:=(h.two (f:=ix xs i) (g:=g) ha (by omega) e.symm).1;simp only;rw [if_pos (by omega),Qa (by omega),q1,(e_Then h (by omega) (by omega)).2];simp only [Option.bind_some];rw [Qa (by simp;omega),Qa (by unfold B64;omega),mkB_set d.1]
   congr 3
   refine Q1q fun k _=>⟨?_,?_⟩
   ·rintro ((q|⟨t,ht,q⟩)|q)
    ·exact .inl q
    ·exact .inr ⟨t,by omega,q⟩
    exact .inr ⟨j,by omega,by rw [q1];exact q⟩
   rintro (q|⟨t,ht,q⟩)
   ·exact .inl (.inl q)
   by_cases hgj:t=j
   ·subst hgj;rw [q1] at q;exact .inr q
   exact .inl (.inr ⟨t,by omega,q⟩)
  ·simp only;rw [if_neg (by omega)]
   congr 2
   refine Q1q fun k _=>?_;rw [Q6M hi k];refine or_congr_right ⟨?_,?_⟩
   ·rintro ⟨t,ht,q⟩
    obtain ⟨g,hg,e,q1⟩:=Q6l ht;exact ⟨g,hg,e.symm,by rw [q,q1]⟩
   rintro ⟨g,hg,e,q⟩
   obtain ⟨t,ht,q1⟩:=outL_in hg e.symm;exact ⟨t,ht,by rw [q,q1]⟩
  simp only [Option.bind_some];rw [Qa (by unfold B64;omega)]
 unfold Q2Q;simp only [mkB_len];rw [Qa (by omega)];simp only [Option.bind_some];rw [mkF_mkB _ _ _ (by omega)];rfl
theorem e_out25 {c:Cat} (h:c.Is) (x:Int):Q2h c x=some (outL c x):=Q4U h x
end
section
attribute [local simp] Qc Qw Qm QN Qu
theorem e_less (a b:List Int) (ha:a.length≤1000000):Q1Y a b=some (decide (cmpL a b<0)):=by
 unfold Q1Y;refine Q1l (Q:=fun o=>o=some (decide (cmpL a b<0))) (min a.length b.length) (fun i s=>s=(i:Int)∧(cmpL a b<0↔cmpL (a.drop i) (b.drop i)<0)) (fun e=>(match e with|.inl _=>some (decide ((a.length:Int)<(b.length:Int)))|.inr p1=>some p1)=some (decide (cmpL a b<0))) (by omega) ⟨rfl,by simp⟩ (fun i s hi hI=>?_) (fun s hI=>?_) fun e he=>he
 ·obtain ⟨rfl,hI⟩:=hI;have e1:a.drop i=ix a i :: a.drop (i+1):=by rw [List.drop_eq_getElem_cons (by omega),Q16]
  have e2:b.drop i=ix b i :: b.drop (i+1):=by rw [List.drop_eq_getElem_cons (by omega),Q16]
  rw [e1,e2,Q4a] at hI;rw [if_pos (by omega)];simp only [Option.bind_some];rw [decide_eq_true (by omega),if_pos rfl,Qa (by omega),Qa (by omega)]
  by_cases e:ix a i=ix b i
  ·left;rw [if_neg (by simp [e]),Qa (by unfold B64;omega)];exact ⟨_,rfl,rfl,by
    rw [hI];constructor
    ·rintro (q|q)
     ·omega
     exact q.2
    intro q;exact .inr ⟨e,q⟩⟩
  right;rw [if_pos e,Qa (by omega),Qa (by omega)];refine ⟨_,rfl,?_⟩;simp only
  congr 2
  rw [hI];exact propext ⟨.inl,fun q=>q.resolve_right fun z=>e z.1⟩
 obtain ⟨rfl,hI⟩:=hI;have hf:((if ((min a.length b.length:Nat):Int)<(a.length:Int) then some (decide (((min a.length b.length:Nat):Int)<(b.length:Int))) else some false:Option Bool))=some false:=by
  split
  ·rw [decide_eq_false (by omega)]
  rfl
 rw [hf];refine ⟨_,rfl,?_⟩;simp only
 congr 2
 rw [hI]
 by_cases h:a.length≤b.length
 ·rw [Nat.min_eq_left h,List.drop_length]
  by_cases h2:a.length=b.length
  ·rw [h2,List.drop_length];simp [cmpL]
  rw [List.drop_eq_getElem_cons (l:=b) (i:=a.length) (by omega)];simp [cmpL];omega
 rw [Nat.min_eq_right (by omega),List.drop_length,List.drop_eq_getElem_cons (l:=a) (i:=b.length) (by omega)];simp [cmpL];omega
def SR (a b:List Int):Prop:=¬ cmpL b a<0
theorem swap_at {α:Type} (A B:List α) (y x:α):((A++y :: x :: B).set (A.length+1) y).set A.length x=A++x :: y :: B:=by
 simp [List.set_append]
theorem Q7i {A B:List (List Int)} {x:List Int} (h:(A++B).Pairwise SR) (hB:∀ b∈B,cmpL x b<0) (hA:∀ a∈A,SR a x):(A++x :: B).Pairwise SR:=by
 rw [List.pairwise_append] at h ⊢;refine ⟨h.1,?_,?_⟩
 ·rw [List.pairwise_cons];exact ⟨fun b hb q=>Q31 x (Q3y _ _ _ (hB b hb) q),h.2.1⟩
 intro a ha b hb;rcases List.mem_cons.1 hb with rfl|q
 ·exact hA a ha
 exact h.2.2 a ha b q
theorem last_le {A:List (List Int)} {y x:List Int} (h:(A++[y]).Pairwise SR) (hy:SR y x):∀ a∈A++[y],SR a x:=by
 intro a ha;rcases List.mem_append.1 ha with q|q
 ·have:=(List.pairwise_append.1 h).2.2 a q y (by simp);exact cmpL_ok.ntrans hy this
 rw [List.mem_singleton] at q;subst q;exact hy
theorem rx_app {A B:List (List Int)} {x:List Int}:rx (A++x :: B) (A.length:Int)=x:=by simp [rx,List.getD_eq_getElem?_getD]
theorem e_sorted {L:List (List Int)} (hl:L.length≤1000) (h4:∀ x∈L,x.length≤1000000):Q1s L=some (srt cmpL L):=by
 unfold Q1s;rw [Qa (by omega)];refine Q1l (Q:=fun o=>o=some (srt cmpL L)) L.length (fun i st=>st.2=(i:Int)+1∧∃ S,st.1=S++L.drop (i+1)∧S.Perm (L.take (i+1))∧S.Pairwise SR) (fun e=>e=srt cmpL L) (by omega) ⟨rfl,L.take 1,(List.take_append_drop 1 L).symm,List.Perm.refl _,?_⟩ (fun i st hi hI=>?_) (fun st hI=>?_) fun e he=>by rw [he]
 ·cases L<;>simp
 ·obtain ⟨q,S,e1,hp,hs⟩:=hI;obtain ⟨s1,s2⟩:=st;simp only at q e1;subst q e1;have hSl:S.length=min (i+1) L.length:=by rw [hp.length_eq,List.length_take]
  by_cases hlt:i+1<L.length
  case neg =>
   right;simp only;rw [if_neg (by rw [List.length_append,List.length_drop];omega)];refine ⟨_,rfl,?_⟩;rw [List.drop_eq_nil_of_le (by omega),List.append_nil];rw [List.take_of_length_le (by omega)] at hp;exact Q2V cmpL_ok hp hs
  left;simp only;rw [if_pos (by rw [List.length_append,List.length_drop];omega),Option.bind_assoc];have ed:L.drop (i+1)=L[i+1] :: L.drop (i+2):=List.drop_eq_getElem_cons hlt;generalize hx:L[i+1]=x at ed;have hxl:x.length≤1000000:=by rw [← hx];exact h4 _ (List.getElem_mem _)
  rw [ed];refine Q1l (Q:=fun o=>∃ s':List (List Int) × Int,o=some (Ctl.next s')∧s'.2=((i+1:Nat):Int)+1∧∃ S,s'.1=S++L.drop (i+1+1)∧S.Perm (L.take (i+1+1))∧S.Pairwise SR) (i+1) (fun k (st:List (List Int) × Int)=>∃ A B,S=A++B∧st.1=A++x :: (B++L.drop (i+2))∧st.2=(A.length:Int)∧A.length+k=i+1∧∀ b∈B,cmpL x b<0) (fun e=>∃ A B,S=A++B∧e=A++x :: (B++L.drop (i+2))∧(∀ b∈B,cmpL x b<0)∧∀ a∈A,SR a x) (by omega) ⟨S,[],by simp,by simp,by simp only;omega,by omega,by simp⟩ (fun k st hk hI=>?_) (fun st hI=>?_) fun e he=>?_
  ·obtain ⟨A,B,hS,q1,q2,q3,hB⟩:=hI;obtain ⟨t1,t2⟩:=st;simp only at q1 q2;subst q1 q2;have hA:A ≠ []:=(by rintro rfl;simp at q3;omega);obtain ⟨A',y,rfl⟩:∃ A' y,A=A'++[y]:=⟨A.dropLast,A.getLast hA,(List.dropLast_concat_getLast hA).symm⟩;have hl1:(A'++[y]).length=A'.length+1:=(by simp);simp only;rw [if_pos (by rw [hl1];omega),Qa (by rw [hl1];simp;omega),Qa (by rw [hl1];unfold B64;omega),Qa (by rw [hl1];simp;omega),rx_app];have r1:rx (A'++[y]++x :: (B++L.drop (i+2))) ((((A'++[y]).length:Nat):Int) - 1)=y:=by
    rw [hl1,show (((A'.length+1:Nat):Int) - 1)=(A'.length:Int) by omega,List.append_assoc];exact rx_app
   rw [r1,e_less _ _ hxl];simp only [Option.bind_some]
   by_cases hc:cmpL x y<0
   ·left;rw [decide_eq_true hc,if_pos rfl];rw [Qa (by rw [hl1];simp;omega),Qa (by rw [hl1];unfold B64;omega),Qa (by rw [hl1];simp;omega),Qa (by rw [hl1];simp;omega),Qa (by rw [hl1];unfold B64;omega),Qa (by rw [hl1];simp;omega),Qa (by rw [hl1];unfold B64;omega)];refine ⟨_,rfl,A',y :: B,by rw [hS];simp,?_,by simp only;rw [hl1];omega,by omega,?_⟩
    ·simp only;rw [hl1,show (((A'.length+1:Nat):Int).toNat)=A'.length+1 by omega,show ((((A'.length+1:Nat):Int) - 1).toNat)=A'.length by omega,List.append_assoc,List.cons_append];exact swap_at A' (B++L.drop (i+2)) y x
    intro b hb;rcases List.mem_cons.1 hb with rfl|q
    ·exact hc
    exact hB b q
   right;rw [decide_eq_false hc,if_neg (by simp)];refine ⟨_,rfl,A'++[y],B,hS,rfl,hB,last_le ?_ hc⟩;rw [hS] at hs;exact (List.pairwise_append.1 hs).1
  ·obtain ⟨A,B,hS,q1,q2,q3,hB⟩:=hI;obtain ⟨t1,t2⟩:=st;simp only at q1 q2;subst q1 q2;have:A=[]:=List.length_eq_zero_iff.1 (by omega);subst this;simp only;rw [if_neg (by simp)];exact ⟨_,rfl,[],B,hS,rfl,hB,by simp⟩
  obtain ⟨A,B,hS,rfl,hB,hA⟩:=he;simp only [Option.bind_some];rw [Qa (by unfold B64;omega)];refine ⟨_,rfl,by simp only;omega,A++x :: B,by simp,?_,?_⟩
  ·have e2:L.take (i+1+1)=L.take (i+1)++[x]:=(by rw [List.take_succ_eq_append_getElem hlt,hx]);rw [e2];refine List.perm_middle.trans ?_;rw [← hS];exact (List.Perm.cons x hp).trans (List.perm_append_singleton x _).symm
  rw [hS] at hs;exact Q7i hs hB hA
 obtain ⟨q,S,e1,hp,hs⟩:=hI;obtain ⟨s1,s2⟩:=st;simp only at q e1;subst q e1;have hSl:S.length=min (L.length+1) L.length:=by rw [hp.length_eq,List.length_take]
 simp only;rw [if_neg (by rw [List.length_append,List.length_drop];omega)];refine ⟨_,rfl,?_⟩;rw [List.drop_eq_nil_of_le (by omega),List.append_nil];rw [List.take_of_length_le (by omega)] at hp;exact Q2V cmpL_ok hp hs
end
section
attribute [local simp] Qc Qw Qm QN Qu
theorem flt_cg {n:Nat} {p q:Nat→Prop} (h:∀ i,i<n→(p i↔q i)):flt n p=flt n q:=by
 unfold flt
 congr 1
 exact List.filter_congr fun i hi=>Q5Y (h i (List.mem_range.1 hi))
theorem Af2 {c:Cat} (h:c.Is) {f:Int} (hf:0≤f∧f<(c.fr.length:Int)):Ar c f (ix c.fr f) (ix c.to f):=(h.Af hf).1
inductive Sv (c:Cat) (out:List Int):List Int→Prop
 | nil:Sv c out []
 | step (s:List Int) (a:Int) (h:Sv c out s) (ha:a∈out):Sv c out (clo c (s++[a]))
theorem Sv.bd {c:Cat} {out:List Int} {s:List Int} (h:Sv c out s):Bd c s∧s.length≤c.fr.length:=by
 cases h with
 | nil=>exact ⟨fun a ha=>by simp at ha,by simp⟩
 | step t b _ _=>exact ⟨clo_bd _ _,clo_len _ _⟩
theorem Bd.snoc {c:Cat} {s:List Int} {a:Int} (h:Bd c s) (ha:0≤a∧a<(c.fr.length:Int)):Bd c (s++[a]):=by
 intro b hb;rcases List.mem_append.1 hb with q|q
 ·exact h b q
 rw [List.mem_singleton] at q;subst q;exact ha
theorem Sv.skip {c:Cat} (hc:c.Is) {out:List Int} (ho:Bd c out) {s:List Int} (h:Sv c out s) {a:Int} (ha:a∈s):clo c (s++[a])=s:=by
 cases h with
 | nil=>simp at ha
 | step t b ht hb =>
  have ht2:=(ht.bd.1).snoc (ho b hb);generalize hu:t++[b]=u at ha ht2;unfold clo;refine flt_cg fun k hk=>⟨?_,?_⟩
  ·rintro ⟨x,hx,g,hg,e,q⟩
   have hx2:x∈clo c u:=by
    rcases List.mem_append.1 hx with z|z
    ·exact z
    rw [List.mem_singleton] at z;subst z;exact ha
   obtain ⟨i,hi,⟨f,hf,g1,hg1,e1,q1⟩,rfl⟩:=mem_flt.1 hx2;have a1:=Af2 hc (ht2 f hf);have a2:=Af2 hc (f:=(g1:Int)) (by omega);have a3:=Af2 hc (f:=(g:Int)) (by omega);rw [e1] at a1;have a12:=Ar.two hc a1 a2;rw [← q1] at a12;have e2:ix c.to (g1:Int)=ix c.fr (g:Int):=(by rw [← e];exact a12.2.2.symm);rw [e2] at a2;have a23:=Ar.two hc a2 a3;have hb:=a23.1;refine ⟨f,hf,(ix (rx c.cs (g1:Int)) (g:Int)).toNat,by omega,?_,?_⟩
   ·rw [Int.toNat_of_nonneg hb.1,a23.2.1,← e1]
   rw [Int.toNat_of_nonneg hb.1,q,q1];exact hc.assoc a1 a2 a3
  intro q;have a1:=hc.Af (f:=(k:Int)) (by omega);have a2:=hc.Ai a1.2.2;have hid:=a2.1;refine ⟨(k:Int),List.mem_append_left _ (mem_flt.2 ⟨k,hk,q,rfl⟩),(ix c.id (ix c.to (k:Int))).toNat,by omega,?_,?_⟩
  ·rw [Int.toNat_of_nonneg hid.1,a2.2.1]
  rw [Int.toNat_of_nonneg hid.1];exact ((hc.idl a1.1).2).symm
theorem e_place {L:List (List Int)} (hn:L.length<1000000) (x:List Int):Q1a L x=some (posL L x):=by
 unfold Q1a Q2q posL;refine Q41 L.length (fun i=>rx L i=x) (eb:=fun i=>Sum.inr (i:Int)) (eg:=Sum.inl ()) (by omega) (fun i hi h=>?_) (fun i hi h=>?_) (by simp) (fun m hm hp hlt=>?_) fun h=>?_
 ·rw [if_pos (by omega),Qa (by omega)];simp only [Option.bind_some,decide_eq_true_eq,if_neg h];rw [Qa (by unfold B64;omega)]
 ·rw [if_pos (by omega),Qa (by omega)];simp only [Option.bind_some,decide_eq_true_eq,if_pos h]
 ·simp only;rw [Q4X hm hp hlt]
 simp only;rw [Q64 h]
theorem posL_nn {L:List (List Int)} {x:List Int}:posL L x ≥ 0↔x∈L:=by
 unfold posL;constructor
 ·intro h;rcases Q40 L.length (fun i=>rx L i=x) with ⟨h1,_⟩|⟨k,hk,h2,_⟩
  ·omega
  rw [← h2];exact Q5j hk
 intro h;rcases Q40 L.length (fun i=>rx L i=x) with ⟨_,h2⟩|⟨k,hk,_,h3⟩
 ·obtain ⟨j,hj,rfl⟩:=List.getElem_of_mem h;exact absurd (Q1N _ _ hj).symm (h2 j hj)
 omega
structure GS (c:Cat) (out:List Int) (L:List (List Int)):Prop where
 sv:∀ t∈L,Sv c out t
 nd:L.Nodup
theorem GS.snoc {c:Cat} {out:List Int} {L:List (List Int)} (h:GS c out L) {t:List Int} (ht:Sv c out t) (hn:t ∉ L):GS c out (L++[t]):=by
 refine ⟨fun u hu=>?_,?_⟩
 ·rcases List.mem_append.1 hu with q|q
  ·exact h.sv u q
  rw [List.mem_singleton] at q;subst q;exact ht
 exact List.nodup_append.2 ⟨h.nd,by simp,fun a ha b hb e=>by rw [List.mem_singleton] at hb;subst hb e;exact hn ha⟩
def Grown (c:Cat) (out s:List Int) (L L':List (List Int)):Prop:=(∃ M,L'=L++M)∧GS c out L'∧L'.length≤17∧(L'.length≤16→s∈L'∧∀ t∈L',t ∉ L→∀ a∈out,clo c (t++[a])∈L')
theorem e_grow {c:Cat} (hc:c.Is) {out:List Int} (ho:Bd c out) (hol:out.length≤40):∀ (k:Nat) (s:List Int) (L:List (List Int)),Sv c out s→GS c out L→L.length≤17→18≤k+L.length→∃ L',QL k c out s L=some L'∧Grown c out s L L':=by
 have nn:=hc.nums;intro k
 induction k with
 | zero=>intro s L _ _ h1 h2;omega
 | succ k ih =>
  intro s L hs hL h1 h2;have sb:=hs.bd;have hb:∃ b:Bool,(((Q1a L s).bind fun v3=>if v3 ≥ 0 then some true else some (decide ((L.length:Int) > 16)))=some b)∧(b=true↔s∈L∨L.length > 16):=by
   rw [e_place (by omega)];simp only [Option.bind_some]
   by_cases q:posL L s ≥ 0
   ·rw [if_pos q];exact ⟨true,rfl,by simp [posL_nn.1 q]⟩
   rw [if_neg q];exact ⟨_,rfl,by rw [decide_eq_true_eq];exact ⟨fun z=>.inr (by omega),fun z=>z.elim (fun z=>absurd (posL_nn.2 z) q) fun z=>by omega⟩⟩
  obtain ⟨b,e1,e2⟩:=hb;unfold QL;rw [e1];simp only [Option.bind_some]
  by_cases hbt:b=true
  ·rw [if_pos hbt];refine ⟨L,rfl,⟨[],by simp⟩,hL,h1,fun h=>⟨?_,fun t ht hn=>absurd ht hn⟩⟩;rcases e2.1 hbt with q|q
   ·exact q
   omega
  rw [if_neg hbt];have hn:¬ (s∈L∨L.length > 16):=fun z=>hbt (e2.2 z);have hs1:s ∉ L:=fun z=>hn (.inl z);have hs2:L.length≤16:=Nat.le_of_not_lt fun z=>hn (.inr z);rw [Qa (by simp;omega)];refine Q1l (Q:=fun o=>∃ L',o=some L'∧Grown c out s L L') out.length (fun i (st:List (List Int) × Int)=>st.2=(i:Int)∧(∃ M,st.1=L++[s]++M)∧GS c out st.1∧st.1.length≤17∧(st.1.length≤16→(∀ t∈st.1,t ∉ L++[s]→∀ a∈out,clo c (t++[a])∈st.1)∧∀ j:Nat,j<i→clo c (s++[ix out j])∈st.1)) (fun e=>Grown c out s L e) (by omega) ⟨rfl,⟨[],by simp⟩,hL.snoc hs hs1,by simp;omega,fun _=>⟨fun t ht hn=>absurd ht hn,fun j hj=>by omega⟩⟩ (fun i st hi hI=>?_) (fun st hI=>?_) fun e he=>⟨e,rfl,he⟩
  ·obtain ⟨q,⟨M,q1⟩,hg,h17,hcl⟩:=hI;obtain ⟨K,s2⟩:=st;simp only at q q1 hg h17 hcl;subst q;left;have ha:ix out i∈out:=(by rw [← Q16 _ _ hi];exact List.getElem_mem hi);have hab:=ho _ ha;unfold Q2S Q2T;simp only;rw [if_pos (by omega),Qa (by omega)];simp only [Option.bind_some]
   by_cases hin:ix out i∈s
   ·rw [Q1x hin,if_neg (by simp)];simp only [Option.bind_some];rw [Qa (by unfold B64;omega)];refine ⟨_,rfl,by simp only;omega,⟨M,q1⟩,hg,h17,fun h=>⟨(hcl h).1,fun j hj=>?_⟩⟩
    by_cases hji:j=i
    ·subst hji;rw [hs.skip hc ho hin,q1];simp
    exact (hcl h).2 j (by omega)
   rw [Q1R hin,if_pos (by simp),Qa (by omega)];simp only [Option.bind_some];rw [Qa (by omega),Qa (by simp;omega),e_close hc (sb.1.snoc hab) (by simp;omega)];simp only [Option.bind_some];have hKl:K.length ≥ L.length+1:=(by rw [q1];simp);obtain ⟨L',eL,⟨M',qM⟩,g',h17',hcl'⟩:=ih (clo c (s++[ix out i])) K (.step s _ hs ha) hg h17 (by omega);rw [eL];simp only [Option.bind_some];rw [Qa (by unfold B64;omega)];refine ⟨_,rfl,by simp only;omega,⟨M++M',by simp only;rw [qM,q1];simp⟩,g',h17',fun h=>?_⟩;simp only at h;have hsub:∀ t∈K,t∈L':=fun t ht=>by rw [qM];exact List.mem_append_left _ ht
   have hK16:K.length≤16:=(by rw [qM,List.length_append] at h;omega);have c1:=hcl hK16;have c2:=hcl' h;refine ⟨fun t ht hn a ha=>?_,fun j hj=>?_⟩
   ·by_cases htK:t∈K
    ·exact hsub _ (c1.1 t htK hn a ha)
    exact c2.2 t ht htK a ha
   by_cases hji:j=i
   ·subst hji;exact c2.1
   exact hsub _ (c1.2 j (by omega))
  obtain ⟨q,⟨M,q1⟩,hg,h17,hcl⟩:=hI;obtain ⟨K,s2⟩:=st;simp only at q q1 hg h17 hcl;subst q;simp only;rw [if_neg (by omega)];refine ⟨_,rfl,⟨[s]++M,by rw [q1];simp⟩,hg,h17,fun h=>⟨by rw [q1];simp,fun t ht hn a ha=>?_⟩⟩
  by_cases hts:t=s
  ·subst hts;obtain ⟨j,hj,rfl⟩:=List.getElem_of_mem ha;rw [Q16 _ _ hj];exact (hcl h).2 j hj
  exact (hcl h).1 t ht (by simp [hn,hts]) a ha
structure Full (c:Cat) (out:List Int) (L:List (List Int)):Prop where
 g:GS c out L
 l:L.length≤16
 a:∀ t,Sv c out t→t∈L
theorem Q4Y {c:Cat} {out:List Int} {L:List (List Int)} (g:GS c out L) (l:L.length≤16) (h0:[]∈L) (hs:∀ t∈L,∀ a∈out,clo c (t++[a])∈L):Full c out L:=by
 refine ⟨g,l,fun t ht=>?_⟩
 induction ht with
 | nil=>exact h0
 | step s a _ ha ih=>exact hs s ih a ha
theorem Full.few {c:Cat} {out:List Int} {L M:List (List Int)} (h:Full c out L) (g:GS c out M):M.length≤16:=Nat.le_trans (g.nd.length_le_of_subset fun t ht=>h.a t (g.sv t ht)) h.l
theorem Full.perm {c:Cat} {out:List Int} {L M:List (List Int)} (h:Full c out L) (g:Full c out M):L.Perm M:=(List.perm_ext_iff_of_nodup h.g.nd g.g.nd).2 fun t=>⟨fun q=>g.a t (h.g.sv t q),fun q=>h.a t (g.g.sv t q)⟩
theorem srt_eq {L M:List (List Int)} (h:L.Perm M):srt cmpL L=srt cmpL M:=Q2V cmpL_ok ((Q2U cmpL L).trans h) (srt_pw cmpL_ok L)
end
attribute [local simp] unk unA unE unT unC flat eL eI Qk Q13 Cat.cells
noncomputable def Qy (c_:Cat) (x_:Int):Option (List (List Int) × Bool) :=
 (QR (σ:=List (List Int) × Int) (ε:=(List (List Int)) ⊕ (List (List Int) × Bool)) (fun s31 =>
  if s31.2<(s31.1.length:Int) then
   (
    (QE c_ x_).bind fun v34 =>
    (QR (σ:=List (List Int) × Int) (ε:=(List (List Int) × Bool) ⊕ (List (List Int))) (fun s47 =>
     if s47.2<(v34.length:Int) then
      (
       ass (0≤s47.2∧s47.2<(v34.length:Int)) <|
       ass (0≤s31.2∧s31.2<(s47.1.length:Int)) <|
       (Q3n (rx s47.1 s31.2)).bind fun v52 =>
       ass ((v52++[ix v34 s47.2]).length≤1073741824) <|
       (QP c_ (v52++[ix v34 s47.2])).bind fun v54 =>
       (Q2 s47.1 v54).bind fun v55 =>
       if v55=true then
        some (Sum.inl s47.1)
       else
        if (s47.1.length:Int)=16 then
         some (Sum.inr ([],false))
        else
         ass ((s47.1++[v54]).length≤1073741824) <|
         some (Sum.inl (s47.1++[v54])):Option ((List (List Int)) ⊕ (List (List Int) × Bool))).bind fun e49 =>
      match e49 with
      | .inl b49 =>
       ass (B64 (s47.2+1)) <|
       some (Ctl.next (b49,s47.2+1))
      | .inr p49 =>
       some (Ctl.ret (Sum.inl p49))
     else
      some (Ctl.ret (Sum.inr s47.1))) fuel (s31.1,0)).bind fun e47 =>
    match e47 with
    | .inl p47 =>
     some (Sum.inr p47)
    | .inr p47 =>
     some (Sum.inl p47):Option ((List (List Int)) ⊕ (List (List Int) × Bool))).bind fun e33 =>
   match e33 with
   | .inl b33 =>
    ass (B64 (s31.2+1)) <|
    some (Ctl.next (b33,s31.2+1))
   | .inr p33 =>
    some (Ctl.ret (Sum.inr p33))
  else
   some (Ctl.ret (Sum.inl s31.1))) fuel (([[]]:List (List Int)),0)).bind fun e1 =>
 match e1 with
 | .inl b1 =>
  ass (∀ x∈b1,x.length≤1048576) <|
  ass (b1.length≤1048576) <|
  some (srt cmpL b1,true)
 | .inr p1 =>
  some p1
theorem Q1d {F : Fx} {st st' : St} (m : List (Nat × Nat)) (h : (m.map Prod.fst).Nodup ∧ (m.map Prod.snd).Nodup ∧ (∀ id, id < F.pins → look id m = some id) ∧ (∀ p ∈ m, p.2 < st'.n) ∧ (∀ p ∈ st'.h, p.1 < st'.n) ∧ (∀ p ∈ st'.s, p.2 = rl m (st.get p.1) ∨ p.2 = .bot) ∧ ∀ p ∈ st'.h, hhOk m st.h p.1 p.2 := by simp [hP, hhOk, back, idQ, Cat.cells, UA, U1, IA, I1, LA, L1, BA, B1, EA, E1, E2, eB, eI, eL, XClassifier.cells, Qx _ Qf _ (fun _=>rfl), Qx _ eL _ (fun _=>rfl)]) : Wk F st st' := Wk.r1 m h
theorem Q2L {F : Fx} {st st' : St} (m : Nat) (h : ((idQ m).map Prod.fst).Nodup ∧ ((idQ m).map Prod.snd).Nodup ∧ (∀ id, id < F.pins → look id (idQ m) = some id) ∧ (∀ p ∈ (idQ m), p.2 < st'.n) ∧ (∀ p ∈ st'.h, p.1 < st'.n) ∧ (∀ p ∈ st'.s, p.2 = rl (idQ m) (st.get p.1) ∨ p.2 = .bot) ∧ ∀ p ∈ st'.h, hhOk (idQ m) st.h p.1 p.2 := by simp [hP, hhOk, back, idQ, Cat.cells, UA, U1, IA, I1, LA, L1, BA, B1, EA, E1, E2, eB, eI, eL, XClassifier.cells, Qx _ Qf _ (fun _=>rfl), Qx _ eL _ (fun _=>rfl)]) : Wk F st st' := Wk.r1 (idQ m) h
@[simp] abbrev Yb (a:List Int) (b:List (Nat × AV)):List (Nat × AV):=(21,.own 1 0 a.length)::(22,iV (a.length:Int))::b
@[simp] abbrev Yk (a:Int) (b:List (List Int) × Int) (c:List (Nat × AV)):List (Nat × AV):=(1,iV a)::(6,.own 0 0 b.1.length)::c
theorem Q39 (c_:Cat) (x_:Int) (r:List (List Int) × Bool) (h:Qy c_ x_=some r):FContract Try.prog true 98 [.rptr (c_.cells true),iV x_] (.tup [.lst true 1 (Ls r.1),.val (.bool r.2)]):=by
 refine Q2v true (ts:=[4,5]) (rs:=[.lst true 1 (Ls r.1),.val (.bool r.2)]) Try.func98 rfl rfl rfl rfl (by simp [Try.f98]) fun F hN hP hW=>?_;unfold Qy at h;refine Q0 (Ql [] mo (by rw [hN];decide) fun K hK=>?_);simp;repeat refine sdQ ?_
 refine hK _ ?_;clear hK K;refine tn (Q5 (st':=⟨Y3 c_ [(1,iV x_)],[],0⟩) (Q1d []) (Q0 (Ql [] mo (by rw [hN];decide) fun K hK=>?_)));simp;repeat refine sdQ ?_
 refine hK _ ?_;clear hK K;refine tn (Q5 (st':=⟨Y3 c_ [(1,iV x_),(6,.own 0 0 1)],[(0,.mix 1 [[.own 1 0 0]]),(1,.mix 1 [])],2⟩) (Q1d [(1,0),(0,1)]) (Q0 (Q0 (Ql [] mo (by rw [hN];decide) fun K hK=>?_))));simp;repeat refine sdQ ?_
 refine hK _ (tn (Q5 (st':=⟨Y3 c_ [(1,iV x_),(6,.own 0 0 1),(7,iV 0)],[(0,.mix 1 [[.own 1 0 0]]),(1,.mix 1 [])],2⟩) (Q1d [(0,0),(1,1)]) ?_));clear hK K;replace ⟨e1,h,h1⟩:=bind_some h;refine Qv (fun b1:List (List Int)=>⟨[(6,.own 0 0 b1.length)],[(0,.mix 1 (Ls b1))],1⟩) (fun b1=>Sum.inl b1=e1) ?_ ?_
 ·refine Q5 (st':=⟨Y3 c_ [(1,iV x_),(6,.own 0 0 (([[]]:List (List Int)).length)),(7,iV 0)],[(0,.mix 1 (Ls ([[]]:List (List Int))))],2⟩) (Wk.frz1 hW (j:=0) (e:=1) (c':=.lst true 1 []) rfl (by simp) (.lit rfl (by simp) rfl (by simp [Q5P])) (by simp [St.get,look]) rfl (by simp [look,Ls,Is])) (Q7 (QM h (fun s31:List (List Int) × Int=>⟨Y3 c_ (Yk x_ s31 [(7,iV s31.2)]),[(0,.mix 1 (Ls s31.1))],1⟩) (Q1d [(0,0)]) ?_));clear h;intro k31 s31 c31 h hk31;refine Q0 (Q0 (Ql [] mo (by rw [hN];decide) fun K hK=>?_));simp;repeat refine sdQ ?_
  refine hK _ ?_;clear hK K;refine tn (Q5 (st':=⟨Y3 c_ (Yk x_ s31 [(7,iV s31.2),(16,.val (.bool (decide (s31.2<(s31.1.length:Int)))))]),[(0,.mix 1 (Ls s31.1))],1⟩) (Q1d [(0,0)]) (Q8 rfl (fun g=>?_) fun g=>?_))
  ·have g32:s31.2<(s31.1.length:Int):=gQ;clear g;replace h:=if_l g32 h;refine Q9 (tn (Q0 ?_));replace ⟨e33,h,h33⟩:=bind_some h;refine Qv (fun b33:List (List Int)=>⟨Y3 c_ [(1,iV x_),(6,.own 0 0 b33.length),(7,iV s31.2)],[(0,.mix 1 (Ls b33))],1⟩) (fun b33=>Sum.inl b33=e33) ?_ ?_
   ·refine Q7 (Q0 (Ql [] mo (by rw [hN];decide) fun K hK=>?_));simp;(repeat with_reducible refine sdQ ?_);replace ⟨v34,hv34,h⟩:=bind_some h;refine QH (fz:=[]) (Q1v _ _ v34 hv34) (.cons (.preT (by simp [Cat.cells])) (.cons .val .nil)) ?_;simp;(repeat refine sdQ ?_);refine hK _ (tn (Q5 (st':=⟨Y3 c_ (Yk x_ s31 ((7,iV s31.2)::Yb v34 [(23,iV 0)])),[(0,.mix 1 (Ls s31.1)),(1,rI v34)],2⟩) (Q1d [(0,0),(1,1)]) (Q7 ?_)));clear hK K;replace ⟨e47,he47,h47⟩:=bind_some h;refine QM he47 (fun s47:List (List Int) × Int=>⟨Y3 c_ (Yk x_ s47 ((7,iV s31.2)::Yb v34 [(23,iV s47.2)])),[(0,.mix 1 (Ls s47.1)),(1,rI v34)],2⟩) (Q1d [(0,0),(1,1)]) ?_;intro k47 s47 c47 h hk47;refine Q0 (Ql [] mo (by rw [hN];decide) fun K hK=>?_);simp;(repeat refine sdQ ?_);refine hK _ ?_;clear hK K;refine tn (Q5 (st':=⟨Y3 c_ (Yk x_ s47 ((7,iV s31.2)::Yb v34 [(23,iV s47.2),(24,.val (.bool (decide (s47.2<(v34.length:Int)))))])),[(0,.mix 1 (Ls s47.1)),(1,rI v34)],2⟩) (Q1d [(0,0),(1,1)]) (Q0 (Q8 rfl (fun g=>?_) fun g=>?_)))
    ·have g48:s47.2<(v34.length:Int):=gQ;clear g;replace h:=if_l g48 h;refine Q9 (tn (Q0 ?_));replace ⟨e49,h,h49⟩:=bind_some h;refine Qv (fun b49:List (List Int)=>⟨Y3 c_ ((1,iV x_)::(6,.own 0 0 b49.length)::(7,iV s31.2)::Yb v34 [(23,iV s47.2)]),[(0,.mix 1 (Ls b49)),(1,rI v34)],2⟩) (fun b49=>Sum.inl b49=e49) ?_ ?_
     ·refine Q7 (Q0 (Ql [] mo (by rw [hN];decide) fun K hK=>?_));replace ⟨a50,h⟩:=Q6 h;simp [at_I a50];(repeat refine sdQ ?_);refine hK _ ?_;clear hK K;refine tn (Q5 (st':=⟨Y3 c_ (Yk x_ s47 ((7,iV s31.2)::(9,iV (ix v34 s47.2))::Yb v34 [(23,iV s47.2)])),[(0,.mix 1 (Ls s47.1)),(1,rI v34)],2⟩) (Q1d [(0,0),(1,1)]) (Q0 (Ql [] mo (by rw [hN];decide) fun K hK=>?_)));replace ⟨a51,h⟩:=Q6 h;simp [at_L a51];(repeat with_reducible refine sdQ ?_);replace ⟨v52,hv52,h⟩:=bind_some h;refine QH (fz:=[]) (w_i_clone _ v52 hv52) (.cons .lst .nil) ?_;replace ⟨a53,h⟩:=Q6 h;(try simp only [List.length_append,List.length_cons,List.length_nil] at a53);simp [at_L a51,a53];(repeat with_reducible refine sdQ ?_);replace ⟨v54,hv54,h⟩:=bind_some h;refine Q29 (fz:=[]) false (Contract.toF1 (Q2X _ _ v54 hv54)) (PurK.ofL (.cons (.preT (by simp [Cat.cells])) (.cons (.whole (by simp [IA,I1,LA,L1]) (by simp) (by simp)) .nil))) ?_;simp [at_L a51];(repeat refine sdQ ?_);refine hK _ ?_;clear hK K;refine tn (Q5 (st':=⟨Y3 c_ (Yk x_ s47 ((7,iV s31.2)::(10,.rptr [lI v54])::Yb v34 [(23,iV s47.2)])),[(0,.mix 1 (Ls s47.1)),(1,rI v34)],2⟩) (Wk.frz hW [(5,[lI v54])] [(0,0),(1,1)] (by simp [AV.ro,Cat.cells,UA,U1,IA,I1,LA,L1,BA,B1,EA,E1,E2,eB,eI,eL]) (by simp [hP,hhOk,back,Cat.cells,UA,U1,IA,I1,LA,L1,BA,B1,EA,E1,E2,eB,eI,eL])) (Q0 (Q0 (Ql [] mo (by rw [hN];decide) fun K hK=>?_))));simp;(repeat with_reducible refine sdQ ?_);replace ⟨v55,hv55,h⟩:=bind_some h;refine QH (fz:=[]) (Qn _ _ v55 hv55) (.cons (.smix rfl (by simp) (Q1m (by simp [Cat.cells,Q13]))) (.cons (.fnL (by simp) (.cons .rptr .nil)) .nil)) ?_;simp;(repeat refine sdQ ?_);refine hK _ ?_;clear hK K;refine tn (Q5 (st':=⟨Y3 c_ (Yk x_ s47 ((7,iV s31.2)::(10,.rptr [lI v54])::Yb v34 [(23,iV s47.2),(39,.val (.bool v55))])),[(0,.mix 1 (Ls s47.1)),(1,rI v34)],2⟩) (Q1d [(0,0),(1,1)]) (Q8 rfl (fun g=>?_) fun g=>?_))
      ·have g56:v55=true:=gQ;clear g;replace h:=if_l g56 h;refine Qr (tx (bh ?_));exact jn (b:=s47.1) (Option.some.inj h) (Q1d [(0,0),(1,1)])
      have g56:¬ (v55=true):=gQ;clear g;replace h:=if_r g56 h;refine Q9 (tn (Q0 (Q0 (Ql [] mo (by rw [hN];decide) fun K hK=>?_))));simp;(repeat refine sdQ ?_);refine hK _ ?_;clear hK K;refine tn (Q5 (st':=⟨Y3 c_ (Yk x_ s47 ((7,iV s31.2)::(10,.rptr [lI v54])::Yb v34 [(23,iV s47.2),(42,.val (.bool ((s47.1.length:Int) == 16)))])),[(0,.mix 1 (Ls s47.1)),(1,rI v34)],2⟩) (Q1d [(0,0),(1,1)]) (Q8 rfl (fun g=>?_) fun g=>?_))
      ·have g57:(s47.1.length:Int)=16:=gQ;clear g;replace h:=if_l g57 h;refine Q0 (Ql [] mo (by rw [hN];decide) fun K hK=>?_);simp;(repeat refine sdQ ?_);refine hK _ (tn (Q5 (st':=⟨[(4,nS),(5,.val (.bool false))],[],0⟩) (Q1d []) (Qj (tr (br (tr (lr (br (br (tr (lr (br (tr ?_)))))))))))));clear hK K;cases h;have h:=h49;(try dsimp only at h);cases h;have q:_=e47:=hk47;have h:=h47;rw [← q] at h;clear q;(try dsimp only at h);cases h;have h:=h33;(try dsimp only at h);cases h;have q:_=e1:=hk31;have h:=h1;rw [← q] at h;clear q;(try dsimp only at h);have hr:=Option.some.inj h;rw [← hr];exact (.two .nil (.two .val .nil))
      have g57:¬ ((s47.1.length:Int)=16):=gQ;clear g;replace h:=if_r g57 h;refine Q9 (tn (Ql [46] mo (by rw [hN];decide) fun K hK=>?_));replace ⟨a58,h⟩:=Q6 h;(try simp only [List.length_append,List.length_cons,List.length_nil] at a58);simp [a58];(repeat refine sdQ ?_);refine hK _ (bn ?_);clear hK K;exact jn (b:=s47.1++[v54]) (Option.some.inj h) (Q1d [(3,0),(1,1)])
     intro b49 hb49;have h:=h49;(try rw [← hb49] at h);clear h49;(try dsimp only at h);refine Ql [] mo (by rw [hN];decide) fun K hK=>?_;replace ⟨a59,h⟩:=Q6 h;simp [QA a59];(repeat refine sdQ ?_);refine hK _ ?_;clear hK K;cases h;exact rn (s':=(b49,s47.2+1)) hk47 (Q1d [(0,0),(1,1)])
    have g48:¬ (s47.2<(v34.length:Int)):=gQ;clear g;replace h:=if_r g48 h;refine Qr (tx (lx (bh (bn ?_))));cases h;have q:_=e47:=hk47;have h:=h47;rw [← q] at h;clear q;(try dsimp only at h);exact jn (b:=s47.1) (Option.some.inj h) (Q1d [(0,0)])
   intro b33 hb33;have h:=h33;(try rw [← hb33] at h);clear h33;(try dsimp only at h);refine Ql [] mo (by rw [hN];decide) fun K hK=>?_;replace ⟨a60,h⟩:=Q6 h;simp [QA a60];(repeat refine sdQ ?_);refine hK _ ?_;clear hK K;cases h;exact rn (s':=(b33,s31.2+1)) hk31 (Q1d [(0,0)])
  have g32:¬ (s31.2<(s31.1.length:Int)):=gQ;clear g;replace h:=if_r g32 h;refine Qr (tx (lx (bh ?_)));cases h;exact jn (b:=s31.1) hk31 (Q1d [(0,0)])
 intro b1 hb1;have h:=h1;try rw [← hb1] at h
 clear h1;try dsimp only at h
 refine Q0 (w_runXM [] mo (by rw [hN];decide) fun K hK=>?_);simp;repeat with_reducible refine sdQ ?_
 replace ⟨a61,h⟩:=Q6 h;replace ⟨a62,h⟩:=Q6 h;refine Q3Y (fz:=[]) (sort_121 a61 a62 (by simp [look])) ?_;simp;repeat refine sdQ ?_
 refine hK _ ?_;clear hK K;refine tn (Q5 (st':=⟨[(6,.own 0 0 ((srt cmpL b1).length))],[(0,.mix 1 (Ls (srt cmpL b1)))],1⟩) (Q1d [(0,0)]) (Q0 (Ql [] mo (by rw [hN];decide) fun K hK=>?_)));simp;repeat refine sdQ ?_
 refine hK _ (tn (Q5 (st':=⟨[(4,.own 0 0 ((srt cmpL b1).length)),(5,.val (.bool true))],[(0,.mix 1 (Ls (srt cmpL b1)))],1⟩) (Q1d [(0,0)]) (Qj ?_)));clear hK K;have hr:=Option.some.inj h;rw [← hr];exact (.two (.smix rfl (by simp) (Q1m (by simp [Cat.cells,Q13]))) (.two .val .nil))
section
attribute [local simp] Qc Qw Qm QN Qu
theorem e_same1 (a b:List Int):Qz a b=some (decide (b=a)):=by
 unfold Qz Q2R;rfl
theorem e_index1 {L:List (List Int)} (hn:L.length<1000000) (x:List Int):Q4 L x=some (posL L x):=by
 unfold Q4 posL;refine Q41 L.length (fun i=>rx L i=x) (eb:=fun i=>Sum.inr (i:Int)) (eg:=Sum.inl ()) (by omega) (fun i hi h=>?_) (fun i hi h=>?_) (by simp) (fun m hm hp hlt=>?_) fun h=>?_
 ·rw [if_pos (by omega),Qa (by omega),e_same1];simp only [Option.bind_some,decide_eq_true_eq];rw [if_neg (fun z=>h z.symm),Qa (by unfold B64;omega)]
 ·rw [if_pos (by omega),Qa (by omega),e_same1];simp only [Option.bind_some,decide_eq_true_eq];rw [if_pos h.symm]
 ·simp only;rw [Q4X hm hp hlt]
 simp only;rw [Q64 h]
theorem Q63 {L:List (List Int)} (hn:L.length<1000000) (x:List Int):Q2 L x=some (bo (x∈L)):=by
 unfold Q2;rw [e_index1 hn];simp only [Option.bind_some]
 by_cases h:x∈L
 ·rw [Q1x h,decide_eq_true (posL_nn.2 h)]
 rw [Q1R h,decide_eq_false fun z=>h (posL_nn.1 z)]
theorem rx_pre {L M:List (List Int)} {i:Nat} (h:i<L.length):rx (L++M) (i:Int)=rx L i:=by
 simp [rx,List.getD_eq_getElem?_getD,List.getElem?_append_left h]
def Many (c:Cat) (out:List Int):Prop:=∃ M,GS c out M∧M.length=17
theorem Full.not_many {c:Cat} {out:List Int} {L:List (List Int)} (h:Full c out L):¬ Many c out:=fun ⟨M,g,e⟩=>by have:=h.few g;omega
theorem Q6O {c:Cat} (hc:c.Is) (x:Int):(∃ L,Full c (outL c x) L∧Qy c x=some (srt cmpL L,true))∨(Many c (outL c x)∧Qy c x=some ([],false)):=by
 have nn:=hc.nums;have ho:Bd c (outL c x):=fun a ha=>by
  obtain ⟨i,hi,_,rfl⟩:=mem_flt.1 ha;omega
 have hol:=Q45 c x;generalize hout:outL c x=out at ho hol ⊢;have eo:QE c x=some out:=by rw [← hout];exact Q4U hc x
 unfold Qy;refine Q1l (Q:=fun o=>(∃ L,Full c out L∧o=some (srt cmpL L,true))∨(Many c out∧o=some ([],false))) 16 (fun i (st:List (List Int) × Int)=>st.2=(i:Int)∧i≤st.1.length∧st.1.length≤16∧GS c out st.1∧[]∈st.1∧∀ j:Nat,j<i→∀ a∈out,clo c (rx st.1 j++[a])∈st.1) (fun e=>(∃ L,Full c out L∧e = .inl L)∨(Many c out∧e = .inr ([],false))) (by omega) ⟨rfl,by simp,by simp,⟨fun t ht=>by rw [List.mem_singleton] at ht;subst ht;exact .nil,by simp⟩,by simp,fun j hj=>by omega⟩ (fun i st hi hI=>?_) (fun st hI=>?_) fun e he=>?_
 ·obtain ⟨q,h1,h2,hg,h0,hcl⟩:=hI;obtain ⟨L,s2⟩:=st;simp only at q h1 h2 hg h0 hcl;subst q;simp only
  by_cases hlt:i<L.length
  case neg =>
   right;rw [if_neg (by omega)];refine ⟨_,rfl,.inl ⟨L,Q4Y hg h2 h0 fun t ht a ha=>?_,rfl⟩⟩;obtain ⟨j,hj,rfl⟩:=List.getElem_of_mem ht;rw [Q1N _ _ hj];exact hcl j (by omega) a ha
  rw [if_pos (by omega),eo];simp only [Option.bind_some];rw [Option.bind_assoc];refine Q1l (Q:=fun (o:Option (Ctl (List (List Int) × Int) (List (List Int) ⊕ (List (List Int) × Bool))))=>(∃ s':List (List Int) × Int,o=some (.next s')∧s'.2=((i+1:Nat):Int)∧i+1≤s'.1.length∧s'.1.length≤16∧GS c out s'.1∧[]∈s'.1∧∀ j:Nat,j<i+1→∀ a∈out,clo c (rx s'.1 j++[a])∈s'.1)∨∃ e,o=some (.ret e)∧((∃ L,Full c out L∧e = .inl L)∨(Many c out∧e = .inr ([],false)))) out.length (fun k (st:List (List Int) × Int)=>st.2=(k:Int)∧(∃ M,st.1=L++M)∧st.1.length≤16∧GS c out st.1∧∀ j:Nat,j<k→clo c (rx L i++[ix out j])∈st.1) (fun (e:(List (List Int) × Bool) ⊕ List (List Int))=>(∃ K M,e = .inr K∧K=L++M∧K.length≤16∧GS c out K∧∀ a∈out,clo c (rx L i++[a])∈K)∨(Many c out∧e = .inl ([],false))) (by omega) ⟨rfl,⟨[],by simp⟩,h2,hg,fun j hj=>by omega⟩ (fun k st hk hI=>?_) (fun st hI=>?_) fun e he=>?_
  ·obtain ⟨q,⟨M,q1⟩,hK,gK,cK⟩:=hI;obtain ⟨K,s2⟩:=st;simp only at q q1 hK gK cK;subst q;have hKL:K.length ≥ L.length:=(by rw [q1];simp);have er:rx K (i:Int)=rx L i:=(by rw [q1];exact rx_pre hlt);have hs:Sv c out (rx L i):=hg.sv _ (Q5j hlt);have ha:ix out k∈out:=(by rw [← Q16 _ _ hk];exact List.getElem_mem hk);have hs2:=Sv.step _ _ hs ha;unfold Q3n;simp only;rw [if_pos (by omega),Qa (by omega),Qa (by omega),er,Qa (by have:=hs.bd.2;omega)];simp only [Option.bind_some];rw [Qa (by have:=hs.bd.2;simp;omega),e_sieveOf hc (hs.bd.1.snoc (ho _ ha)) (by have:=hs.bd.2;simp;omega)];simp only [Option.bind_some];rw [Q63 (by omega)];simp only [Option.bind_some]
   by_cases hin:clo c (rx L i++[ix out k])∈K
   ·left;rw [Q1x hin,if_pos rfl];simp only [Option.bind_some];rw [Qa (by unfold B64;omega)];refine ⟨_,rfl,by simp only;omega,⟨M,q1⟩,hK,gK,fun j hj=>?_⟩
    by_cases hjk:j=k
    ·subst hjk;exact hin
    exact cK j (by omega)
   rw [Q1R hin,if_neg (by simp)];have g2:=gK.snoc hs2 hin
   by_cases h16:K.length=16
   ·right;rw [if_pos (by omega)];exact ⟨_,rfl,.inr ⟨⟨_,g2,by simp [h16]⟩,rfl⟩⟩
   left;rw [if_neg (by omega),Qa (by simp;omega)];simp only [Option.bind_some];rw [Qa (by unfold B64;omega)];refine ⟨_,rfl,by simp only;omega,⟨M++[clo c (rx L i++[ix out k])],by simp only;rw [q1];simp⟩,by simp;omega,g2,fun j hj=>?_⟩
   by_cases hjk:j=k
   ·subst hjk;simp
   exact List.mem_append_left _ (cK j (by omega))
  ·obtain ⟨q,⟨M,q1⟩,hK,gK,cK⟩:=hI;obtain ⟨K,s2⟩:=st;simp only at q q1 hK gK cK;subst q;simp only;rw [if_neg (by omega)];refine ⟨_,rfl,.inl ⟨K,M,rfl,q1,hK,gK,fun a ha=>?_⟩⟩;obtain ⟨j,hj,rfl⟩:=List.getElem_of_mem ha;rw [Q16 _ _ hj];exact cK j hj
  rcases he with ⟨K,M,rfl,q1,hK,gK,cK⟩|⟨hm,rfl⟩
  ·left;have hKL:K.length ≥ L.length:=(by rw [q1];simp);simp only [Option.bind_some];rw [Qa (by unfold B64;omega)];refine ⟨_,rfl,by simp only;omega,by simp only;omega,hK,gK,by simp only;rw [q1];exact List.mem_append_left _ h0,fun j hj a ha=>?_⟩;simp only;have er:rx K (j:Int)=rx L j:=(by rw [q1];exact rx_pre (by omega));rw [er]
   by_cases hji:j=i
   ·subst hji;exact cK a ha
   rw [q1];exact List.mem_append_left _ (hcl j (by omega) a ha)
  right;exact ⟨_,rfl,.inr ⟨hm,rfl⟩⟩
 ·obtain ⟨q,h1,h2,hg,h0,hcl⟩:=hI;obtain ⟨L,s2⟩:=st;simp only at q h1 h2 hg h0 hcl;subst q;simp only;rw [if_neg (by omega)];refine ⟨_,rfl,.inl ⟨L,Q4Y hg h2 h0 fun t ht a ha=>?_,rfl⟩⟩;obtain ⟨j,hj,rfl⟩:=List.getElem_of_mem ht;rw [Q1N _ _ hj];exact hcl j (by omega) a ha
 rcases he with ⟨L,hf,rfl⟩|⟨hm,rfl⟩
 ·left;simp only;have hb:∀ t∈L,t.length≤1048576:=fun t ht=>by have:=(hf.g.sv t ht).bd.2;omega
  rw [Qa hb,Qa (by have:=hf.l;omega)];exact ⟨L,hf,rfl⟩
 right;exact ⟨hm,rfl⟩
def SvR (c:Cat) (x:Int) (o:Option (List (List Int))):Prop:=match o with
 | some L=>Q1D c x=some (L,true)∧Qy c x=some (L,true)∧L.length≤16∧∀ t∈L,Bd c t∧t.length≤c.fr.length
 | none=>(∃ L,Q1D c x=some (L,false))∧Qy c x=some ([],false)
theorem e_svs {c:Cat} (hc:c.Is) (x:Int):∃ o,SvR c x o:=by
 have nn:=hc.nums;have ho:Bd c (outL c x):=fun a ha=>by
  obtain ⟨i,hi,_,rfl⟩:=mem_flt.1 ha;omega
 have hol:=Q45 c x;obtain ⟨L',e1,⟨M,q1⟩,g,h17,hcl⟩:=e_grow hc ho (by omega) 100 [] [] .nil ⟨fun t ht=>by simp at ht,by simp⟩ (by simp) (by simp);have hb:∀ t∈L',t.length≤1000000:=fun t ht=>by have:=(g.sv t ht).bd.2;omega
 have ea:Q1D c x=some (srt cmpL L',decide ((L'.length:Int)≤16)):=by
  unfold Q1D;rw [e_out25 hc];simp only [Option.bind_some];rw [e1];simp only [Option.bind_some];rw [e_sorted (by omega) hb];rfl
 rcases Q6O hc x with ⟨L,hf,e2⟩|⟨hm,e2⟩
 ·have h16:=hf.few g;have hcl:=hcl h16;have hf2:Full c (outL c x) L':=Q4Y g h16 hcl.1 fun t ht a ha=>hcl.2 t ht (by simp) a ha;refine ⟨some (srt cmpL L),?_,e2,by rw [Q6s];exact hf.l,fun t ht=>(hf.g.sv t ((Q2U cmpL L).mem_iff.1 ht)).bd⟩;rw [ea,decide_eq_true (by omega),srt_eq (hf2.perm hf)]
 refine ⟨none,⟨srt cmpL L',?_⟩,e2⟩;rw [ea,decide_eq_false];intro h;have hcl:=hcl (by omega);have hf2:Full c (outL c x) L':=Q4Y g (by omega) hcl.1 fun t ht a ha=>hcl.2 t ht (by simp) a ha;exact hf2.not_many hm
end
section
attribute [local simp] Qc Qw Qm QN Qu
theorem Q7f {n:Nat} {p:Nat→Prop} {q:Int→Prop}:(flt n p).filter (fun f=>bo (q f))=flt n fun k=>p k∧q (k:Int):=by
 unfold flt;rw [List.filter_map,List.filter_filter]
 congr 1
 refine List.filter_congr fun k _=>?_;simp only [Function.comp]
 by_cases h1:p k
 ·by_cases h2:q (k:Int)
  ·rw [Q1x h1,Q1x (show p k∧q (k:Int) from ⟨h1,h2⟩),show bo (q (Int.ofNat k))=true from Q1x h2];rfl
  rw [Q1x h1,Q1R (show ¬ (p k∧q (k:Int)) from fun z=>h2 z.2),show bo (q (Int.ofNat k))=false from Q1R h2];rfl
 rw [Q1R h1,Q1R (show ¬ (p k∧q (k:Int)) from fun z=>h1 z.1)];simp
noncomputable def puL (c:Cat) (a:Int) (s:List Int):List Int:=flt c.fr.length fun k=>ix c.fr k=ix c.to a∧ix (rx c.cs a) k∈s
theorem e_has1 {xs:List Int} (hl:xs.length≤1000) (n:Int):Q3E xs n=some (bo (n∈xs)):=by
 unfold Q3E;refine Q41 xs.length (fun i=>ix xs i=n) (eb:=fun i=>Sum.inr true) (eg:=Sum.inl ()) (by omega) (fun i hi h=>?_) (fun i hi h=>?_) (by simp) (fun m hm hp hlt=>?_) fun h=>?_
 ·rw [if_pos (by omega),Qa (by omega),if_neg h,Qa (by unfold B64;omega)]
 ·rw [if_pos (by omega),Qa (by omega),if_pos h]
 ·simp only;rw [Q1x];rw [← hp,← Q16 _ _ hm];exact List.getElem_mem hm
 simp only;rw [Q1R];intro z;obtain ⟨i,hi,q⟩:=List.getElem_of_mem z;exact h i hi (by rw [← Q16 _ _ hi];exact q)
theorem e_pull {c:Cat} (hc:c.Is) {a:Int} (ha:0≤a∧a<(c.fr.length:Int)) {s:List Int} (hs:s.length≤1000):QZ c a s=some (puL c a s):=by
 have nn:=hc.nums;have lo:=Q45 c (ix c.to a);unfold QZ;rw [Qa (by omega),Q4U hc];simp only [Option.bind_some];refine flt_bind (outL c (ix c.to a)) (fun k=>ix (rx c.cs a) k∈s) (e:=puL c a s) (by omega) (fun i acc hi hacc=>?_) ?_ rfl
 ·obtain ⟨g,hg,e,q1⟩:=Q6l hi;rw [q1];simp only;rw [if_pos (by omega),Qa (by omega),(e_Then hc ha (by omega)).2];simp only [Option.bind_some];rw [e_has1 hs];simp only [Option.bind_some];refine ⟨fun q=>?_,fun q=>?_⟩
  ·rw [Q1x q,if_pos rfl,Qa (by simp;omega)];simp only [Option.bind_some];rw [Qa (by unfold B64;omega)]
  rw [Q1R q,if_neg (by simp)];simp only [Option.bind_some];rw [Qa (by unfold B64;omega)]
 simp only;rw [if_neg (by omega)];unfold outL puL;rw [Q7f]
theorem e_same2 (a b:List Int):Qt a b=some (decide (b=a)):=by
 unfold Qt Q2R;rfl
theorem e_index2 {L:List (List Int)} (hn:L.length<1000000) (x:List Int):Q3 L x=some (posL L x):=by
 unfold Q3 posL;refine Q41 L.length (fun i=>rx L i=x) (eb:=fun i=>Sum.inr (i:Int)) (eg:=Sum.inl ()) (by omega) (fun i hi h=>?_) (fun i hi h=>?_) (by simp) (fun m hm hp hlt=>?_) fun h=>?_
 ·rw [if_pos (by omega),Qa (by omega),e_same2];simp only [Option.bind_some,decide_eq_true_eq];rw [if_neg (fun z=>h z.symm),Qa (by unfold B64;omega)]
 ·rw [if_pos (by omega),Qa (by omega),e_same2];simp only [Option.bind_some,decide_eq_true_eq];rw [if_pos h.symm]
 ·simp only;rw [Q4X hm hp hlt]
 simp only;rw [Q64 h]
noncomputable def clR (c:Cat) (T:List (List (List Int))) (a:Nat):List Int:=tab (gx T (ix c.fr a)).length fun k=>posL (gx T (ix c.to a)) (puL c a (rx (gx T (ix c.fr a)) k))
noncomputable def clV (c:Cat) (T:List (List (List Int))):SF:=⟨c,tab T.length fun x=>((gx T (x:Int)).length:Int),tab c.fr.length (clR c T)⟩
structure OkT (c:Cat) (T:List (List (List Int))):Prop where
 l:(T.length:Int)=c.n
 p:∀ L∈T,L.length≤16∧∀ t∈L,Bd c t∧t.length≤c.fr.length
theorem OkT.at {c:Cat} {T:List (List (List Int))} (h:OkT c T) {x:Int} (hx:0≤x∧x<c.n):(gx T x).length≤16∧∀ t∈gx T x,Bd c t∧t.length≤c.fr.length:=by
 have hl:=h.l;have e:gx T x=T[x.toNat]'(by omega):=by rw [← gx_nat T (by omega),Int.toNat_of_nonneg hx.1]
 rw [e];exact h.p _ (List.getElem_mem _)
end
attribute [local simp] unk unA unE unT unC flat eL eI Qk Q13 Qf Cat.cells XClassifier.cells
noncomputable def QC (c_:Cat):Option (Unit ⊕ (Int × List Int × List Int × List Int × List (List Int) × List Int × List (List Int) × List (List (List Int)))) :=
 (Q1b c_).bind fun v2 =>
 (QR (σ:=List Int × List (List (List Int)) × Int) (ε:=(List Int × List (List (List Int))) ⊕ (Unit ⊕ (Int × List Int × List Int × List Int × List (List Int) × List Int × List (List Int) × List (List (List Int))))) (fun s10 =>
  if s10.2.2<c_.n then
   (Qy c_ s10.2.2).bind fun v12 =>
   if ¬ (v12.2=true) then
    some (Ctl.ret (Sum.inr (Sum.inl ())))
   else
    ass ((s10.2.1++[v12.1]).length≤1073741824) <|
    ass ((s10.1++[(v12.1.length:Int)]).length≤1073741824) <|
    ass (B64 (s10.2.2+1)) <|
    some (Ctl.next (s10.1++[(v12.1.length:Int)],s10.2.1++[v12.1],s10.2.2+1))
  else
   some (Ctl.ret (Sum.inl (s10.1,s10.2.1)))) fuel ([],[],0)).bind fun e3 =>
 match e3 with
 | .inl b3 =>
  (QR (σ:=List (List Int) × Int) (ε:=List (List Int)) (fun s39 =>
   if s39.2<(c_.fr.length:Int) then
    ass (0≤s39.2∧s39.2<(c_.fr.length:Int)) <|
    ass (0≤ix c_.fr s39.2∧ix c_.fr s39.2<(b3.2.length:Int)) <|
    (QR (σ:=List Int × Int) (ε:=List Int) (fun s51 =>
     if s51.2<((gx b3.2 (ix c_.fr s39.2)).length:Int) then
      ass (0≤s51.2∧s51.2<((gx b3.2 (ix c_.fr s39.2)).length:Int)) <|
      ass (0≤s39.2∧s39.2<(c_.to.length:Int)) <|
      (QZ c_ s39.2 (rx (gx b3.2 (ix c_.fr s39.2)) s51.2)).bind fun v55 =>
      (QV (⟨(⟨v2,b3.1,s39.1⟩:SF),b3.2⟩:XClassifier) (ix c_.to s39.2) v55).bind fun v56 =>
      ass ((s51.1++[v56]).length≤1073741824) <|
      ass (B64 (s51.2+1)) <|
      some (Ctl.next (s51.1++[v56],s51.2+1))
     else
      some (Ctl.ret s51.1)) fuel ([],0)).bind fun b43 =>
    ass ((s39.1++[b43]).length≤1073741824) <|
    ass (B64 (s39.2+1)) <|
    some (Ctl.next (s39.1++[b43],s39.2+1))
   else
    some (Ctl.ret s39.1)) fuel ([],0)).bind fun b17 =>
  some (Sum.inr (v2.n,v2.fr,v2.to,v2.id,v2.cs,b3.1,b17,b3.2))
 | .inr p3 =>
  some p3
@[simp] abbrev Yr (a:Cat) (b:List (AV)):List (AV):=iV a.n::.own 1 0 a.fr.length::.own 2 0 a.to.length::.own 3 0 a.id.length::.own 4 0 a.cs.length::b
@[simp] abbrev Y0 (a:Cat) (b:List Int × List (List (List Int))) (c:List (List Int) × Int) (d:List (Nat × Ent)):List (Nat × Ent):=(0,.mix 8 [(Yr a [.own 5 0 b.1.length,.own 6 0 c.1.length,.own 7 0 b.2.length])])::(1,rI a.fr)::(2,rI a.to)::(3,rI a.id)::(4,.row 1 (Ls a.cs))::(5,rI b.1)::(6,.row 1 (Ls c.1))::(7,.mix 1 (Es eL b.2))::d
@[simp] abbrev Y4 (a:Cat) (b:List (Nat × Ent)):List (Nat × Ent):=(1,rI a.fr)::(2,rI a.to)::(3,rI a.id)::(4,.row 1 (Ls a.cs))::b
@[simp] abbrev Y8 (a:Cat) (b:List (List Int) × Int) (c:List Int × List (List (List Int))) (d:List (Nat × AV)):List (Nat × AV):=(60,iV (a.fr.length:Int))::(61,iV b.2)::(77,.lst true 1 (Ls (gx c.2 (ix a.fr b.2))))::(78,iV ((gx c.2 (ix a.fr b.2)).length:Int))::d
@[simp] abbrev Y9 (a:Cat) (b:List Int × List (List (List Int))) (c:List (List Int)) (d:List (Nat × Ent)):List (Nat × Ent):=(0,.mix 8 [(Yr a [.own 5 0 b.1.length,.own 6 0 c.length,.own 7 0 b.2.length])])::d
@[simp] abbrev Yh (a:List (Nat × AV)):List (Nat × AV):=(4,.adr 0 0 0)::a
@[simp] abbrev Yl (a:Cat) (b:List (Nat × Ent)):List (Nat × Ent):=(0,.mix 8 [(Yr a [.own 5 0 0,nS,.own 6 0 0])])::b
@[simp] abbrev Yq (a:Cat) (b:List (Nat × Ent)):List (Nat × Ent):=(0,.mix 8 [(Yr a [nS,nS,nS])])::b
theorem Q2t (c_:Cat) (v61:Unit ⊕ (Int × List Int × List Int × List Int × List (List Int) × List Int × List (List Int) × List (List (List Int)))) (h:QC c_=some v61):ICon Try.prog 58 [.rptr (c_.cells true)] (fun _=>none) 0 (match v61 with|.inl v61=>({ v:=.tup [.val (.pointer none),.val (.bool false)],set:=[],del:=[],new:=[],cnt:=0 }:Eff)|.inr v61=>({ v:=.tup [.adr 0 0 0,.val (.bool true)],set:=[],del:=[],new:=[(0,.mix 8 [[iV v61.1,.own 1 0 v61.2.1.length,.own 2 0 v61.2.2.1.length,.own 3 0 v61.2.2.2.1.length,.own 4 0 v61.2.2.2.2.1.length,.own 5 0 v61.2.2.2.2.2.1.length,.own 6 0 v61.2.2.2.2.2.2.1.length,.own 7 0 v61.2.2.2.2.2.2.2.length]]),(1,rI v61.2.1),(2,rI v61.2.2.1),(3,rI v61.2.2.2.1),(4,.row 1 (Ls v61.2.2.2.2.1)),(5,rI v61.2.2.2.2.2.1),(6,.row 1 (Ls v61.2.2.2.2.2.2.1)),(7,.mix 1 (Es eL v61.2.2.2.2.2.2.2))],cnt:=8 }:Eff)):=by
 refine Q4g (ts:=[2,3]) (H:=[]) Try.func58 rfl rfl rfl (by simp [Try.f58]) (by simp) (fineI (by rcases v61 with v61|v61<;>simp)) (newI (by rcases v61 with v61|v61<;>rfl)) fun F hN hP=>?_;unfold QC at h;refine Q0 (Ql [] mo (by rw [hN];decide) fun K hK=>?_);simp;repeat refine sdQ ?_
 refine hK _ ?_;clear hK K;refine tn (Q5 (st':=⟨Y3 c_ [],[],0⟩) (Q1d []) (Q0 (Ql [] mo (by rw [hN];decide) fun K hK=>?_)));simp;repeat with_reducible refine sdQ ?_
 replace ⟨v2,hv2,h⟩:=bind_some h;refine QH (fz:=[]) (Q3G _ v2 hv2) (.cons (.preT (by simp [Cat.cells])) .nil) ?_;simp;repeat refine sdQ ?_
 refine hK _ ?_;clear hK K;refine tn (Q5 (st':=⟨Y3 c_ (Yh []),Yq v2 (Y4 v2 []),5⟩) (Q1d [(5,0),(1,1),(2,2),(3,3),(4,4)]) (Q0 (Q0 (Ql [] mo (by rw [hN];decide) fun K hK=>?_))));simp;repeat refine sdQ ?_
 refine hK _ (tn (Q5 (st':=⟨Y3 c_ (Yh [(5,iV 0)]),Yq v2 (Y4 v2 []),5⟩) (Q2L 5) ?_));clear hK K;replace ⟨e3,h,h3⟩:=bind_some h;refine Qv (fun b3:List Int × List (List (List Int))=>⟨Y3 c_ (Yh []),(0,.mix 8 [(Yr v2 [.own 5 0 b3.1.length,nS,.own 6 0 b3.2.length])])::Y4 v2 [(5,rI b3.1),(6,.mix 1 (Es eL b3.2))],7⟩) (fun b3=>Sum.inl b3=e3) ?_ ?_
 ·refine Q7 (QM h (fun s10:List Int × List (List (List Int)) × Int=>⟨Y3 c_ (Yh [(5,iV s10.2.2)]),(0,.mix 8 [(Yr v2 [.own 5 0 s10.1.length,nS,.own 6 0 s10.2.1.length])])::Y4 v2 [(5,rI s10.1),(6,.mix 1 (Es eL s10.2.1))],7⟩) (Q4B ⟨Y3 c_ (Yh [(5,iV 0)]),Yl v2 (Y4 v2 [(5,rI []),(6,.row 1 (Es eL []))]),7⟩ (Wk.nils [(5,1),(6,1)] (by simp) (by simp) (by simp [nlA]) (by simp [entN,nlL,nlA,Cat.cells,XClassifier.cells,UA,U1,IA,I1,LA,L1,BA,B1,EA,E1,E2,eB,eI,eL,Qx _ Qf _ (fun _=>rfl),Qx _ eL _ (fun _=>rfl)]) (by simp)) (Q4B ⟨Y3 c_ (Yh [(5,iV 0)]),Yl v2 (Y4 v2 [(5,rI []),(6,.mix 1 [])]),7⟩ (Wk.rowMix (by simp) rfl (by simp [Cat.cells,XClassifier.cells,UA,U1,IA,I1,LA,L1,BA,B1,EA,E1,E2,eB,eI,eL,Qx _ Qf _ (fun _=>rfl),Qx _ eL _ (fun _=>rfl)])) (Q2L 7))) ?_);clear h;intro k10 s10 c10 h hk10;refine Q0 (Q0 (Ql [] mo (by rw [hN];decide) fun K hK=>?_));simp;repeat refine sdQ ?_
  refine hK _ ?_;clear hK K;refine tn (Q8 rfl (fun g=>?_) fun g=>?_)
  ·have g11:s10.2.2<c_.n:=gQ;clear g;replace h:=if_l g11 h;refine Q9 (tn (Q0 (Q7 (Q0 (Ql [] mo (by rw [hN];decide) fun K hK=>?_)))));simp;(repeat with_reducible refine sdQ ?_);replace ⟨v12,hv12,h⟩:=bind_some h;refine Q29 (fz:=[]) true (Q39 _ _ v12 hv12) (PurK.ofN (.cons (.preT (by simp [Cat.cells])) (.cons .val .nil))) ?_;simp;(repeat refine sdQ ?_);refine hK _ ?_;clear hK K;refine tn (Q5 (st':=⟨Y3 c_ (Yh [(5,iV s10.2.2),(6,.lst true 1 (Ls v12.1)),(7,.val (.bool v12.2))]),(0,.mix 8 [(Yr v2 [.own 5 0 s10.1.length,nS,.own 6 0 s10.2.1.length])])::Y4 v2 [(5,rI s10.1),(6,.mix 1 (Es eL s10.2.1))],7⟩) (Q2L 7) (Q0 (Q0 (Ql [] mo (by rw [hN];decide) fun K hK=>?_))));simp;(repeat refine sdQ ?_);refine hK _ ?_;clear hK K;refine tn (Q8 rfl (fun g=>?_) fun g=>?_)
   ·have g13:¬ (v12.2=true):=gQ;clear g;replace h:=if_l g13 h;refine Q0 (Ql [] mo (by rw [hN];decide) fun K hK=>?_);simp;(repeat refine sdQ ?_);refine hK _ (tn (Q5 (st':=⟨[(2,.val (.pointer none)),(3,.val (.bool false))],[],0⟩) (Q1d []) (Qj (tr (br (tr (lr (br (tr ?_)))))))));clear hK K;cases h;have q:_=e3:=hk10;have h:=h3;rw [← q] at h;clear q;(try dsimp only at h);cases h;(try dsimp only);first|refine iw_r (st':=⟨[(2,.val (.pointer none)),(3,.val (.bool false))],[],0⟩) ?_ ?_|refine iw_n (st':=⟨[(2,.val (.pointer none)),(3,.val (.bool false))],[],0⟩) ?_ ?_
    ·exact Wk.r1 [] (by simp [hP,hhOk,back,Cat.cells,XClassifier.cells,UA,U1,IA,I1,LA,L1,BA,B1,EA,E1,E2,eB,eI,eL,Qx _ Qf _ (fun _=>rfl),Qx _ eL _ (fun _=>rfl)])
    exact ⟨by simp [QF],by simp,by simp [Cat.cells,XClassifier.cells]⟩
   have g13:¬ (¬ (v12.2=true)):=gQ;clear g;replace h:=if_r g13 h;refine Q9 (tn (Q0 (Ql [40] mo (by rw [hN];decide) fun K hK=>?_)));replace ⟨a14,h⟩:=Q6 h;(try simp only [List.length_append,List.length_cons,List.length_nil] at a14);simp [a14];(repeat refine sdQ ?_);refine hK _ ?_;clear hK K;refine tn (Q5 (st':=⟨Y3 c_ (Yh [(5,iV s10.2.2),(6,.lst true 1 (Ls v12.1))]),(0,.mix 8 [(Yr v2 [.own 5 0 s10.1.length,nS,.own 6 0 ((s10.2.1++[v12.1]).length)])])::Y4 v2 [(5,rI s10.1),(6,.mix 1 (Es eL (s10.2.1++[v12.1])))],7⟩) (Q1d [(0,0),(1,1),(2,2),(3,3),(4,4),(5,5),(8,6)]) (Ql [] mo (by rw [hN];decide) fun K hK=>?_));replace ⟨a15,h⟩:=Q6 h;(try simp only [List.length_append,List.length_cons,List.length_nil] at a15);simp [a15];(repeat refine sdQ ?_);refine hK _ ?_;clear hK K;refine bn (tn (Q5 (st':=⟨Y3 c_ (Yh [(5,iV s10.2.2)]),(0,.mix 8 [(Yr v2 [.own 5 0 ((s10.1++[(v12.1.length:Int)]).length),nS,.own 6 0 ((s10.2.1++[v12.1]).length)])])::Y4 v2 [(5,rI (s10.1++[(v12.1.length:Int)])),(6,.mix 1 (Es eL (s10.2.1++[v12.1])))],7⟩) (Q1d [(0,0),(1,1),(2,2),(3,3),(4,4),(8,5),(6,6)]) (Ql [] mo (by rw [hN];decide) fun K hK=>?_)));replace ⟨a16,h⟩:=Q6 h;simp [QA a16];(repeat refine sdQ ?_);refine hK _ ?_;clear hK K;cases h;exact rn (s':=(s10.1++[(v12.1.length:Int)],s10.2.1++[v12.1],s10.2.2+1)) hk10 (Q2L 7)
  have g11:¬ (s10.2.2<c_.n):=gQ;clear g;replace h:=if_r g11 h;refine Qr (tx (lx (bh ?_)));cases h;exact jn (b:=(s10.1,s10.2.1)) hk10 (Q2L 7)
 intro b3 hb3;have h:=h3;try rw [← hb3] at h
 clear h3;try dsimp only at h
 refine Q0 (Q0 (Ql [] mo (by rw [hN];decide) fun K hK=>?_));simp;repeat refine sdQ ?_
 refine hK _ (tn (Q5 (st':=⟨Y3 c_ (Yh [(60,iV (c_.fr.length:Int)),(61,iV 0)]),(0,.mix 8 [(Yr v2 [.own 5 0 b3.1.length,nS,.own 6 0 b3.2.length])])::Y4 v2 [(5,rI b3.1),(6,.mix 1 (Es eL b3.2))],7⟩) (Q2L 7) ?_));clear hK K;replace ⟨e17,h,h17⟩:=bind_some h;refine Qv (fun b17:List (List Int)=>⟨Yh [],Y9 v2 b3 b17 (Y4 v2 [(5,rI b3.1),(6,.row 1 (Ls b17)),(7,.mix 1 (Es eL b3.2))]),8⟩) (fun b17=>b17=e17) ?_ ?_
 ·refine Q7 (QM h (fun s39:List (List Int) × Int=>⟨Y3 c_ (Yh [(60,iV (c_.fr.length:Int)),(61,iV s39.2)]),Y0 v2 b3 s39 [],8⟩) (Q4B ⟨Y3 c_ (Yh [(60,iV (c_.fr.length:Int)),(61,iV 0)]),(0,.mix 8 [(Yr v2 [.own 5 0 b3.1.length,.own 7 0 0,.own 6 0 b3.2.length])])::Y4 v2 [(5,rI b3.1),(6,.mix 1 (Es eL b3.2)),(7,.row 1 (Ls []))],8⟩ (Wk.nils [(7,1)] (by simp) (by simp) (by simp [nlA]) (by simp [Q5s,entN_mm,entN_mr,nlL,nlA,Cat.cells,XClassifier.cells,UA,U1,IA,I1,LA,L1,BA,B1,EA,E1,E2,eB,eI,eL,Qx _ Qf _ (fun _=>rfl),Qx _ eL _ (fun _=>rfl)]) (by simp)) (Q1d [(0,0),(1,1),(2,2),(3,3),(4,4),(5,5),(7,6),(6,7)])) ?_);clear h;intro k39 s39 c39 h hk39;refine Q0 (Ql [] mo (by rw [hN];decide) fun K hK=>?_);simp;repeat refine sdQ ?_
  refine hK _ ?_;clear hK K;refine tn (Q0 (Q8 rfl (fun g=>?_) fun g=>?_))
  ·have g40:s39.2<(c_.fr.length:Int):=gQ;clear g;replace h:=if_l g40 h;refine Q9 (tn (Q0 (Q7 (Q0 (Ql [] mo (by rw [hN];decide) fun K hK=>?_)))));simp;(repeat refine sdQ ?_);refine hK _ ?_;clear hK K;refine tn (Q5 (st':=⟨Y3 c_ (Yh [(8,iV s39.2),(60,iV (c_.fr.length:Int)),(61,iV s39.2)]),Y0 v2 b3 s39 [],8⟩) (Q2L 8) (Q0 (Ql [] mo (by rw [hN];decide) fun K hK=>?_)));simp;(repeat refine sdQ ?_);refine hK _ ?_;clear hK K;refine tn (Q5 (st':=⟨Y3 c_ (Yh [(8,iV s39.2),(9,.own 8 0 0),(60,iV (c_.fr.length:Int)),(61,iV s39.2)]),Y0 v2 b3 s39 [(8,.mix 1 [])],9⟩) (Q2L 9) (Q0 (Q0 (Ql [] mo (by rw [hN];decide) fun K hK=>?_))));replace ⟨a41,h⟩:=Q6 h;replace ⟨a42,h⟩:=Q6 h;simp [at_I a41,at_E (c:=eL) a42];(repeat refine sdQ ?_);refine hK _ (tn (Q5 (st':=⟨Y3 c_ (Yh ((8,iV s39.2)::(9,.own 8 0 0)::Y8 c_ s39 b3 [(79,iV 0)])),Y0 v2 b3 s39 [(8,.mix 1 [])],9⟩) (Q2L 9) ?_));clear hK K;replace ⟨e43,h,h43⟩:=bind_some h;refine Qv (fun b43:List Int=>⟨Y3 c_ (Yh [(9,.own 8 0 b43.length),(60,iV (c_.fr.length:Int)),(61,iV s39.2)]),Y0 v2 b3 s39 [(8,rI b43)],9⟩) (fun b43=>b43=e43) ?_ ?_
   ·refine Q7 (QM h (fun s51:List Int × Int=>⟨Y3 c_ (Yh ((8,iV s39.2)::(9,.own 8 0 s51.1.length)::Y8 c_ s39 b3 [(79,iV s51.2)])),Y0 v2 b3 s39 [(8,rI s51.1)],9⟩) (Q4B ⟨Y3 c_ (Yh ((8,iV s39.2)::(9,.own 8 0 0)::Y8 c_ s39 b3 [(79,iV 0)])),Y0 v2 b3 s39 [(8,rI [])],9⟩ (Wk.nils [] (by simp) (by simp) (by simp [nlA]) (by simp [Q5s,entN_mm,entN_mr,nlL,nlA,Cat.cells,XClassifier.cells,UA,U1,IA,I1,LA,L1,BA,B1,EA,E1,E2,eB,eI,eL,Qx _ Qf _ (fun _=>rfl),Qx _ eL _ (fun _=>rfl)]) (by simp)) (Q2L 9)) ?_);clear h;intro k51 s51 c51 h hk51;refine Q0 (Ql [] mo (by rw [hN];decide) fun K hK=>?_);simp;(repeat refine sdQ ?_);refine hK _ ?_;clear hK K;refine tn (Q0 (Q8 rfl (fun g=>?_) fun g=>?_))
    ·have g52:s51.2<((gx b3.2 (ix c_.fr s39.2)).length:Int):=gQ;clear g;replace h:=if_l g52 h;refine Q9 (tn (Q0 (Q7 (Q0 (Ql [] mo (by rw [hN];decide) fun K hK=>?_)))));replace ⟨a53,h⟩:=Q6 h;simp [at_L a53];(repeat refine sdQ ?_);refine hK _ ?_;clear hK K;refine tn (Q5 (st':=⟨Y3 c_ (Yh ((8,iV s39.2)::(9,.own 8 0 s51.1.length)::(11,lI (rx (gx b3.2 (ix c_.fr s39.2)) s51.2))::Y8 c_ s39 b3 [(79,iV s51.2)])),Y0 v2 b3 s39 [(8,rI s51.1)],9⟩) (Q2L 9) (Ql [] mo (by rw [hN];decide) fun K hK=>?_));replace ⟨a54,h⟩:=Q6 h;simp [at_I a54];(repeat with_reducible refine sdQ ?_);replace ⟨v55,hv55,h⟩:=bind_some h;refine QH (fz:=[]) (Q3H _ _ _ v55 hv55) (.cons (.preT (by simp [Cat.cells,XClassifier.cells])) (.cons .val (.cons .lst .nil))) ?_;simp [at_I a54];(repeat with_reducible refine sdQ ?_);replace ⟨v56,hv56,h⟩:=bind_some h;refine QH (fz:=[]) (Q2K _ _ _ v56 hv56) (.cons (.field rfl (by simp [Cat.cells,XClassifier.cells]) (.cons .val (.cons .w (.cons .w (.cons .w (.cons .w (.cons .w (.cons .w (.cons (.smix rfl (by simp) (Q1m (by simp [eL,Cat.cells,XClassifier.cells,Q13,Qf]))) .nil))))))))) (.cons .val (.cons .w .nil))) ?_;replace ⟨a57,h⟩:=Q6 h;(try simp only [List.length_append,List.length_cons,List.length_nil] at a57);simp [at_I a54,a57];(repeat refine sdQ ?_);refine hK _ ?_;clear hK K;refine bn (tn (Q5 (st':=⟨Y3 c_ (Yh ((8,iV s39.2)::(9,.own 8 0 ((s51.1++[v56]).length))::Y8 c_ s39 b3 [(79,iV s51.2)])),Y0 v2 b3 s39 [(8,rI (s51.1++[v56]))],9⟩) (Q1d [(0,0),(1,1),(2,2),(3,3),(4,4),(5,5),(6,6),(7,7),(12,8)]) (Ql [] mo (by rw [hN];decide) fun K hK=>?_)));replace ⟨a58,h⟩:=Q6 h
     simp [QA a58];(repeat refine sdQ ?_);refine hK _ ?_;clear hK K;cases h;exact rn (s':=(s51.1++[v56],s51.2+1)) hk51 (Q2L 9)
    have g52:¬ (s51.2<((gx b3.2 (ix c_.fr s39.2)).length:Int)):=gQ;clear g;replace h:=if_r g52 h;refine Qr (tx (lx (bh ?_)));cases h;exact jn (b:=s51.1) hk51 (Q2L 9)
   intro b43 hb43;have h:=h43;(try rw [← hb43] at h);clear h43;(try dsimp only at h);refine Ql [] mo (by rw [hN];decide) fun K hK=>?_;replace ⟨a59,h⟩:=Q6 h;(try simp only [List.length_append,List.length_cons,List.length_nil] at a59);simp [a59];(repeat refine sdQ ?_);refine hK _ ?_;clear hK K;refine bn (tn (Q5 (st':=⟨Y3 c_ (Yh [(60,iV (c_.fr.length:Int)),(61,iV s39.2)]),(0,.mix 8 [(Yr v2 [.own 5 0 b3.1.length,.own 6 0 ((s39.1++[b43]).length),.own 7 0 b3.2.length])])::Y4 v2 [(5,rI b3.1),(6,.row 1 (Ls (s39.1++[b43]))),(7,.mix 1 (Es eL b3.2))],8⟩) (Q1d [(0,0),(1,1),(2,2),(3,3),(4,4),(5,5),(10,6),(7,7)]) (Ql [] mo (by rw [hN];decide) fun K hK=>?_)));replace ⟨a60,h⟩:=Q6 h;simp [QA a60];(repeat refine sdQ ?_);refine hK _ ?_;clear hK K;cases h;exact rn (s':=(s39.1++[b43],s39.2+1)) hk39 (Q2L 8)
  have g40:¬ (s39.2<(c_.fr.length:Int)):=gQ;clear g;replace h:=if_r g40 h;refine Qr (tx (lx (bh ?_)));cases h;exact jn (b:=s39.1) hk39 (Q2L 8)
 intro b17 hb17;have h:=h17;try rw [← hb17] at h
 clear h17;try dsimp only at h
 refine Q0 (Ql [] mo (by rw [hN];decide) fun K hK=>?_);simp;repeat refine sdQ ?_
 refine hK _ (tn (Q5 (st':=⟨Yg [(3,.val (.bool true))],Y9 v2 b3 b17 (Y4 v2 [(5,rI b3.1),(6,.row 1 (Ls b17)),(7,.mix 1 (Es eL b3.2))]),8⟩) (Q2L 8) (Qj ?_)));clear hK K;cases h;try dsimp only
 first|refine iw_r (st':=⟨Yg [(3,.val (.bool true))],Y9 v2 b3 b17 (Y4 v2 [(5,rI b3.1),(6,.row 1 (Ls b17)),(7,.mix 1 (Es eL b3.2))]),8⟩) ?_ ?_|refine iw_n (st':=⟨Yg [(3,.val (.bool true))],Y9 v2 b3 b17 (Y4 v2 [(5,rI b3.1),(6,.row 1 (Ls b17)),(7,.mix 1 (Es eL b3.2))]),8⟩) ?_ ?_
 ·exact Wk.r1 [(0,0),(1,1),(2,2),(3,3),(4,4),(5,5),(6,6),(7,7)] (by simp [hP,hhOk,back,Cat.cells,XClassifier.cells,UA,U1,IA,I1,LA,L1,BA,B1,EA,E1,E2,eB,eI,eL,Qx _ Qf _ (fun _=>rfl),Qx _ eL _ (fun _=>rfl)])
 exact ⟨by simp [QF],by simp,by simp [Cat.cells,XClassifier.cells]⟩
section
attribute [local simp] Qc Qw Qm QN Qu
structure TT (c:Cat) (o:Nat→Option (List (List Int))) (T:Nat→List (List Int)):Prop where
 r:∀ x:Nat,SvR c x (o x)
 t:∀ x:Nat,T x=(o x).getD []
theorem TT.ok {c:Cat} {o:Nat→Option (List (List Int))} {T:Nat→List (List Int)} (h:TT c o T) (hc:c.Is) (ha:∀ x:Nat,x<c.n.toNat→o x ≠ none):OkT c (tab c.n.toNat T):=by
 have nn:=hc.nums;refine ⟨by rw [Q10];omega,fun L hL=>?_⟩;obtain ⟨x,hx,rfl⟩:=List.mem_map.1 hL;have hx2:=List.mem_range.1 hx;have q:=h.r x;cases e:o x with
 | none=>exact absurd e (ha x hx2)
 | some K =>
  rw [e] at q;rw [h.t x,e];exact q.2.2
theorem e_lists25 {c:Cat} {o:Nat→Option (List (List Int))} {T:Nat→List (List Int)} (h:TT c o T) (hc:c.Is):((∀ x:Nat,x<c.n.toNat→o x ≠ none)∧Q1n c=some (tab c.n.toNat T,true))∨((∃ x:Nat,x<c.n.toNat∧o x=none)∧Q1n c=some ([],false)):=by
 have nn:=hc.nums;unfold Q1n;refine Q1l (Q:=fun r=>((∀ x:Nat,x<c.n.toNat→o x ≠ none)∧r=some (tab c.n.toNat T,true))∨((∃ x:Nat,x<c.n.toNat∧o x=none)∧r=some ([],false))) c.n.toNat (fun i (st:List (List (List Int)) × Int)=>st.2=(i:Int)∧st.1=tab i T∧∀ x:Nat,x<i→o x ≠ none) (fun e=>((∀ x:Nat,x<c.n.toNat→o x ≠ none)∧e = .inl (tab c.n.toNat T))∨((∃ x:Nat,x<c.n.toNat∧o x=none)∧e = .inr ([],false))) (by omega) ⟨rfl,rfl,fun x hx=>by omega⟩ (fun i st hi hI=>?_) (fun st hI=>?_) fun e he=>?_
 ·obtain ⟨q,q1,ha⟩:=hI;obtain ⟨L,s2⟩:=st;simp only at q q1;subst q q1;have hr:=h.r i;simp only;rw [if_pos (by omega)];cases e:o i with
  | none =>
   right;rw [e] at hr;obtain ⟨⟨L,e1⟩,_⟩:=hr;rw [e1];simp only [Option.bind_some];rw [if_pos (by simp)];exact ⟨_,rfl,.inr ⟨⟨i,hi,e⟩,rfl⟩⟩
  | some K =>
   left;rw [e] at hr;rw [hr.1];simp only [Option.bind_some];rw [if_neg (by simp),Qa (by simp;omega),Qa (by unfold B64;omega)];refine ⟨_,rfl,by simp only;omega,?_,fun x hx=>?_⟩
   ·simp only;rw [Q3r,h.t i,e];rfl
   by_cases hxi:x=i
   ·subst hxi;rw [e];simp
   exact ha x (by omega)
 ·obtain ⟨q,q1,ha⟩:=hI;obtain ⟨L,s2⟩:=st;simp only at q q1;subst q q1;simp only;rw [if_neg (by omega)];exact ⟨_,rfl,.inl ⟨ha,rfl⟩⟩
 rcases he with ⟨ha,rfl⟩|⟨ha,rfl⟩
 ·exact .inl ⟨ha,rfl⟩
 exact .inr ⟨ha,rfl⟩
abbrev ClT:=Int × List Int × List Int × List Int × List (List Int) × List Int × List (List Int) × List (List (List Int))
noncomputable def clI (c:Cat) (T:List (List (List Int))):ClT:=(c.n,c.fr,c.to,c.id,c.cs,(clV c T).sz,(clV c T).ac,T)
theorem Q5q {c:Cat} {o:Nat→Option (List (List Int))} {T:Nat→List (List Int)} (h:TT c o T) (hc:c.Is):((∀ x:Nat,x<c.n.toNat→o x ≠ none)→QC c=some (.inr (clI c (tab c.n.toNat T))))∧((∃ x:Nat,x<c.n.toNat∧o x=none)→QC c=some (.inl ())):=by
 have nn:=hc.nums;unfold QC Q1b;rw [Qa hc.ok];simp only [Option.bind_some];refine Q1l (Q:=fun (r:Option (Unit ⊕ ClT))=>((∀ x:Nat,x<c.n.toNat→o x ≠ none)→r=some (.inr (clI c (tab c.n.toNat T))))∧((∃ x:Nat,x<c.n.toNat∧o x=none)→r=some (.inl ()))) c.n.toNat (fun i (st:List Int × List (List (List Int)) × Int)=>st.2.2=(i:Int)∧st.1=(tab i fun x=>((T x).length:Int))∧st.2.1=tab i T∧∀ x:Nat,x<i→o x ≠ none) (fun (e:(List Int × List (List (List Int))) ⊕ (Unit ⊕ ClT))=>((∀ x:Nat,x<c.n.toNat→o x ≠ none)∧e = .inl (tab c.n.toNat fun x=>((T x).length:Int),tab c.n.toNat T))∨((∃ x:Nat,x<c.n.toNat∧o x=none)∧e = .inr (.inl ()))) (by omega) ⟨rfl,rfl,rfl,fun x hx=>by omega⟩ (fun i st hi hI=>?_) (fun st hI=>?_) fun e he=>?_
 ·obtain ⟨q,q1,q2,ha⟩:=hI;obtain ⟨L,s2,s3⟩:=st;simp only at q q1 q2;subst q q1 q2;have hr:=h.r i;simp only;rw [if_pos (by omega)];cases e:o i with
  | none =>
   right;rw [e] at hr;rw [hr.2];simp only [Option.bind_some];rw [if_pos (by simp)];exact ⟨_,rfl,.inr ⟨⟨i,hi,e⟩,rfl⟩⟩
  | some K =>
   left;rw [e] at hr;have eT:T i=K:=(by rw [h.t i,e];rfl);rw [hr.2.1];simp only [Option.bind_some];rw [if_neg (by simp),Qa (by simp;omega),Qa (by simp;omega),Qa (by unfold B64;omega)];refine ⟨_,rfl,by simp only;omega,?_,?_,fun x hx=>?_⟩
   ·simp only;rw [Q3r,eT]
   ·simp only;rw [Q3r,eT]
   by_cases hxi:x=i
   ·subst hxi;rw [e];simp
   exact ha x (by omega)
 ·obtain ⟨q,q1,q2,ha⟩:=hI;obtain ⟨L,s2,s3⟩:=st;simp only at q q1 q2;subst q q1 q2;simp only;rw [if_neg (by omega)];exact ⟨_,rfl,.inl ⟨ha,rfl⟩⟩
 rcases he with ⟨ha,rfl⟩|⟨hn,rfl⟩
 ·refine ⟨fun _=>?_,fun ⟨x,hx,e⟩=>absurd e (ha x hx)⟩;have hT:=h.ok hc ha;have esz:(tab c.n.toNat fun x=>((T x).length:Int))=(clV c (tab c.n.toNat T)).sz:=by
   simp only [clV,Q10];refine tab_congr fun i hi=>?_;rw [gx_nat _ (by rw [Q10];exact hi)];simp [tab]
  rw [esz];generalize hU:tab c.n.toNat T=U at hT;have hl:=hT.l;simp only;refine tabg c.fr.length (clR c U) (e:=tab c.fr.length (clR c U)) (by omega) (fun i hi=>?_) (by simp only;rw [if_neg (by omega)]) rfl;have he:=hc.ends (a:=(i:Int)) (by omega);have t1:=hT.at he.1;have t2:=hT.at he.2;simp only;rw [if_pos (by omega),Qa (by omega),Qa (by omega)];refine tabg (gx U (ix c.fr i)).length (fun k=>posL (gx U (ix c.to i)) (puL c i (rx (gx U (ix c.fr i)) k))) (e:=clR c U i) (by omega) (fun k hk=>?_) ?_ rfl
  ·have ht:=t1.2 _ (Q5j hk);simp only;rw [if_pos (by omega),Qa (by omega),Qa (by omega),e_pull hc (by omega) (by omega)];simp only [Option.bind_some];unfold QV;rw [Qa (by simp only;omega),e_index2 (by simp only;omega)];simp only [Option.bind_some]
  simp only;rw [if_neg (by omega)];rfl
 exact ⟨fun ha=>by obtain ⟨x,hx,e⟩:=hn;exact absurd e (ha x hx),fun _=>rfl⟩
end
attribute [local simp] unk unA unE unT unC flat eL eI Qk Q13 Qf Cat.cells XClassifier.cells
noncomputable def QJ (c_:Cat):Option (List Int × Int) :=
 (QD c_).bind fun v1 =>
 if ¬ (v1=true) then
  some ([],1)
 else
  (QC c_).bind fun v3 =>
  match v3 with
  | .inl v3 =>
   some ([],3)
  | .inr v3 =>
   (QS (⟨(⟨(⟨v3.1,v3.2.1,v3.2.2.1,v3.2.2.2.1,v3.2.2.2.2.1⟩:Cat),v3.2.2.2.2.2.1,v3.2.2.2.2.2.2.1⟩:SF),v3.2.2.2.2.2.2.2⟩:XClassifier)).bind fun v4 =>
   some (v4,0)
theorem Q3t (c_:Cat) (r:List Int × Int) (h:QJ c_=some r):Contract Try.prog 24 [.agg (c_.cells true)] (.tup [lI r.1,iV r.2]):=by
 refine Qg (rvs:=[.tmp 2,.tmp 3]) (rs:=[lI r.1,iV r.2]) Try.func24 rfl rfl rfl rfl (by simp [Try.f24]) fun F hN hP=>?_;unfold QJ at h;refine Q0 (Ql [1] mo (by rw [hN];decide) fun K hK=>?_);simp;repeat refine sdQ ?_
 refine hK _ ?_;clear hK K;refine tn (Q5 (st':=⟨Yi c_ [],[],0⟩) (Q1d []) (Q0 (Q0 (runQ hN fun K hK=>?_))));simp;repeat with_reducible refine sdQ ?_
 replace ⟨v1,hv1,h⟩:=bind_some h;refine Q1 (Q2u _ v1 hv1) (.cons (.preT (by simp [Cat.cells])) .nil) ?_;simp;repeat refine sdQ ?_
 refine hK _ ?_;clear hK K;refine tn (Q5 (st':=⟨Yi c_ [(7,.val (.bool (!v1)))],[],0⟩) (Q1d []) (Q8 rfl (fun g=>?_) fun g=>?_))
 ·have g2:¬ (v1=true):=gQ;clear g;replace h:=if_l g2 h;refine Q0 (runQ hN fun K hK=>?_);simp;repeat refine sdQ ?_
  refine hK _ (tn (Q5 (st':=⟨[(2,nS),(3,iV 1)],[],0⟩) (Q1d []) (Qj (tr ?_))));clear hK K;have hr:=Option.some.inj h;rw [← hr];refine ⟨_,(.tmp (.tmp .nil)),?_⟩;refine ⟨(.one rfl rfl (.one rfl rfl .nil)),[nS,iV 1],[],by simp [Cat.cells,XClassifier.cells,UA,U1,IA,I1,LA,L1,BA,B1,EA,E1,E2,eB,eI,eL,Qx _ Qf _ (fun _=>rfl),Qx _ eL _ (fun _=>rfl)],by simp,(.cons .nil (.cons .refl .nil))⟩
 have g2:¬ (¬ (v1=true)):=gQ;clear g;replace h:=if_r g2 h;refine Q9 (tn (Q0 (w_runXM [] mo (by rw [hN];decide) fun K hK=>?_)));simp;repeat with_reducible refine sdQ ?_
 replace ⟨v3,hv3,h⟩:=bind_some h;refine Q3Y (fz:=[]) (ICon.liftL (e':=(match (generalizing:=false) v3 with|.inl v3=>{ v:=.tup [.val (.pointer none),.val (.bool false)],new:=[],cnt:=0 }|.inr v3=>{ v:=.tup [.adr 0 0 0,.val (.bool true)],new:=[(0,.mix 8 [[iV v3.1,.own 1 0 v3.2.1.length,.own 2 0 v3.2.2.1.length,.own 3 0 v3.2.2.2.1.length,.own 4 0 v3.2.2.2.2.1.length,.own 5 0 v3.2.2.2.2.2.1.length,.own 6 0 v3.2.2.2.2.2.2.1.length,.own 7 0 v3.2.2.2.2.2.2.2.length]]),(1,rI v3.2.1),(2,rI v3.2.2.1),(3,rI v3.2.2.2.1),(4,.row 1 (Ls v3.2.2.2.2.1)),(5,rI v3.2.2.2.2.2.1),(6,.row 1 (Ls v3.2.2.2.2.2.2.1)),(7,.mix 1 (Es eL v3.2.2.2.2.2.2.2))],cnt:=8 })) (Q2t _ v3 hv3) (by simp [AV.ro,rl,rlL,rlLL,Q3p,Cat.cells,XClassifier.cells,E2,eB,eI,eL,Qx _ Qf _ (fun _=>rfl),Qx _ eL _ (fun _=>rfl)]) (by rcases v3 with v3|v3<;>simp) (by rcases v3 with v3|v3<;>simp) (by rcases v3 with v3|v3<;>rfl) (by rcases v3 with v3|v3<;>simp [AV.ro,rl,rlL,rlLL,Q3p,Cat.cells,XClassifier.cells,E2,eB,eI,eL,Qx _ Qf _ (fun _=>rfl),Qx _ eL _ (fun _=>rfl)]) (by rcases v3 with v3|v3<;>simp [Q32]) (by rcases v3 with v3|v3<;>rfl) (by rcases v3 with v3|v3<;>simp [AV.ro,rl,rlL,rlLL,Q3p,Cat.cells,XClassifier.cells,E2,eB,eI,eL,Qx _ Qf _ (fun _=>rfl),Qx _ eL _ (fun _=>rfl)]) (fineI (by rcases v3 with v3|v3<;>simp))) ?_;clear hv3;rcases v3 with v3|v3
 ·try dsimp only at h
  try dsimp only
  simp;repeat refine sdQ ?_
  refine hK _ ?_;clear hK K;refine tn (Q5 (st':=⟨[(4,.val (.pointer none)),(5,.val (.bool false))],[],0⟩) (Q1d []) (Q0 (Q0 (runQ hN fun K hK=>?_))));simp;repeat refine sdQ ?_
  refine hK _ (tn ?_);clear hK K;refine Q8 rfl (fun _=>?_) fun g=>by simp at g
  refine Q0 (runQ hN fun K hK=>?_);simp;repeat refine sdQ ?_
  refine hK _ (tn (Q5 (st':=⟨[(2,nS),(3,iV 3)],[],0⟩) (Q1d []) (Qj (tr ?_))));clear hK K;have hr:=Option.some.inj h;rw [← hr];refine ⟨_,(.tmp (.tmp .nil)),?_⟩;refine ⟨(.one rfl rfl (.one rfl rfl .nil)),[nS,iV 3],[],by simp [Cat.cells,XClassifier.cells,UA,U1,IA,I1,LA,L1,BA,B1,EA,E1,E2,eB,eI,eL,Qx _ Qf _ (fun _=>rfl),Qx _ eL _ (fun _=>rfl)],by simp,(.cons .nil (.cons .refl .nil))⟩
 try dsimp only at h
 try dsimp only
 simp;repeat refine sdQ ?_
 refine hK _ ?_;clear hK K;refine tn (Q5 (st':=⟨Yh [(5,.val (.bool true))],[(0,.mix 8 [[iV v3.1,.own 1 0 v3.2.1.length,.own 2 0 v3.2.2.1.length,.own 3 0 v3.2.2.2.1.length,.own 4 0 v3.2.2.2.2.1.length,.own 5 0 v3.2.2.2.2.2.1.length,.own 6 0 v3.2.2.2.2.2.2.1.length,.own 7 0 v3.2.2.2.2.2.2.2.length]]),(1,rI v3.2.1),(2,rI v3.2.2.1),(3,rI v3.2.2.2.1),(4,.row 1 (Ls v3.2.2.2.2.1)),(5,rI v3.2.2.2.2.2.1),(6,.row 1 (Ls v3.2.2.2.2.2.2.1)),(7,.mix 1 (Es eL v3.2.2.2.2.2.2.2))],8⟩) (Q2L 8) (Q0 (Q0 (runQ hN fun K hK=>?_))));simp;repeat refine sdQ ?_
 refine hK _ (tn (Q8 rfl (fun g=>by simp at g) fun _=>?_));clear hK K;refine Q9 (tn (Q0 (runQ hN fun K hK=>?_)));simp;repeat with_reducible refine sdQ ?_
 replace ⟨v4,hv4,h⟩:=bind_some h;refine Q1 (Q3a _ v4 hv4) (.cons (.field rfl (by simp [Cat.cells,XClassifier.cells]) (.cons .val (.cons .w (.cons .w (.cons .w (.cons .w (.cons .w (.cons .w (.cons (.smix rfl (by simp) (Q1m (by simp [eL,Cat.cells,XClassifier.cells,Q13,Qf]))) .nil))))))))) .nil) ?_;simp;repeat refine sdQ ?_
 refine hK _ (tn (Q5 (st':=⟨[(2,.own 0 0 v4.length),(3,iV 0)],[(0,rI v4)],1⟩) (Q1d [(8,0)]) (Qj ?_)));clear hK K;have hr:=Option.some.inj h;rw [← hr];refine ⟨_,(.tmp (.tmp .nil)),?_⟩;refine ⟨(.one rfl rfl (.one rfl rfl .nil)),[lI v4,iV 0],[0],by simp [Cat.cells,XClassifier.cells,UA,U1,IA,I1,LA,L1,BA,B1,EA,E1,E2,eB,eI,eL,Qx _ Qf _ (fun _=>rfl),Qx _ eL _ (fun _=>rfl)],by simp,(UpL.refl _)⟩
section
attribute [local simp] Qc Qw Qm QN Qu
theorem Sv.fr {c:Cat} (hc:c.Is) {x:Int} {s:List Int} (h:Sv c (outL c x) s):∀ a∈s,ix c.fr a=x:=by
 have nn:=hc.nums
 induction h with
 | nil=>intro a ha;simp at ha
 | step t b ht hb ih =>
  intro a ha;obtain ⟨i,hi,⟨f,hf,g,hg,e,q⟩,rfl⟩:=mem_flt.1 ha;have hfb:(0≤f∧f<(c.fr.length:Int))∧ix c.fr f=x:=by
   rcases List.mem_append.1 hf with z|z
   ·exact ⟨ht.bd.1 f z,ih f z⟩
   rw [List.mem_singleton] at z;subst z;obtain ⟨k,hk,hk2,rfl⟩:=mem_flt.1 hb;exact ⟨by omega,hk2⟩
  have a1:=Af2 hc hfb.1;have a2:=Af2 hc (f:=(g:Int)) (by omega);rw [e] at a1;have d:=Ar.two hc a1 a2;rw [q,d.2.1];exact hfb.2
theorem id_out {c:Cat} (hc:c.Is) {x:Int} (hx:0≤x∧x<c.n):ix c.id x∈outL c x:=by
 have a:=hc.Ai hx;have h:=a.1;exact mem_flt.2 ⟨(ix c.id x).toNat,by omega,by rw [Int.toNat_of_nonneg h.1];exact a.2.1,by omega⟩
theorem out_clo {c:Cat} (hc:c.Is) {x:Int} (hx:0≤x∧x<c.n):clo c ([]++[ix c.id x])=outL c x:=by
 have a:=hc.Ai hx;unfold clo outL;refine flt_cg fun k hk=>⟨?_,fun q=>?_⟩
 ·rintro ⟨f,hf,g,hg,e,q⟩
  have:f=ix c.id x:=by simpa using hf
  subst this;have a2:=Af2 hc (f:=(g:Int)) (by omega);rw [a.2.2] at e;have a3:Ar c (g:Int) x (ix c.to (g:Int)):=⟨a2.1,e.symm,rfl⟩;rw [(hc.idl a3).1] at q;rw [q];exact e.symm
 have a2:=Af2 hc (f:=(k:Int)) (by omega);rw [q] at a2;exact ⟨ix c.id x,by simp,k,hk,by rw [a.2.2,q],((hc.idl a2).1).symm⟩
theorem Sv.top {c:Cat} (hc:c.Is) {x:Int} (hx:0≤x∧x<c.n) {s:List Int} (h:Sv c (outL c x) s):ix c.id x∈s↔s=outL c x:=by
 constructor
 case mpr=>intro e;rw [e];exact id_out hc hx
 intro hid;have hfr:=h.fr hc;cases h with
 | nil=>simp at hid
 | step t b ht hb =>
  have nn:=hc.nums;have hu:∀ f∈t++[b],(0≤f∧f<(c.fr.length:Int)):=by
   intro f hf;rcases List.mem_append.1 hf with z|z
   ·exact ht.bd.1 f z
   rw [List.mem_singleton] at z;subst z;obtain ⟨k,hk,hk2,rfl⟩:=mem_flt.1 hb;omega
  generalize t++[b]=u at hid hfr hu;obtain ⟨i,hi,⟨f,hf,g,hg,e,q⟩,eq⟩:=mem_flt.1 hid;unfold clo outL;refine flt_cg fun k hk=>⟨fun hk2=>hfr (k:Int) (mem_flt.2 ⟨k,hk,hk2,rfl⟩),fun hk2=>?_⟩;have a0:=hc.Ai hx;have a1:=Af2 hc (hu f hf);have a2:=Af2 hc (f:=(g:Int)) (by omega);have a3:=Af2 hc (f:=(k:Int)) (by omega);rw [hk2] at a3;rw [e] at a1;have d:=Ar.two hc a1 a2;rw [← q,← eq] at d;have et:ix c.to (g:Int)=x:=by rw [← d.2.2];exact a0.2.2
  rw [et] at a2;have d2:=Ar.two hc a2 a3;have hb2:=d2.1;refine ⟨f,hf,(ix (rx c.cs (g:Int)) (k:Int)).toNat,by omega,?_,?_⟩
  ·rw [Int.toNat_of_nonneg hb2.1,d2.2.1,e]
  rw [Int.toNat_of_nonneg hb2.1,← hc.assoc a1 a2 a3,← q,← eq];exact ((hc.idl a3).1).symm
theorem Full.srt {c:Cat} {out:List Int} {L:List (List Int)} (h:Full c out L):Full c out (srt cmpL L) :=
 ⟨⟨fun t ht=>h.g.sv t ((Q2U cmpL L).mem_iff.1 ht),(Q2U cmpL L).nodup_iff.2 h.g.nd⟩,by rw [Q6s];exact h.l,fun t ht=>(Q2U cmpL L).mem_iff.2 (h.a t ht)⟩
theorem SvR.full {c:Cat} (hc:c.Is) {x:Int} {L:List (List Int)} (h:SvR c x (some L)):Full c (outL c x) L:=by
 rcases Q6O hc x with ⟨K,hK,e⟩|⟨_,e⟩
 ·have:=h.2.1;rw [e] at this;cases this;exact hK.srt
 have:=h.2.1;rw [e] at this;cases this
theorem e_all {c:Cat} {x:Int} (hx:0≤x∧x<(c.id.length:Int)) {s:List Int} (hs:s.length≤1000):Q4r c x s=some (bo (ix c.id x∈s)):=by
 unfold Q4r QY;rw [Qa hx,e_has1 hs];rfl
theorem Full.one {c:Cat} (hc:c.Is) {x:Int} (hx:0≤x∧x<c.n) {L:List (List Int)} (h:Full c (outL c x) L):∃ j:Nat,j<L.length∧posL L (outL c x)=j∧∀ k:Nat,k<L.length→(ix c.id x∈rx L k↔k=j):=by
 have hm:outL c x∈L:=h.a _ (by have q:=Sv.step (c:=c) [] _ .nil (id_out hc hx);rw [out_clo hc hx] at q;exact q);obtain ⟨j,hj,q⟩:=List.getElem_of_mem hm;have inj:∀ i k:Nat,i<L.length→k<L.length→rx L i=rx L k→i=k:=by
  intro i k hi hk e;rw [← Q1N _ _ hi,← Q1N _ _ hk] at e;rcases Nat.lt_trichotomy i k with z|z|z
  ·exact absurd e (List.pairwise_iff_getElem.1 h.g.nd i k hi hk z)
  ·exact z
  exact absurd e.symm (List.pairwise_iff_getElem.1 h.g.nd k i hk hi z)
 have qj:rx L j=outL c x:=by rw [← Q1N _ _ hj];exact q
 refine ⟨j,hj,Q4X hj qj fun k hk e=>?_,fun k hk=>?_⟩
 ·have:=inj k j (by omega) hj (by rw [e,qj]);omega
 rw [(h.g.sv _ (Q5j hk)).top hc hx];exact ⟨fun e=>inj k j hk hj (by rw [e,qj]),fun e=>by rw [e];exact qj⟩
noncomputable def topL (c:Cat) (T:Nat→List (List Int)):List Int:=tab c.n.toNat fun x=>posL (T x) (outL c (x:Int))
theorem tabx {α:Type} [Inhabited α] {n:Nat} {T:Nat→α} {i:Nat} (h:i<n):gx (tab n T) (i:Int)=T i:=by
 rw [gx_nat _ (by rw [Q10];exact h)];simp [tab]
theorem e_tops25 {c:Cat} (hc:c.Is) {T:Nat→List (List Int)} (hT:∀ x:Nat,x<c.n.toNat→(T x).length≤16):Q1Z c (tab c.n.toNat T)=some (topL c T):=by
 have nn:=hc.nums;unfold Q1Z;refine tabg c.n.toNat (fun x=>posL (T x) (outL c (x:Int))) (e:=topL c T) (by omega) (fun i hi=>?_) (by simp only;rw [if_neg (by rw [Q10];omega)];rfl) rfl;have:=hT i hi;simp only;rw [if_pos (by rw [Q10];omega),Qa (by rw [Q10];omega),e_out25 hc,tabx hi];simp only [Option.bind_some];rw [e_place (by omega)];simp only [Option.bind_some]
theorem e_tops {c:Cat} (hc:c.Is) {T:Nat→List (List Int)} (hT:∀ x:Nat,x<c.n.toNat→Full c (outL c (x:Int)) (T x)) (k:XClassifier) (e1:k.sets_.s=c) (e2:k.sieves_=tab c.n.toNat T):QS k=some (topL c T):=by
 have nn:=hc.nums;unfold QS;rw [e1,e2];refine Q1E c.n.toNat (fun x=>tab x fun x=>posL (T x) (outL c (x:Int))) (e:=topL c T) rfl (by omega) (fun i hi=>?_) (by simp only;rw [if_neg (by rw [Q10];omega)];rfl) rfl;have hf:=hT i hi;have h16:=hf.l;obtain ⟨j,hj,ep,ho⟩:=hf.one hc (x:=(i:Int)) (by omega);simp only;rw [if_pos (by rw [Q10];omega),Qa (by rw [Q10];omega),tabx hi,Option.bind_assoc];refine Q1E (T i).length (fun k=>(tab i fun x=>posL (T x) (outL c (x:Int)))++(if k≤j then [] else [(j:Int)])) (e:=tab (i+1) fun x=>posL (T x) (outL c (x:Int))) (by simp) (by omega) (fun k hk=>?_) ?_ ?_
 ·have hs:=(hf.g.sv _ (Q5j hk)).bd.2;simp only;rw [if_pos (by omega),Qa (by omega),e_all (by omega) (by omega)];simp only [Option.bind_some]
  by_cases hkj:k=j
  ·rw [Q1x ((ho k hk).2 hkj),if_pos rfl,if_pos (by omega),if_neg (by omega),Qa (by simp;omega)];simp only [Option.bind_some];rw [Qa (by unfold B64;omega),hkj];simp
  rw [Q1R (fun z=>hkj ((ho k hk).1 z)),if_neg (by simp)];simp only [Option.bind_some];rw [Qa (by unfold B64;omega)]
  by_cases hle:k≤j
  ·rw [if_pos hle,if_pos (by omega)]
  rw [if_neg hle,if_neg (by omega)]
 ·simp only;rw [if_neg (by omega),if_neg (by omega),Q3r,ep]
 simp only [Option.bind_some];rw [Qa (by unfold B64;omega)]
theorem Q3U (c:Cat):∃ r,QK c=some r∧QJ c=some r∧(r.1.length≤1048576∧r.1.length≤100):=by
 by_cases hc:c.Is
 case neg =>
  refine ⟨([],1),?_,?_,by simp⟩
  ·unfold QK Q2g;rw [Q1R hc];rfl
  unfold QJ QD;rw [Q1R hc];rfl
 have nn:=hc.nums;have h:TT c (fun x=>Classical.choose (e_svs hc (x:Int))) (fun x=>(Classical.choose (e_svs hc (x:Int))).getD []):=⟨fun x=>Classical.choose_spec (e_svs hc (x:Int)),fun x=>rfl⟩;generalize (fun x:Nat=>Classical.choose (e_svs hc (x:Int)))=o at h;generalize (fun x:Nat=>(Classical.choose (e_svs hc (x:Int))).getD [])=T at h;have ec:=Q5q h hc;rcases e_lists25 h hc with ⟨ha,e1⟩|⟨hn,e1⟩
 ·have hF:∀ x:Nat,x<c.n.toNat→Full c (outL c (x:Int)) (T x):=by
   intro x hx;have q:=h.r x;cases e:o x with
   | none=>exact absurd e (ha x hx)
   | some K =>
    rw [e] at q;rw [h.t x,e];exact q.full hc
  refine ⟨(topL c T,0),?_,?_,by simp only [topL,Q10];omega⟩
  ·unfold QK Q2g;rw [Q1x hc];simp only [Option.bind_some];rw [if_neg (by simp),e1];simp only [Option.bind_some];rw [if_neg (by simp),e_tops25 hc fun x hx=>(hF x hx).l];rfl
  unfold QJ QD;rw [Q1x hc];simp only [Option.bind_some];rw [if_neg (by simp),ec.1 ha];simp only [Option.bind_some];rw [e_tops hc hF _ rfl rfl];rfl
 refine ⟨([],3),?_,?_,by simp⟩
 ·unfold QK Q2g;rw [Q1x hc];simp only [Option.bind_some];rw [if_neg (by simp),e1];rfl
 unfold QJ QD;rw [Q1x hc];simp only [Option.bind_some];rw [if_neg (by simp),ec.2 hn];rfl
end
end Go.Vc.T
