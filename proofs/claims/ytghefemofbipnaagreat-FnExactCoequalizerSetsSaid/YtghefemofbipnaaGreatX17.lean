/- A part of the proof. -/
import Derived.Test.YtghefemofbipnaaGreatX16
set_option maxRecDepth 100000
set_option maxHeartbeats 4000000
set_option linter.unusedSimpArgs false
set_option linter.unusedVariables false
set_option linter.unusedSectionVars false
set_option linter.unnecessarySimpa false

open List renaming getD_eq_getElem?_getD→qG
open List renaming length_cons→qI
open List renaming take_succ_eq_append_getElem→zH
open List renaming getElem_mem→zJ
namespace Go.Vc.T
open Go Go.Vc Go.Proofs
section
attribute [local simp] Qd Qt Ql QS Qv
theorem n83 [Kd Tryz.prog] (u v:Bool) (xs ys:List Int):Contract Tryz.prog 161 [.lst u 1 (Is xs),.lst v 1 (Is ys)] (iV (cmpL xs ys)):=by
 refine Q4 (rs:=[iV (cmpL xs ys)]) Tryz.func161 rfl rfl rfl rfl (by simp [Tryz.f161]) fun F hN hP=>?_;refine Q4j 0 fun h0=>?_;simp at h0;obtain ⟨hl0,hb0⟩:=h0.is;refine srQ hN fun K hK=>?_;simp;refine hK _ ?_;clear hK K;refine Q3 (srQ hN fun K hK=>?_);simp;refine hK _ (Q6 (Qr (fun i:Nat=>⟨[(0,.lst u 1 (Is xs)),(1,.lst v 1 (Is ys)),(7,iV xs.length),(8,iV i)],[],0⟩) (fun i=>i≤xs.length∧i≤ys.length∧xs.take i=ys.take i) (fun i=>xs.length - i) 0 (by simp) (Wk.cut (by simp) (by simp) rfl) ?_));clear hK K
 rintro i ⟨hi,hj,ht⟩
 refine srQ hN fun K hK=>?_;simp;refine hK _ ?_;clear hK K;refine Q3 (Q7 rfl (fun h=>?_) fun h=>?_)
 ·simp at h;have hd:=Q77 hi hj ht;rw [List.drop_eq_getElem_cons h] at hd;refine Q8 (Q3 (Q6 (srQ hN fun K hK=>?_)));simp;refine hK _ ?_;clear hK K;refine Q3 (srQ hN fun K hK=>?_);simp;refine hK _ ?_;clear hK K;refine Q7 rfl (fun h2=>?_) fun h2=>?_
  ·simp at h2;have h2:i=ys.length:=(by omega);refine srQ hN fun K hK=>?_;simp;refine hK _ ?_;clear hK K;have hq:List.drop i ys=[]:=List.drop_eq_nil_of_le (by omega);refine Qg (Qc rfl ?_);rw [hd,hq];rfl
  simp at h2;have h3:i<ys.length:=by omega
  rw [List.drop_eq_getElem_cons h3] at hd;simp only [cmpL] at hd;refine Q8 (srQ hN fun K hK=>?_);simp [h,h3];refine hK _ ?_;clear hK K;refine Q7 rfl (fun h4=>?_) fun h4=>?_
  ·simp at h4;rw [if_neg h4] at hd;refine Q3 (srQ hN fun K hK=>?_);simp [h,h3];refine hK _ ?_;clear hK K;refine Q7 rfl (fun h5=>?_) fun h5=>?_
   ·simp at h5;rw [if_pos h5] at hd;refine srQ hN fun K hK=>?_;simp;refine hK _ ?_;clear hK K;refine Qg (Qc rfl (by rw [hd]))
   simp at h5;rw [if_neg (by omega)] at hd;refine Q8 (srQ hN fun K hK=>?_);simp;refine hK _ ?_;clear hK K;refine Qg (Qc rfl (by rw [hd]))
  simp at h4;refine Q8 (runQ hN fun K hK=>?_);simp;refine hK _ ?_;clear hK K;rw [Qh (n:=xs.length) (by omega) (by omega)];refine ⟨i+1,⟨by omega,by omega,?_⟩,by dsimp only;omega,Wk.cut (by simp) rfl rfl⟩;rw [zH h,zH h3,ht,h4]
 simp at h;have hi2:i=xs.length:=by omega
 subst hi2;rw [List.take_length] at ht;have hd:=Q77 (Nat.le_refl _) hj (by rw [List.take_length];exact ht);rw [List.drop_length] at hd;refine Qk ?_;simp;refine Q3 (srQ hN fun K hK=>?_);simp;refine hK _ ?_;clear hK K;refine Q7 rfl (fun h6=>?_) fun h6=>?_
 ·simp at h6;have h7:ys.drop xs.length ≠ []:=by rw [Ne,List.drop_eq_nil_iff];omega
  refine srQ hN fun K hK=>?_;simp;refine hK _ (Qg (Qc rfl ?_));clear hK K;rw [hd];cases hq:ys.drop xs.length with
  | nil=>exact absurd hq h7
  | cons a r=>rfl
 simp at h6;have h7:ys.drop xs.length=[]:=List.drop_eq_nil_of_le (by omega);refine Q8 (srQ hN fun K hK=>?_);simp;refine hK _ (Qg (Qc rfl ?_));clear hK K;rw [hd,h7];rfl
theorem n62 [Kd Tryz.prog] (u v:Bool) (xs ys:List Int):Contract Tryz.prog 113 [.lst u 1 (Is xs),.lst v 1 (Is ys)] (.val (.bool (decide (xs=ys)))):=by
 refine Q4 (rs:=[.val (.bool (decide (xs=ys)))]) Tryz.func113 rfl rfl rfl rfl (by simp [Tryz.f113]) fun F hN hP=>?_;refine srQ hN fun K hK=>?_;simp;refine hK _ ?_;clear hK K;refine srQ hN fun K hK=>?_;simp;refine Q0 (n83 u v xs ys) (.cons .lst (.cons .lst .nil)) ?_;simp [unk,unA,unE,flat];refine hK _ (Qg (Qc rfl ?_));clear hK K;rw [← bo_dec,← bo_iff (cmpL_zero (x:=xs) (y:=ys)),bo_dec]
 by_cases h:cmpL xs ys=0<;>simp [h]
theorem n61 [Kd Tryz.prog] (u v:Bool) (c d:Cat) (tl tl2:List AV) (hl:c.cs.length≤1048576):Contract Tryz.prog 112 [.rptr (c.cells u++tl),.rptr (d.cells v++tl2)] (.val (.bool (bo (c=d)))):=by
 refine Q4 (rs:=[.val (.bool (bo (c=d)))]) Tryz.func112 rfl rfl rfl rfl (by simp [Tryz.f112]) fun F hN hP=>?_;simp only [Cat.cells,List.cons_append,List.nil_append];refine srQ hN fun K hK=>?_;simp;refine hK _ ?_;clear hK K;refine Q3 (srQ hN fun K hK=>?_);refine join hK (fun b=>⟨Y6 c u tl [(1,.rptr (iV d.n :: .lst v 1 (Is d.fr) :: .lst v 1 (Is d.to) :: .lst v 1 (Is d.id) :: .lst v 1 (Ls d.cs) :: tl2)),(63,.val (.bool b))],[],0⟩) (¬ (c.n=d.n∧c.fr=d.fr∧c.to=d.to∧c.id=d.id∧c.cs.length=d.cs.length)) (fun hJ=>?_) fun b hb=>?_
 ·simp;refine ⟨fun a0=>?_,fun a0=>?_⟩
  ·refine Q0 (n62 u v c.fr d.fr) (.cons .lst (.cons .lst .nil)) ?_;simp [unk,unA,unE,flat];refine ⟨fun a1=>?_,fun a1=>?_⟩
   ·refine Q0 (n62 u v c.to d.to) (.cons .lst (.cons .lst .nil)) ?_;simp [unk,unA,unE,flat];refine ⟨fun a2=>?_,fun a2=>?_⟩
    ·refine Q0 (n62 u v c.id d.id) (.cons .lst (.cons .lst .nil)) ?_;simp [unk,unA,unE,flat];refine ⟨fun a3=>?_,fun a3=>?_⟩
     ·exact hJ ((c.cs.length:Int) != d.cs.length) (by simp [a0,a1,a2,a3];try omega) _ (rbQ hP [])
     exact hJ (true) (yes fun hp=>a3 hp.2.2.2.1) _ (rbQ hP [])
    exact hJ (true) (yes fun hp=>a2 hp.2.2.1) _ (rbQ hP [])
   exact hJ (true) (yes fun hp=>a1 hp.2.1) _ (rbQ hP [])
  exact hJ (true) (yes fun hp=>a0 hp.1) _ (rbQ hP [])
 clear hK K;refine Q7 rfl (fun h=>?_) fun h=>?_
 ·refine srQ hN fun K hK=>?_;simp;refine hK _ (Qg (Qc rfl (bo_f fun hp=>?_)));clear hK K;exact hb.1 h (by subst hp;exact ⟨rfl,rfl,rfl,rfl,rfl⟩)
 obtain ⟨p1,p2,p3,p4,p5⟩:c.n=d.n∧c.fr=d.fr∧c.to=d.to∧c.id=d.id∧c.cs.length=d.cs.length:=Classical.byContradiction fun hn=>by rw [hb.2 hn] at h;cases h
 refine Q8 (Q3 (srQ hN fun K hK=>?_));simp;refine hK _ (Q6 (Qr (fun i:Nat=>⟨Y6 c u tl [(1,.rptr (iV d.n :: .lst v 1 (Is d.fr) :: .lst v 1 (Is d.to) :: .lst v 1 (Is d.id) :: .lst v 1 (Ls d.cs) :: tl2)),(68,iV c.cs.length),(69,iV i)],[],0⟩) (fun i=>i≤c.cs.length∧c.cs.take i=d.cs.take i) (fun i=>c.cs.length - i) 0 (by simp) (rbQ hP []) ?_));clear hK K
 rintro i ⟨hi,ht⟩
 refine srQ hN fun K hK=>?_;simp;refine hK _ ?_;clear hK K;refine Q3 (Q7 rfl (fun h2=>?_) fun h2=>?_)
 ·simp at h2;have h3:i<d.cs.length:=by omega
  refine Q8 (Q3 (Q6 (srQ hN fun K hK=>?_)));simp;refine hK _ ?_;clear hK K;refine srQ hN fun K hK=>?_;simp [h2,h3];refine Q0 (n62 true true c.cs[i] d.cs[i]) (.cons .lst (.cons .lst .nil)) ?_;simp [unk,unA,unE,flat];refine hK _ ?_;clear hK K;refine Q7 rfl (fun h4=>?_) fun h4=>?_
  ·simp at h4;refine srQ hN fun K hK=>?_;simp;refine hK _ (Qg (Qc rfl (bo_f fun hp=>?_)));clear hK K;subst hp;exact h4 rfl
  simp at h4;refine Q8 (runQ hN fun K hK=>?_);simp;refine hK _ ?_;clear hK K;rw [Qh (n:=c.cs.length) (by omega) (by omega)];refine ⟨i+1,⟨by omega,?_⟩,by dsimp only;omega,(rbQ hP [])⟩;rw [zH h2,zH h3,ht,h4]
 simp at h2;have hi2:i=c.cs.length:=by omega
 refine Qk ?_;simp;refine srQ hN fun K hK=>?_;simp;refine hK _ (Qg (Qc rfl (bo_t ?_)));clear hK K;rw [hi2,List.take_length,p5,List.take_length] at ht;exact Cat.eq_iff.2 ⟨p1,p2,p3,p4,ht⟩
@[simp] abbrev Yn (a:SF) (b:Bool) (c:List AV) (d:SF) (e:Bool) (f:List AV) (g:List (Nat × AV)):List (Nat × AV):=(0,.rptr (iV a.s.n :: .lst b 1 (Is a.s.fr) :: .lst b 1 (Is a.s.to) :: .lst b 1 (Is a.s.id) :: .lst b 1 (Ls a.s.cs) :: .lst b 1 (Is a.sz) :: .lst b 1 (Ls a.ac) :: c))::(1,.rptr (iV d.s.n :: .lst e 1 (Is d.s.fr) :: .lst e 1 (Is d.s.to) :: .lst e 1 (Is d.s.id) :: .lst e 1 (Ls d.s.cs) :: .lst e 1 (Is d.sz) :: .lst e 1 (Ls d.ac) :: f))::g
theorem n26 [Kd Tryz.prog] (u v:Bool) (f g:SF) (tl tl2:List AV) (hl:f.s.cs.length≤1048576) (hl2:f.ac.length≤1048576):Contract Tryz.prog 77 [.rptr (f.cells u++tl),.rptr (g.cells v++tl2)] (.val (.bool (bo (f=g)))):=by
 refine Q4 (rs:=[.val (.bool (bo (f=g)))]) Tryz.func77 rfl rfl rfl rfl (by simp [Tryz.f77]) fun F hN hP=>?_;simp only [SF.cells,List.cons_append,List.nil_append];refine srQ hN fun K hK=>?_;simp;refine hK _ ?_;clear hK K;refine Q3 (srQ hN fun K hK=>?_);refine join hK (fun b=>⟨Yn f u tl g v tl2 [(38,.val (.bool b))],[],0⟩) (¬ (f.s=g.s∧f.sz=g.sz∧f.ac.length=g.ac.length)) (fun hJ=>?_) fun b hb=>?_
 ·simp;refine Q0 (n61 u v f.s g.s (.lst u 1 (Is f.sz) :: .lst u 1 (Ls f.ac) :: tl) (.lst v 1 (Is g.sz) :: .lst v 1 (Ls g.ac) :: tl2) hl) (.cons .rptr (.cons .rptr .nil)) ?_;simp [unk,unA,unE,flat];refine ⟨fun a0=>?_,fun a0=>?_⟩
  ·refine Q0 (n62 u v f.sz g.sz) (.cons .lst (.cons .lst .nil)) ?_;simp [unk,unA,unE,flat];refine ⟨fun a1=>?_,fun a1=>?_⟩
   ·exact hJ ((f.ac.length:Int) != g.ac.length) (by simp [a0,a1];try omega) _ (rbQ hP [])
   exact hJ (true) (yes fun hp=>a1 hp.2.1) _ (rbQ hP [])
  exact hJ (true) (yes fun hp=>a0 hp.1) _ (rbQ hP [])
 clear hK K;refine Q7 rfl (fun h=>?_) fun h=>?_
 ·refine srQ hN fun K hK=>?_;simp;refine hK _ (Qg (Qc rfl (bo_f fun hp=>?_)));clear hK K;exact hb.1 h (by subst hp;exact ⟨rfl,rfl,rfl⟩)
 obtain ⟨p1,p2,p5⟩:f.s=g.s∧f.sz=g.sz∧f.ac.length=g.ac.length:=Classical.byContradiction fun hn=>by rw [hb.2 hn] at h;cases h
 refine Q8 (Q3 (srQ hN fun K hK=>?_));simp;refine hK _ (Q6 (Qr (fun i:Nat=>⟨Yn f u tl g v tl2 [(43,iV f.ac.length),(44,iV i)],[],0⟩) (fun i=>i≤f.ac.length∧f.ac.take i=g.ac.take i) (fun i=>f.ac.length - i) 0 (by simp) (rbQ hP []) ?_));clear hK K
 rintro i ⟨hi,ht⟩
 refine srQ hN fun K hK=>?_;simp;refine hK _ ?_;clear hK K;refine Q3 (Q7 rfl (fun h2=>?_) fun h2=>?_)
 ·simp at h2;have h3:i<g.ac.length:=by omega
  refine Q8 (Q3 (Q6 (srQ hN fun K hK=>?_)));simp;refine hK _ ?_;clear hK K;refine srQ hN fun K hK=>?_;simp [h2,h3];refine Q0 (n62 true true f.ac[i] g.ac[i]) (.cons .lst (.cons .lst .nil)) ?_;simp [unk,unA,unE,flat];refine hK _ ?_;clear hK K;refine Q7 rfl (fun h4=>?_) fun h4=>?_
  ·simp at h4;refine srQ hN fun K hK=>?_;simp;refine hK _ (Qg (Qc rfl (bo_f fun hp=>?_)));clear hK K;subst hp;exact h4 rfl
  simp at h4;refine Q8 (runQ hN fun K hK=>?_);simp;refine hK _ ?_;clear hK K;rw [Qh (n:=f.ac.length) (by omega) (by omega)];refine ⟨i+1,⟨by omega,?_⟩,by dsimp only;omega,(rbQ hP [])⟩;rw [zH h2,zH h3,ht,h4]
 simp at h2;have hi2:i=f.ac.length:=by omega
 refine Qk ?_;simp;refine srQ hN fun K hK=>?_;simp;refine hK _ (Qg (Qc rfl (bo_t ?_)));clear hK K;rw [hi2,List.take_length,p5,List.take_length] at ht;exact SF.eq_iff.2 ⟨p1,p2,ht⟩
def Ps (v:Bool) (fs:List SF):List (List AV):=fs.map fun f=>[.rptr (f.cells v)]
def Pm (v:Bool) (fs:List SM):List (List AV):=fs.map fun f=>[.rptr (f.cells v)]
@[simp] theorem Ps_length (v:Bool) (fs:List SF):(Ps v fs).length=fs.length:=by simp [Ps]
@[simp] theorem Pm_length (v:Bool) (fs:List SM):(Pm v fs).length=fs.length:=by simp [Pm]
theorem Ps_at (v:Bool) (fs:List SF) (i:Nat) (h:i<(Ps v fs).length):(Ps v fs)[i]=[.rptr ((fs[i]'(by simpa using h)).cells v)]:=by simp [Ps]
theorem Pm_at (v:Bool) (fs:List SM) (i:Nat) (h:i<(Pm v fs).length):(Pm v fs)[i]=[.rptr ((fs[i]'(by simpa using h)).cells v)]:=by simp [Pm]
theorem all_at {α:Type} {P:α→Prop} {xs:List α} (h:∀ i (hi:i<xs.length),P xs[i]):∀ x∈xs,P x:=by
 intro x hx;obtain ⟨i,hi,rfl⟩:=List.getElem_of_mem hx;exact h i hi
theorem n84 [Kd Tryz.prog] (u v:Bool) (fs:List SF) (hl:fs.length≤1048576):Contract Tryz.prog 159 [.lst u 1 (Ps v fs)] (.val (.bool (bo (∀ f∈fs,f.Is)))):=by
 refine Q4 (rs:=[.val (.bool (bo (∀ f∈fs,f.Is)))]) Tryz.func159 rfl rfl rfl rfl (by simp [Tryz.f159]) fun F hN hP=>?_;refine srQ hN fun K hK=>?_;simp;refine hK _ ?_;clear hK K;refine Q3 (srQ hN fun K hK=>?_);simp;refine hK _ (Q6 (Qr (fun i:Nat=>⟨[(5,.lst u 1 (Ps v fs)),(6,iV fs.length),(7,iV i)],[],0⟩) (fun i=>i≤fs.length∧∀ j (hj:j<fs.length),j<i→fs[j].Is) (fun i=>fs.length - i) 0 (by simp) (rbQ hP []) ?_));clear hK K
 rintro i ⟨hi,ht⟩
 refine srQ hN fun K hK=>?_;simp;refine hK _ ?_;clear hK K;refine Q3 (Q7 rfl (fun h=>?_) fun h=>?_)
 ·simp at h;refine Q8 (Q3 (Q6 (srQ hN fun K hK=>?_)));simp [Ps_at,h];refine hK _ ?_;clear hK K;refine srQ hN fun K hK=>?_;simp;refine Q0 (c21 v fs[i]) (.cons .rptr .nil) ?_;simp [unk,unA,unE,flat];refine hK _ ?_;clear hK K;refine Q7 rfl (fun h2=>?_) fun h2=>?_
  ·simp at h2;refine srQ hN fun K hK=>?_;simp;refine hK _ (Qg (Qc rfl (bo_f fun hp=>?_)));clear hK K;exact h2 (hp _ (zJ h))
  simp at h2;refine Q8 (runQ hN fun K hK=>?_);simp;refine hK _ ?_;clear hK K;rw [Qh (n:=fs.length) (by omega) (by omega)];refine ⟨i+1,⟨by omega,fun j hj hji=>?_⟩,by dsimp only;omega,rbQ hP []⟩;rcases Nat.lt_or_ge j i with q|q
  ·exact ht j hj q
  have:j=i:=by omega
  subst this;exact h2
 simp at h;have hi2:i=fs.length:=by omega
 refine Qk ?_;simp;refine srQ hN fun K hK=>?_;simp;refine hK _ (Qg (Qc rfl (bo_t ?_)));clear hK K;exact all_at fun j hj=>ht j hj (by omega)
theorem n85 [Kd Tryz.prog] (u:Bool) (m:SM) (ht:m.t.Sh) (hl:m.s.sz.length=m.t.sz.length) (hm:m.s.sz.length≤1048576):Contract Tryz.prog 160 [.rptr (m.cells u)] (.val (.bool (bo (m.p.length=m.s.sz.length∧∀ x:Nat,x<m.p.length→m.s.part m.t m.p x)))):=by
 refine Q4 (rs:=[.val (.bool (bo (m.p.length=m.s.sz.length∧∀ x:Nat,x<m.p.length→m.s.part m.t m.p x)))]) Tryz.func160 rfl rfl rfl rfl (by simp [Tryz.f160]) fun F hN hP=>?_;simp only [SM.cells];refine srQ hN fun K hK=>?_;simp;refine hK _ ?_;clear hK K;refine Q3 (srQ hN fun K hK=>?_);simp;refine hK _ ?_;clear hK K;refine Q7 rfl (fun h=>?_) fun h=>?_
 ·simp at h;refine srQ hN fun K hK=>?_;simp;refine hK _ (Qg (Qc rfl (bo_f fun hp=>?_)));clear hK K;exact h (by omega)
 simp at h;have hp:m.p.length=m.s.sz.length:=by omega
 refine Q8 (Q3 (srQ hN fun K hK=>?_));simp;refine hK _ (Q6 (Qr (fun x:Nat=>⟨[(0,.rptr (YD m u [])),(20,.lst u 1 (Ls m.p)),(21,iV m.p.length),(22,iV x)],[],0⟩) (fun x=>x≤m.p.length∧∀ y:Nat,y<x→m.s.part m.t m.p y) (fun x=>m.p.length - x) 0 (by simp) (rbQ hP []) ?_));clear hK K
 rintro x ⟨hx0,hi⟩
 refine srQ hN fun K hK=>?_;simp;refine hK _ ?_;clear hK K;refine Q3 (Q7 rfl (fun h2=>?_) fun h2=>?_)
 ·simp at h2;have hx:x<m.p.length:=by omega
  have s1:=Q1o ht.sz (j:=x) (by omega) (by omega);refine Q8 (Q3 (Q6 (srQ hN fun K hK=>?_)));simp [QP,QX,QA,QB,hx];refine hK _ ?_;clear hK K;refine srQ hN fun K hK=>?_;simp [QP,QX,QA,QB,show x<m.s.sz.length by omega,show x<m.t.sz.length by omega];refine Q0 (c62 true (rx m.p x) (ix m.s.sz x) (ix m.t.sz x) ⟨by omega,by omega⟩) (.cons .lst (.cons .val (.cons .val .nil))) ?_;simp [unk,unA,unE,flat];refine hK _ ?_;clear hK K;refine Q7 rfl (fun h3=>?_) fun h3=>?_
  ·have hn:¬ m.s.part m.t m.p x:=(by simp [SF.part];simp at h3;grind);refine srQ hN fun K hK=>?_;simp;refine hK _ (Qg (Qc rfl (bo_f fun hq=>?_)));clear hK K;exact hn (hq.2 x hx)
  have hc:m.s.part m.t m.p x:=by simp [SF.part];simp at h3;grind
  refine Q8 (runQ hN fun K hK=>?_);simp;refine hK _ ?_;clear hK K;rw [Qh (n:=m.p.length) (by omega) (by omega)];refine ⟨x+1,⟨by omega,Qp hi hc⟩,by dsimp only;omega,(rbQ hP [])⟩
 simp at h2;have hx2:m.p.length≤x:=by omega
 refine Qk ?_;simp;refine srQ hN fun K hK=>?_;simp;refine hK _ (Qg (Qc rfl (bo_t ?_)));clear hK K;exact ⟨hp,fun y hy=>hi y (by omega)⟩
theorem n73 [Kd Tryz.prog] (u:Bool) (m:SM):Contract Tryz.prog 108 [.rptr (m.cells u)] (.val (.bool (bo m.Sh))):=by
 refine Q4 (rs:=[.val (.bool (bo m.Sh))]) Tryz.func108 rfl rfl rfl rfl (by simp [Tryz.f108]) fun F hN hP=>?_;simp only [SM.cells];refine srQ hN fun K hK=>?_;simp;refine hK _ ?_;clear hK K;refine srQ hN fun K hK=>?_;refine join hK (fun b=>⟨[(2,.val (.bool b))],[],0⟩) (m.Sh) (fun hJ=>?_) fun b hb=>?_
 ·simp;rw [SM.Sh_iff] at hJ;refine Q0 (n84 true u [m.s,m.t] (by simp)) (.cons (.lits (es:=_) rfl (.cons rfl (.cons (.pre (cs:=m.s.cells u) (ds:=[iV m.t.s.n,.lst u 1 (Is m.t.s.fr),.lst u 1 (Is m.t.s.to),.lst u 1 (Is m.t.s.id),.lst u 1 (Ls m.t.s.cs),.lst u 1 (Is m.t.sz),.lst u 1 (Ls m.t.ac),.lst u 1 (Ls m.p)])) .nil) (.cons rfl (.cons (.pre (cs:=m.t.cells u) (ds:=[.lst u 1 (Ls m.p)])) .nil) .nil)) rfl) .nil) ?_;simp [unk,unA,unE,flat];refine ⟨fun a0 a1=>?_,fun a0=>?_⟩
  ·refine Q0 (n61 u u m.s.s m.t.s [.lst u 1 (Is m.s.sz),.lst u 1 (Ls m.s.ac),iV m.t.s.n,.lst u 1 (Is m.t.s.fr),.lst u 1 (Is m.t.s.to),.lst u 1 (Is m.t.s.id),.lst u 1 (Ls m.t.s.cs),.lst u 1 (Is m.t.sz),.lst u 1 (Ls m.t.ac),.lst u 1 (Ls m.p)] [.lst u 1 (Is m.t.sz),.lst u 1 (Ls m.t.ac),.lst u 1 (Ls m.p)] (by have h1:=a0.1.cat.1.lc;have h2:=a0.1.cat.1.m40;omega)) (.cons .rptr (.cons .rptr .nil)) ?_;simp [unk,unA,unE,flat];refine ⟨fun a2=>?_,fun a2=>?_⟩
   ·refine Q0 (n85 u m a1.1 (SM.fit ⟨a0,a1,a2⟩).1 (SM.fit ⟨a0,a1,a2⟩).2) (.cons .rptr .nil) ?_;simp [unk,unA,unE,flat];exact hJ (bo (m.p.length=m.s.sz.length∧∀ x:Nat,x<m.p.length→m.s.part m.t m.p x)) (by simp [a0,a1,a2]) _ (rbQ hP [])
   exact hJ (false) (nope fun hp=>a2 hp.1.2.2) _ (rbQ hP [])
  exact hJ (false) (nope fun hp=>by grind) _ (rbQ hP [])
 clear hK K;refine Qg (Qc rfl (bo_eq hb))
theorem n37 [Kd Tryz.prog] (u:Bool) (m:SM):Contract Tryz.prog 68 [.rptr (m.cells u)] (.val (.bool (bo m.Is))):=by
 refine Q4 (rs:=[.val (.bool (bo m.Is))]) Tryz.func68 rfl rfl rfl rfl (by simp [Tryz.f68]) fun F hN hP=>?_;refine srQ hN fun K hK=>?_;simp;refine hK _ ?_;clear hK K;refine Q3 (srQ hN fun K hK=>?_);simp;refine Q0 (n73 u m) (.cons .rptr .nil) ?_;simp [unk,unA,unE,flat];refine hK _ ?_;clear hK K;refine Q7 rfl (fun h=>?_) fun h=>?_
 ·have hn:¬ m.Sh:=Q70 h;refine srQ hN fun K hK=>?_;simp;refine hK _ (Qg (Qc rfl (bo_f fun hs=>?_)));clear hK K;exact hn hs.1
 have hm:m.Sh:=Q71 h;refine Q8 (srQ hN fun K hK=>?_);simp;refine Q0 (n74 u m hm) (.cons .rptr .nil) ?_;simp [unk,unA,unE,unT,flat,two];refine hK _ ?_;clear hK K;refine srQ hN fun K hK=>?_;simp;refine hK _ (Qg (Qc rfl (lt_bo ?_)));clear hK K;exact ⟨fun q=>⟨hm,mfault_neg.1 q⟩,fun q=>mfault_neg.2 q.2⟩
theorem n25 [Kd Tryz.prog] (u v:Bool) (fs:List SM) (hl:fs.length≤1048576):Contract Tryz.prog 76 [.lst u 1 (Pm v fs)] (.val (.bool (bo (∀ f∈fs,f.Is)))):=by
 refine Q4 (rs:=[.val (.bool (bo (∀ f∈fs,f.Is)))]) Tryz.func76 rfl rfl rfl rfl (by simp [Tryz.f76]) fun F hN hP=>?_;refine srQ hN fun K hK=>?_;simp;refine hK _ ?_;clear hK K;refine Q3 (srQ hN fun K hK=>?_);simp;refine hK _ (Q6 (Qr (fun i:Nat=>⟨[(5,.lst u 1 (Pm v fs)),(6,iV fs.length),(7,iV i)],[],0⟩) (fun i=>i≤fs.length∧∀ j (hj:j<fs.length),j<i→fs[j].Is) (fun i=>fs.length - i) 0 (by simp) (rbQ hP []) ?_));clear hK K
 rintro i ⟨hi,ht⟩
 refine srQ hN fun K hK=>?_;simp;refine hK _ ?_;clear hK K;refine Q3 (Q7 rfl (fun h=>?_) fun h=>?_)
 ·simp at h;refine Q8 (Q3 (Q6 (srQ hN fun K hK=>?_)));simp [Pm_at,h];refine hK _ ?_;clear hK K;refine srQ hN fun K hK=>?_;simp;refine Q0 (n37 v fs[i]) (.cons .rptr .nil) ?_;simp [unk,unA,unE,flat];refine hK _ ?_;clear hK K;refine Q7 rfl (fun h2=>?_) fun h2=>?_
  ·simp at h2;refine srQ hN fun K hK=>?_;simp;refine hK _ (Qg (Qc rfl (bo_f fun hp=>?_)));clear hK K;exact h2 (hp _ (zJ h))
  simp at h2;refine Q8 (runQ hN fun K hK=>?_);simp;refine hK _ ?_;clear hK K;rw [Qh (n:=fs.length) (by omega) (by omega)];refine ⟨i+1,⟨by omega,fun j hj hji=>?_⟩,by dsimp only;omega,rbQ hP []⟩;rcases Nat.lt_or_ge j i with q|q
  ·exact ht j hj q
  have:j=i:=by omega
  subst this;exact h2
 simp at h;have hi2:i=fs.length:=by omega
 refine Qk ?_;simp;refine srQ hN fun K hK=>?_;simp;refine hK _ (Qg (Qc rfl (bo_t ?_)));clear hK K;exact all_at fun j hj=>ht j hj (by omega)
end
section
attribute [local simp] Qd Qt Ql QS Qv
theorem Cat.Sh.size2 {c:Cat} (hs:c.Sh):c.ok∧c.size≤2000:=by
 have h0:=hs.n8;have h1:=hs.li;have h2:=hs.m40;have hr:∀ xs∈c.cs,xs.length≤40:=by
  intro xs hx;obtain ⟨i,hi,rfl⟩:=List.getElem_of_mem hx;rw [QX _ _ hi,hs.row' (by omega) (by have:=hs.lc;omega)];exact h2
 have hb:∀ {l:List (List Int)},(∀ xs∈l,xs.length≤40)→sumL l≤l.length * 40:=by
  intro l
  induction l with
  | nil=>intro _;simp [sumL]
  | cons x r ih =>
   intro h;have h1:=ih fun xs hx=>h xs (List.mem_cons_of_mem _ hx);have h2:=h x (by simp);simp only [sumL,List.map_cons,List.sum_cons,qI] at h1 ⊢;rw [Nat.add_mul];omega
 have h3:=hb hr;have h4:=hs.lc;have h5:=hs.lt;have:c.cs.length * 40≤40 * 40:=Nat.mul_le_mul_right _ (by omega);refine ⟨⟨by omega,by omega,by omega,by omega,fun xs hx=>by have:=hr xs hx;omega,by omega⟩,?_⟩;simp only [Cat.size];omega
theorem sumL_b {b:Nat} {l:List (List Int)} (h:∀ xs∈l,xs.length≤b):sumL l≤l.length * b:=by
 induction l with
 | nil=>simp [sumL]
 | cons x r ih =>
  have h1:=ih fun xs hx=>h xs (List.mem_cons_of_mem _ hx);have h2:=h x (by simp);simp only [sumL,List.map_cons,List.sum_cons,qI] at h1 ⊢;rw [Nat.add_mul];omega
theorem SM.Sh.rows {m:SM} (hm:m.Sh) {x:Nat} (hx:x<m.p.length):(rx m.p x).length≤16:=by
 have h1:=hm.part' (j:=x) (by omega) (by omega);have h2:=Q1o hm.hs.1.sz (j:=x) (by omega) (by have:=hm.lp;omega);omega
theorem SM.Sh.plen {m:SM} (hm:m.Sh):m.p.length≤8:=by
 have h1:=hm.lp;have h2:=hm.hs.1.ls;have h3:=hm.hs.1.cat.1.n8;omega
end
section
attribute [local simp] Qd Qt Ql QS Qv
def bsF (f:List Int) (n:Nat):Nat→List Bool
 | 0=>List.replicate n false
 | i+1=>(bsF f n i).set (ix f i).toNat true
@[simp] theorem Q9l (f:List Int) (n:Nat):∀ i,(bsF f n i).length=n:=by
 intro i
 induction i with
 | zero=>simp [bsF]
 | succ i ih=>simp [bsF,ih]
def mkF (bs:List Bool) (i:Nat):List Int:=((List.range i).filter fun k=>bs.getD k false).map fun k:Nat=>(k:Int)
def imgL (n:Nat) (f:List Int):List Int:=mkF (bsF f n f.length) n
theorem bsF_get (f:List Int) (n:Nat) (hf:∀ y,y<f.length→0≤ix f y∧ix f y<n):∀ i,i≤f.length→∀ k,k<n→((bsF f n i).getD k false=true↔∃ y,y<i∧ix f y=k):=by
 intro i
 induction i with
 | zero=>intro _ k hk;simp [bsF,qG,hk]
 | succ i ih =>
  intro hi k hk;obtain ⟨h1,h2⟩:=hf i (by omega);simp only [bsF,qG,List.getElem?_set]
  by_cases h:(ix f i).toNat=k
  ·rw [if_pos h,if_pos (by rw [Q9l];omega)];simp only [Option.getD_some,true_iff];exact ⟨i,by omega,by omega⟩
  rw [if_neg h,← qG,ih (by omega) k hk];constructor
  ·rintro ⟨y,hy,e⟩;exact ⟨y,by omega,e⟩
  rintro ⟨y,hy,e⟩
  refine ⟨y,?_,e⟩;rcases Nat.lt_or_ge y i with q|q
  ·exact q
  have:y=i:=by omega
  subst this;omega
theorem count_add (p q:Nat→Bool) (a:Nat) (h1:p a=false) (h2:∀ k,q k=(p k || decide (k=a))):∀ n,((List.range n).filter q).length=((List.range n).filter p).length+(if a<n then 1 else 0):=by
 intro n
 induction n with
 | zero=>simp
 | succ n ih =>
  simp only [List.range_succ,List.filter_append,List.length_append,ih,List.filter_cons,List.filter_nil,h2 n]
  by_cases h:n=a
  ·subst h;simp [h1]
  have:(a<n+1)↔(a<n):=by omega
  simp only [h,decide_false,Bool.or_false,this];cases p n<;>simp<;>omega
def cnt (n:Nat) (f:List Int):Nat:=((List.range n).filter fun k:Nat=>decide ((k:Int)∈f)).length
theorem Q8L {n:Nat} {a:Int} {f:List Int} (h0:0≤a) (h1:a<n):cnt n (a :: f)=cnt n f+(if a∈f then 0 else 1):=by
 by_cases h:a∈f
 ·simp only [cnt,if_pos h,Nat.add_zero]
  congr 1
  apply List.filter_congr;intro k _;simp only [List.mem_cons,decide_eq_decide];constructor
  ·rintro (rfl|q)
   ·exact h
   exact q
  exact .inr
 simp only [cnt,if_neg h];have:=count_add (fun k:Nat=>decide ((k:Int)∈f)) (fun k:Nat=>decide ((k:Int)∈a :: f)) a.toNat (by
  simp only [decide_eq_false_iff_not,Int.toNat_of_nonneg h0];exact h) (fun k=>by
  rw [Bool.eq_iff_iff];simp only [List.mem_cons,decide_eq_true_eq,Bool.or_eq_true];constructor
  ·rintro (q|q)
   ·exact .inr (by omega)
   exact .inl q
  rintro (q|q)
  ·exact .inr q
  exact .inl (by omega)) n
 rw [this,if_pos (by omega)]
theorem cnt_le {n:Nat}:∀ {f:List Int},(∀ y∈f,0≤y∧y<(n:Int))→cnt n f≤f.length:=by
 intro f
 induction f with
 | nil=>intro _;simp [cnt]
 | cons a f ih =>
  intro h;have h1:=h a (by simp);have h2:=ih fun y hy=>h y (List.mem_cons_of_mem _ hy);rw [Q8L h1.1 h1.2];simp only [qI];split<;>omega
theorem Q5e {n:Nat}:∀ {f:List Int},(∀ y∈f,0≤y∧y<(n:Int))→(cnt n f=f.length↔f.Nodup):=by
 intro f
 induction f with
 | nil=>intro _;simp [cnt]
 | cons a f ih =>
  intro h;have h1:=h a (by simp);have h2:=ih fun y hy=>h y (List.mem_cons_of_mem _ hy);have h3:=cnt_le fun y hy=>h y (List.mem_cons_of_mem _ hy);rw [Q8L h1.1 h1.2,List.nodup_cons,← h2];simp only [qI]
  by_cases q:a∈f
  ·rw [if_pos q];constructor
   ·intro e;omega
   intro e;exact absurd q e.1
  rw [if_neg q];constructor
  ·intro e;exact ⟨q,by omega⟩
  intro e;omega
theorem Q6y {n:Nat} {f:List Int} (hf:∀ y∈f,0≤y∧y<(n:Int)):(imgL n f).length=cnt n f:=by
 simp only [imgL,mkF,cnt,List.length_map]
 congr 1
 apply List.filter_congr;intro k hk;have hk':k<n:=by simpa using hk
 have h1:=bsF_get f n (fun y hy=>by
  rw [← QP _ _ hy];exact hf _ (zJ hy)) f.length (Nat.le_refl _) k hk'
 rw [Bool.eq_iff_iff,h1,decide_eq_true_eq];constructor
 ·rintro ⟨y,hy,e⟩
  rw [← e,← QP _ _ hy];exact zJ hy
 intro q;obtain ⟨y,hy,e⟩:=List.getElem_of_mem q;exact ⟨y,hy,by rw [← QP _ _ hy];exact e⟩
def SM.Inv (m:SM):Prop:=∀ x:Nat,x<m.p.length→((rx m.p x).length:Int)=ix m.t.sz x∧(rx m.p x).Nodup
def SM.I1 (m:SM):Prop:=∀ x:Nat,x<m.p.length→(imgL (ix m.t.sz x).toNat (rx m.p x)).length=(rx m.p x).length
def SM.I2 (m:SM):Prop:=∀ x:Nat,x<m.p.length→((imgL (ix m.t.sz x).toNat (rx m.p x)).length:Int)=ix m.t.sz x
theorem SM.inv_iff {m:SM} (hm:m.Sh):m.Inv↔m.I1∧m.I2:=by
 have hv:∀ x:Nat,x<m.p.length→∀ y∈rx m.p x,0≤y∧y<((ix m.t.sz x).toNat:Int):=by
  intro x hx y hy;have:=(hm.pt x hx).2 y hy;simp only [inR,Bool.and_eq_true,decide_eq_true_eq] at this;omega
 constructor
 ·intro h;refine ⟨fun x hx=>?_,fun x hx=>?_⟩
  ·rw [Q6y (hv x hx)];exact (Q5e (hv x hx)).2 (h x hx).2
  rw [Q6y (hv x hx),(Q5e (hv x hx)).2 (h x hx).2];exact (h x hx).1
 rintro ⟨h1,h2⟩ x hx
 have a1:=h1 x hx;have a2:=h2 x hx;refine ⟨by omega,(Q5e (hv x hx)).1 ?_⟩;rw [← Q6y (hv x hx)];exact a1
def Bs (bs:List Bool):List (List AV):=bs.map fun b=>[.val (.bool b)]
end
section
attribute [local simp] Qd Qt Ql QS Qv
def Es {α:Type} (c:α→List AV) (xs:List α):List (List AV):=xs.map c
def gx {α:Type} [Inhabited α] (xs:List α) (j:Int):α:=xs.getD j.toNat default
def eB (b:Bool):List AV:=[.val (.bool b)]
def eI (b:Int):List AV:=[iV b]
def eL (x:List (List Int)):List AV:=[.lst true 1 (Ls x)]
section
variable {α:Type} {c:α→List AV}
@[simp] theorem Es_nil:Es c []=[]:=rfl
theorem Es_append (xs ys:List α):Es c (xs++ys)=Es c xs++Es c ys:=by simp [Es]
theorem Es_set' (xs:List α) (i:Nat) (x:α):Es c (xs.set i x)=(Es c xs).set i (c x):=by simp [Es,List.map_set]
end
@[simp] theorem Cs_E (xs:List Cat):Cs xs=Es (Cat.cells true) xs:=rfl
@[simp] theorem Fs_E (xs:List Fn):Fs xs=Es (Fn.cells true) xs:=rfl
@[simp] theorem Ls_nil':Ls []=[]:=rfl
theorem Ls_append (xs ys:List (List Int)):Ls (xs++ys)=Ls xs++Ls ys:=by simp [Ls]
@[simp] theorem Ls_rep0 (n:Nat):Ls (List.replicate n [])=List.replicate n [AV.lst true 1 []]:=by simp [Ls]
theorem at_I {xs:List Int} {j:Int} (h:0≤j∧j<(xs.length:Int)):(Is xs)[j.toNat]? = some [iV (ix xs j)]:=by
 have h2:j.toNat<xs.length:=by omega
 simp [Is,ix,qG,h2]
theorem at_L {xs:List (List Int)} {j:Int} (h:0≤j∧j<(xs.length:Int)):(Ls xs)[j.toNat]? = some [lI (rx xs j)]:=by
 have h2:j.toNat<xs.length:=by omega
 simp [Ls,rx,qG,h2]
@[simp] theorem Is_takeE (xs:List Int) (k:Nat):List.take k (Is xs)=Is (xs.take k):=by simp [Is,List.map_take]
@[simp] theorem Ls_takeA (xs:List (List Int)):List.take xs.length (Ls xs)=Ls xs:=List.take_of_length_le (by simp)
@[simp] theorem u8_min:IntKind.u8.min=0:=rfl
@[simp] theorem u8_max:IntKind.u8.max=255:=rfl
@[simp] theorem Bs_nil':Bs []=[]:=rfl
theorem Bs_append (xs ys:List Bool):Bs (xs++ys)=Bs xs++Bs ys:=by simp [Bs]
theorem IA (xs ys:List Int):Is (xs++ys)=Is xs++Is ys:=Is_append xs ys
theorem I1 (x:Int) (xs:List Int):Is (x :: xs)=[iV x] :: Is xs:=rfl
theorem LA (xs ys:List (List Int)):Ls (xs++ys)=Ls xs++Ls ys:=Ls_append xs ys
theorem L1 (x:List Int) (xs:List (List Int)):Ls (x :: xs)=[lI x] :: Ls xs:=rfl
theorem BA (xs ys:List Bool):Bs (xs++ys)=Bs xs++Bs ys:=Bs_append xs ys
theorem B1 (x:Bool) (xs:List Bool):Bs (x :: xs)=[.val (.bool x)] :: Bs xs:=rfl
theorem EA {α:Type} {c:α→List AV} (xs ys:List α):Es c (xs++ys)=Es c xs++Es c ys:=Es_append xs ys
theorem E1 {α:Type} {c:α→List AV} (x:α) (xs:List α):Es c (x :: xs)=c x :: Es c xs:=rfl
theorem E2 {α:Type} {c:α→List AV} (xs:List α) (i:Nat) (x:α):Es c (xs.set i x)=(Es c xs).set i (c x):=Es_set' xs i x
end
end Go.Vc.T
