/- A part of the proof: a verified generator of conditions, and what each function of the program does. -/
import Derived.Test.YtfinipknacaojaaGreatR8
set_option maxRecDepth 100000
set_option maxHeartbeats 4000000
set_option linter.unusedSimpArgs false
set_option linter.unusedVariables false

namespace Go.Vc.T
open Go Go.Vc Go.Proofs
attribute [local simp] eL eI Qo QH Q1N Cat.cells Fn.cells
noncomputable def Q21 (f_:Fn) (g_:Fn) (components_:List Int) (a_:Int):Option Bool :=
 ass (0≤a_∧a_<(f_.ar.length:Int)) <|
 ass (0≤a_∧a_<(f_.s.to.length:Int)) <|
 ass (0≤ix f_.s.to a_∧ix f_.s.to a_<(components_.length:Int)) <|
 (Qn f_.t (ix f_.ar a_) (ix components_ (ix f_.s.to a_))).bind fun v4 =>
 ass (0≤a_∧a_<(f_.s.fr.length:Int)) <|
 ass (0≤ix f_.s.fr a_∧ix f_.s.fr a_<(components_.length:Int)) <|
 ass (0≤a_∧a_<(g_.ar.length:Int)) <|
 (Qn f_.t (ix components_ (ix f_.s.fr a_)) (ix g_.ar a_)).bind fun v8 =>
 some (v4 == v8)
theorem wkQ9 {F : Fx} {st st' : St} (m : List (Nat × Nat)) (h : (m.map Prod.fst).Nodup ∧ (m.map Prod.snd).Nodup ∧ (∀ id, id < F.pins → look id m = some id) ∧ (∀ p ∈ m, p.2 < st'.n) ∧ (∀ p ∈ st'.h, p.1 < st'.n) ∧ (∀ p ∈ st'.s, p.2 = rl m (st.get p.1) ∨ p.2 = .bot) ∧ ∀ p ∈ st'.h, hhOk m st.h p.1 p.2 := by simp [hP, hhOk, back, Cat.cells, Fn.cells, UA, U1, IA, I1, LA, L1, BA, B1, EA, E1, E2, eB, eI, eL, Tra.cells, Adj.cells, Mnd.cells, XAlgebra.cells, Qm _ Q4 _ (fun _=>rfl), Ends.cells]) : Wk F st st' := Wk.r1 m h
theorem Q7I (f_:Fn) (g_:Fn) (components_:List Int) (a_:Int) (r:Bool) (h:Q21 f_ g_ components_ a_=some r):Contract Tryz.prog 136 [.rptr (f_.cells true),.rptr (g_.cells true),lI components_,iV a_] (.val (.bool r)):=by
 refine Qf (rvs:=[.tmp 8]) (rs:=[.val (.bool r)]) Tryz.func136 rfl rfl rfl rfl (by simp [Tryz.f136]) fun F hN hP=>?_;unfold Q21 at h;refine Q5 ?_;refine runQ hN fun K hK=>?_;simp [-Q0,-Q7,-Q1,-Q8,-Q2];repeat refine sdQ ?_
 refine hK _ ?_;clear hK K;refine tn ?_;refine Q9 (st':=⟨[(0,.rptr (Fn.cells true f_)),(1,.rptr (Fn.cells true g_)),(2,lI components_),(3,iV a_)],[],0⟩) (wkQ9 []) ?_;refine Q5 ?_;refine runQ hN fun K hK=>?_;simp [-Q0,-Q7,-Q1,-Q8,-Q2];repeat refine sdQ ?_
 refine hK _ ?_;clear hK K;refine tn ?_;refine Q9 (st':=⟨[(0,.rptr (Fn.cells true f_)),(1,.rptr (Fn.cells true g_)),(2,lI components_),(3,iV a_),(9,.rptr (Fn.cells true f_)),(10,.rptr [iV f_.t.n,lI f_.t.fr,lI f_.t.to,lI f_.t.id,.lst true 1 (Ls f_.t.cs),lI f_.ob,lI f_.ar])],[],0⟩) (wkQ9 []) ?_;refine Q5 ?_;refine runQ hN fun K hK=>?_;replace h:=Q6 h;obtain ⟨a1,h⟩:=h;replace h:=Q6 h;obtain ⟨a2,h⟩:=h;replace h:=Q6 h;obtain ⟨a3,h⟩:=h;simp [-Q0,-Q7,-Q1,-Q8,-Q2,at_I a1,at_I a2,at_I a3];repeat with_reducible refine sdQ ?_
 replace h:=bind_some h;obtain ⟨v4,hv4,h⟩:=h;refine Q3 (QB _ _ _ v4 hv4) (.cons (.preT (by simp [Cat.cells,Fn.cells])) (.cons .val (.cons .val .nil))) ?_;replace h:=Q6 h;obtain ⟨a5,h⟩:=h;replace h:=Q6 h;obtain ⟨a6,h⟩:=h;replace h:=Q6 h;obtain ⟨a7,h⟩:=h;simp [-Q0,-Q7,-Q1,-Q8,-Q2,unk,unA,unE,unT,unC,flat,at_I a1,at_I a2,at_I a3,at_I a5,at_I a6,at_I a7];repeat with_reducible refine sdQ ?_
 replace h:=bind_some h;obtain ⟨v8,hv8,h⟩:=h;refine Q3 (QB _ _ _ v8 hv8) (.cons (.preT (by simp [Cat.cells,Fn.cells])) (.cons .val (.cons .val .nil))) ?_;simp [-Q0,-Q7,-Q1,-Q8,-Q2,unk,unA,unE,unT,unC,flat,at_I a1,at_I a2,at_I a3,at_I a5,at_I a6,at_I a7];repeat refine sdQ ?_
 refine hK _ ?_;clear hK K;refine tn ?_;refine Q9 (st':=⟨[(8,.val (.bool (v4 == v8)))],[],0⟩) (wkQ9 []) ?_;refine Qi ?_;have hr:=Option.some.inj h;rw [← hr];refine ⟨_,(.tmp .nil),?_⟩;refine ⟨(.one rfl rfl .nil),[.val (.bool (v4 == v8))],[],by simp [Cat.cells,Fn.cells,UA,U1,IA,I1,LA,L1,BA,B1,EA,E1,E2,eB,eI,eL],by simp,(UpL.refl _)⟩
attribute [local simp] eL eI Qo Q1N Q3d Fn.cells Tra.cells
noncomputable def QD (t_:Tra):Option Int :=
 (QE (σ:=Int) (ε:=Unit ⊕ Int) (fun s6 =>
  if s6<(t_.s.ar.length:Int) then
   (Q21 t_.s t_.t t_.p s6).bind fun v8 =>
   if ¬ (v8=true) then
    some (Ctl.ret (Sum.inr s6))
   else
    ass (B64 (s6+1)) <|
    some (Ctl.next (s6+1))
  else
   some (Ctl.ret (Sum.inl ()))) fuel 0).bind fun e1 =>
 match e1 with
 | .inl b1 =>
  some (-1)
 | .inr p1 =>
  some p1
theorem Q2E (t_:Tra) (r:Int) (h:QD t_=some r):Contract Tryz.prog 135 [.rptr (t_.cells true),.fn 136 []] (iV r):=by
 refine Qf (rvs:=[.tmp 4]) (rs:=[iV r]) Tryz.func135 rfl rfl rfl rfl (by simp [Tryz.f135]) fun F hN hP=>?_;unfold QD at h;refine Q5 ?_;refine runQ hN fun K hK=>?_;simp [-Q0,-Q7,-Q1,-Q8,-Q2];repeat refine sdQ ?_
 refine hK _ ?_;clear hK K;refine tn ?_;refine Q9 (st':=⟨[(0,.rptr (Tra.cells true t_)),(1,.fn 136 [])],[],0⟩) (wkQ9 []) ?_;refine Q5 ?_;refine Q5 ?_;refine runQ hN fun K hK=>?_;simp [-Q0,-Q7,-Q1,-Q8,-Q2];repeat refine sdQ ?_
 refine hK _ ?_;clear hK K;refine tn ?_;refine Q9 (st':=⟨[(0,.rptr (Tra.cells true t_)),(1,.fn 136 []),(11,iV (t_.s.ar.length:Int)),(12,iV 0)],[],0⟩) (wkQ9 []) ?_;replace h:=bind_some h;obtain ⟨e1,h,h1⟩:=h;refine Qj (fun b1:Unit=>⟨[],[],0⟩) (fun b1=>Sum.inl b1=e1) ?_ ?_
 ·refine Qc ?_;refine Qz h (fun s6:Int=>⟨[(0,.rptr (Tra.cells true t_)),(1,.fn 136 []),(11,iV (t_.s.ar.length:Int)),(12,iV s6)],[],0⟩) (wkQ9 []) ?_;clear h;intro k6 s6 c6 h hk6;refine Q5 ?_;refine runQ hN fun K hK=>?_;simp [-Q0,-Q7,-Q1,-Q8,-Q2];repeat refine sdQ ?_
  refine hK _ ?_;clear hK K;refine tn ?_;refine Q9 (st':=⟨[(0,.rptr (Tra.cells true t_)),(1,.fn 136 []),(11,iV (t_.s.ar.length:Int)),(12,iV s6),(13,.val (.bool (decide (s6<(t_.s.ar.length:Int)))))],[],0⟩) (wkQ9 []) ?_;refine Q5 ?_;refine Qd rfl (fun g=>?_) fun g=>?_
  ·have g7:s6<(t_.s.ar.length:Int):=gQ;clear g;replace h:=if_l g7 h;refine Qe ?_;refine tn ?_;refine Q5 ?_;refine Qc ?_;refine Q5 ?_;refine runQ hN fun K hK=>?_;simp [-Q0,-Q7,-Q1,-Q8,-Q2];(repeat refine sdQ ?_);refine hK _ ?_;clear hK K;refine tn ?_;refine Q9 (st':=⟨[(0,.rptr (Tra.cells true t_)),(1,.fn 136 []),(5,iV s6),(11,iV (t_.s.ar.length:Int)),(12,iV s6)],[],0⟩) (wkQ9 []) ?_;refine Q5 ?_;refine runQ hN fun K hK=>?_;simp [-Q0,-Q7,-Q1,-Q8,-Q2];(repeat with_reducible refine sdQ ?_);replace h:=bind_some h;obtain ⟨v8,hv8,h⟩:=h;refine Q3 (Q7I _ _ _ _ v8 hv8) (.cons (.preT (by simp [Fn.cells,Tra.cells])) (.cons (.preT (by simp [Fn.cells,Tra.cells])) (.cons .lst (.cons .val .nil)))) ?_;simp [-Q0,-Q7,-Q1,-Q8,-Q2,unk,unA,unE,unT,unC,flat];(repeat refine sdQ ?_);refine hK _ ?_;clear hK K;refine tn ?_;refine Q9 (st':=⟨[(0,.rptr (Tra.cells true t_)),(1,.fn 136 []),(5,iV s6),(11,iV (t_.s.ar.length:Int)),(12,iV s6),(28,.val (.bool (!v8)))],[],0⟩) (wkQ9 []) ?_;refine Qd rfl (fun g=>?_) fun g=>?_
   ·have g9:¬ (v8=true):=gQ;clear g;replace h:=if_l g9 h;refine Q5 ?_;refine runQ hN fun K hK=>?_;simp [-Q0,-Q7,-Q1,-Q8,-Q2];(repeat refine sdQ ?_);refine hK _ ?_;clear hK K;refine tn ?_;refine Q9 (st':=⟨[(4,iV s6)],[],0⟩) (wkQ9 []) ?_;refine Qi ?_;refine br ?_;refine tr ?_;refine lr ?_;refine br ?_;refine tr ?_;cases h;have q:_=e1:=hk6;have h:=h1;rw [← q] at h;clear q;(try dsimp only at h);have hr:=Option.some.inj h;rw [← hr];refine ⟨_,(.tmp .nil),?_⟩;refine ⟨(.one rfl rfl .nil),[iV s6],[],by simp [Fn.cells,Tra.cells,UA,U1,IA,I1,LA,L1,BA,B1,EA,E1,E2,eB,eI,eL],by simp,(UpL.refl _)⟩
   have g9:¬ (¬ (v8=true)):=gQ;clear g;replace h:=if_r g9 h;refine Qe ?_;refine bn ?_;refine tn ?_;refine runQ hN fun K hK=>?_;replace h:=Q6 h;obtain ⟨a10,h⟩:=h;simp [-Q0,-Q7,-Q1,-Q8,-Q2,Qu a10];(repeat refine sdQ ?_);refine hK _ ?_;clear hK K;cases h;exact rn (s':=s6+1) hk6 (wkQ9 [])
  have g7:¬ (s6<(t_.s.ar.length:Int)):=gQ;clear g;replace h:=if_r g7 h;refine Qp ?_;refine tx ?_;refine lx ?_;refine bh ?_;cases h;exact jn (b:=()) hk6 (wkQ9 [])
 intro b1 hb1;have h:=h1;try rw [← hb1] at h
 clear h1;try dsimp only at h
 refine Q5 ?_;refine runQ hN fun K hK=>?_;simp [-Q0,-Q7,-Q1,-Q8,-Q2];repeat refine sdQ ?_
 refine hK _ ?_;clear hK K;refine tn ?_;refine Q9 (st':=⟨[(4,iV (-1))],[],0⟩) (wkQ9 []) ?_;refine Qi ?_;have hr:=Option.some.inj h;rw [← hr];refine ⟨_,(.tmp .nil),?_⟩;refine ⟨(.one rfl rfl .nil),[iV (-1)],[],by simp [Fn.cells,Tra.cells,UA,U1,IA,I1,LA,L1,BA,B1,EA,E1,E2,eB,eI,eL],by simp,(UpL.refl _)⟩
attribute [local simp] eL eI Qo Q3d Tra.cells
noncomputable def QG (t_:Tra):Option Bool :=
 (
  (QK t_).bind fun v2 =>
  if v2=true then
   (QD t_).bind fun v4 =>
   some (decide (v4<0))
  else
   some false:Option (Bool)).bind fun b1 =>
 some b1
theorem Q2D (t_:Tra) (r:Bool) (h:QG t_=some r):Contract Tryz.prog 100 [.rptr (t_.cells true)] (.val (.bool r)):=by
 refine Qf (rvs:=[.tmp 2]) (rs:=[.val (.bool r)]) Tryz.func100 rfl rfl rfl rfl (by simp [Tryz.f100]) fun F hN hP=>?_;unfold QG at h;refine Q5 ?_;refine runQ hN fun K hK=>?_;simp [-Q0,-Q7,-Q1,-Q8,-Q2];repeat refine sdQ ?_
 refine hK _ ?_;clear hK K;refine tn ?_;refine Q9 (st':=⟨[(0,.rptr (Tra.cells true t_))],[],0⟩) (wkQ9 []) ?_;refine Q5 ?_;replace h:=bind_some h;obtain ⟨e1,h,h1⟩:=h;refine Qj (fun b1:Bool=>⟨[(2,.val (.bool b1))],[],0⟩) (fun b1=>b1=e1) ?_ ?_
 ·refine runQ hN fun K hK=>?_;simp [-Q0,-Q7,-Q1,-Q8,-Q2];repeat with_reducible refine sdQ ?_
  replace h:=bind_some h;obtain ⟨v2,hv2,h⟩:=h;refine Q3 (Q2Y _ v2 hv2) (.cons (.preT (by simp [Tra.cells])) .nil) ?_;simp [-Q0,-Q7,-Q1,-Q8,-Q2,unk,unA,unE,unT,unC,flat];repeat with_reducible refine sdQ ?_
  refine Qq (fun g=>?_) (fun g=>?_)
  ·have g3:v2=true:=gQ;clear g;replace h:=if_l g3 h;simp [-Q0,-Q7,-Q1,-Q8,-Q2];(repeat with_reducible refine sdQ ?_);replace h:=bind_some h;obtain ⟨v4,hv4,h⟩:=h;refine Q3 (Q2E _ v4 hv4) (.cons (.preT (by simp [Tra.cells])) (.cons (.fnL (by simp) .nil) .nil)) ?_;simp [-Q0,-Q7,-Q1,-Q8,-Q2,unk,unA,unE,unT,unC,flat];(repeat refine sdQ ?_);refine hK _ ?_;exact jn (b:=decide (v4<0)) (Option.some.inj h) (wkQ9 [])
  have g3:¬ (v2=true):=gQ;clear g;replace h:=if_r g3 h;simp [-Q0,-Q7,-Q1,-Q8,-Q2];repeat refine sdQ ?_
  refine hK _ ?_;exact jn (b:=false) (Option.some.inj h) (wkQ9 [])
 intro b1 hb1;have h:=h1;try rw [← hb1] at h
 clear h1;try dsimp only at h
 refine Qi ?_;have hr:=Option.some.inj h;rw [← hr];refine ⟨_,(.tmp .nil),?_⟩;refine ⟨(.one rfl rfl .nil),[.val (.bool b1)],[],by simp [Tra.cells,UA,U1,IA,I1,LA,L1,BA,B1,EA,E1,E2,eB,eI,eL],by simp,(UpL.refl _)⟩
attribute [local simp] eL eI Qo Q3d Tra.cells
noncomputable def Q1P (list_:List Tra):Option Bool :=
 (QE (σ:=Int) (ε:=Unit ⊕ Bool) (fun s7 =>
  if s7<(list_.length:Int) then
   ass (0≤s7∧s7<(list_.length:Int)) <|
   (QG (gx list_ s7)).bind fun v10 =>
   if ¬ (v10=true) then
    some (Ctl.ret (Sum.inr false))
   else
    ass (B64 (s7+1)) <|
    some (Ctl.next (s7+1))
  else
   some (Ctl.ret (Sum.inl ()))) fuel 0).bind fun e1 =>
 match e1 with
 | .inl b1 =>
  some true
 | .inr p1 =>
  some p1
theorem Q6b (list_:List Tra) (r:Bool) (h:Q1P list_=some r):Contract Tryz.prog 116 [.lst true 1 (Es Q3d list_)] (.val (.bool r)):=by
 refine Qf (rvs:=[.tmp 2]) (rs:=[.val (.bool r)]) Tryz.func116 rfl rfl rfl rfl (by simp [Tryz.f116]) fun F hN hP=>?_;unfold Q1P at h;refine Q5 ?_;refine runQ hN fun K hK=>?_;simp [-Q0,-Q7,-Q1,-Q8,-Q2];repeat refine sdQ ?_
 refine hK _ ?_;clear hK K;refine tn ?_;refine Q9 (st':=⟨[(0,.lst true 1 (Es Q3d list_))],[],0⟩) (wkQ9 []) ?_;refine Q5 ?_;refine Q5 ?_;refine runQ hN fun K hK=>?_;simp [-Q0,-Q7,-Q1,-Q8,-Q2];repeat refine sdQ ?_
 refine hK _ ?_;clear hK K;refine tn ?_;refine Q9 (st':=⟨[(5,.lst true 1 (Es Q3d list_)),(6,iV (list_.length:Int)),(7,iV 0)],[],0⟩) (wkQ9 []) ?_;replace h:=bind_some h;obtain ⟨e1,h,h1⟩:=h;refine Qj (fun b1:Unit=>⟨[],[],0⟩) (fun b1=>Sum.inl b1=e1) ?_ ?_
 ·refine Qc ?_;refine Qz h (fun s7:Int=>⟨[(5,.lst true 1 (Es Q3d list_)),(6,iV (list_.length:Int)),(7,iV s7)],[],0⟩) (wkQ9 []) ?_;clear h;intro k7 s7 c7 h hk7;refine Q5 ?_;refine runQ hN fun K hK=>?_;simp [-Q0,-Q7,-Q1,-Q8,-Q2];repeat refine sdQ ?_
  refine hK _ ?_;clear hK K;refine tn ?_;refine Q9 (st':=⟨[(5,.lst true 1 (Es Q3d list_)),(6,iV (list_.length:Int)),(7,iV s7),(8,.val (.bool (decide (s7<(list_.length:Int)))))],[],0⟩) (wkQ9 []) ?_;refine Q5 ?_;refine Qd rfl (fun g=>?_) fun g=>?_
  ·have g8:s7<(list_.length:Int):=gQ;clear g;replace h:=if_l g8 h;refine Qe ?_;refine tn ?_;refine Q5 ?_;refine Qc ?_;refine Q5 ?_;refine runQ hN fun K hK=>?_;replace h:=Q6 h;obtain ⟨a9,h⟩:=h;simp [-Q0,-Q7,-Q1,-Q8,-Q2,at_E (c:=Q3d) a9];(repeat refine sdQ ?_);refine hK _ ?_;clear hK K;refine tn ?_;refine Q9 (st':=⟨[(4,.rptr (Tra.cells true (gx list_ s7))),(5,.lst true 1 (Es Q3d list_)),(6,iV (list_.length:Int)),(7,iV s7)],[],0⟩) (wkQ9 []) ?_;refine Q5 ?_;refine runQ hN fun K hK=>?_;simp [-Q0,-Q7,-Q1,-Q8,-Q2];(repeat with_reducible refine sdQ ?_);replace h:=bind_some h;obtain ⟨v10,hv10,h⟩:=h;refine Q3 (Q2D _ v10 hv10) (.cons (.preT (by simp [Tra.cells])) .nil) ?_;simp [-Q0,-Q7,-Q1,-Q8,-Q2,unk,unA,unE,unT,unC,flat];(repeat refine sdQ ?_);refine hK _ ?_;clear hK K;refine tn ?_;refine Q9 (st':=⟨[(5,.lst true 1 (Es Q3d list_)),(6,iV (list_.length:Int)),(7,iV s7),(13,.val (.bool (!v10)))],[],0⟩) (wkQ9 []) ?_;refine Qd rfl (fun g=>?_) fun g=>?_
   ·have g11:¬ (v10=true):=gQ;clear g;replace h:=if_l g11 h;refine Q5 ?_;refine runQ hN fun K hK=>?_;simp [-Q0,-Q7,-Q1,-Q8,-Q2];(repeat refine sdQ ?_);refine hK _ ?_;clear hK K;refine tn ?_;refine Q9 (st':=⟨[(2,.val (.bool false))],[],0⟩) (wkQ9 []) ?_;refine Qi ?_;refine br ?_;refine tr ?_;refine lr ?_;refine br ?_;refine tr ?_;cases h;have q:_=e1:=hk7;have h:=h1;rw [← q] at h;clear q;(try dsimp only at h);have hr:=Option.some.inj h;rw [← hr];refine ⟨_,(.tmp .nil),?_⟩;refine ⟨(.one rfl rfl .nil),[.val (.bool false)],[],by simp [Tra.cells,UA,U1,IA,I1,LA,L1,BA,B1,EA,E1,E2,eB,eI,eL],by simp,(UpL.refl _)⟩
   have g11:¬ (¬ (v10=true)):=gQ;clear g;replace h:=if_r g11 h;refine Qe ?_;refine bn ?_;refine tn ?_;refine runQ hN fun K hK=>?_;replace h:=Q6 h;obtain ⟨a12,h⟩:=h;simp [-Q0,-Q7,-Q1,-Q8,-Q2,Qu a12];(repeat refine sdQ ?_);refine hK _ ?_;clear hK K;cases h;exact rn (s':=s7+1) hk7 (wkQ9 [])
  have g8:¬ (s7<(list_.length:Int)):=gQ;clear g;replace h:=if_r g8 h;refine Qp ?_;refine tx ?_;refine lx ?_;refine bh ?_;cases h;exact jn (b:=()) hk7 (wkQ9 [])
 intro b1 hb1;have h:=h1;try rw [← hb1] at h
 clear h1;try dsimp only at h
 refine Q5 ?_;refine runQ hN fun K hK=>?_;simp [-Q0,-Q7,-Q1,-Q8,-Q2];repeat refine sdQ ?_
 refine hK _ ?_;clear hK K;refine tn ?_;refine Q9 (st':=⟨[(2,.val (.bool true))],[],0⟩) (wkQ9 []) ?_;refine Qi ?_;have hr:=Option.some.inj h;rw [← hr];refine ⟨_,(.tmp .nil),?_⟩;refine ⟨(.one rfl rfl .nil),[.val (.bool true)],[],by simp [Tra.cells,UA,U1,IA,I1,LA,L1,BA,B1,EA,E1,E2,eB,eI,eL],by simp,(UpL.refl _)⟩
noncomputable def QF (c_:Cat) (f_:Int) (g_:Int):Option Int :=
 ass (0≤f_∧f_<(c_.cs.length:Int)) <|
 ass (0≤g_∧g_<((rx c_.cs f_).length:Int)) <|
 some (ix (rx c_.cs f_) g_)
theorem Q14 (c_:Cat) (f_:Int) (g_:Int) (r:Int) (h:QF c_ f_ g_=some r):Contract Tryz.prog 46 [.agg (c_.cells true),iV f_,iV g_] (iV r):=by
 refine Qf (rvs:=[.tmp 6]) (rs:=[iV r]) Tryz.func46 rfl rfl rfl rfl (by simp [Tryz.f46]) fun F hN hP=>?_;unfold QF at h;refine Q5 ?_;refine runQ hN fun K hK=>?_;simp [-Q0,-Q7,-Q1,-Q8,-Q2,eL,eI,Qo,QH,Cat.cells];repeat refine sdQ ?_
 refine hK _ ?_;clear hK K;refine tn ?_;refine Q9 (st':=⟨[(1,iV f_),(2,iV g_),(3,.adr 0 0 0)],[(0,.mix 5 [(Cat.cells true c_)])],1⟩) (wkQ9 [(0,0)]) ?_;refine Q5 ?_;refine runQ hN fun K hK=>?_;replace h:=Q6 h;obtain ⟨a1,h⟩:=h;replace h:=Q6 h;obtain ⟨a2,h⟩:=h;simp [-Q0,-Q7,-Q1,-Q8,-Q2,eL,eI,Qo,QH,Cat.cells,at_L a1,at_I a2];repeat refine sdQ ?_
 refine hK _ ?_;clear hK K;refine tn ?_;refine Q9 (st':=⟨[(6,iV (ix (rx c_.cs f_) g_))],[],0⟩) (wkQ9 []) ?_;refine Qi ?_;have hr:=Option.some.inj h;rw [← hr];refine ⟨_,(.tmp .nil),?_⟩;refine ⟨(.one rfl rfl .nil),[iV (ix (rx c_.cs f_) g_)],[],by simp [Cat.cells,UA,U1,IA,I1,LA,L1,BA,B1,EA,E1,E2,eB,eI,eL],by simp,(UpL.refl _)⟩
attribute [local simp] eL eI Qo QH Q1N Cat.cells Fn.cells
noncomputable def Q1E (f_:Fn) (g_:Fn) (parts_:List Int):Option Bool :=
 (
  if ¬ ((parts_.length:Int)=(f_.ob.length:Int)) then
   some true
  else
   (Q1D (f_.t.fr.length:Int) parts_).bind fun v3 =>
   some (!v3):Option (Bool)).bind fun b1 =>
 if b1=true then
  some false
 else
  (QE (σ:=Int) (ε:=Unit ⊕ Bool) (fun s17 =>
   if s17<(parts_.length:Int) then
    (
     ass (0≤s17∧s17<(parts_.length:Int)) <|
     ass (0≤ix parts_ s17∧ix parts_ s17<(f_.t.fr.length:Int)) <|
     ass (0≤s17∧s17<(f_.ob.length:Int)) <|
     if ¬ ((ix f_.t.fr (ix parts_ s17))=(ix f_.ob s17)) then
      some true
     else
      ass (0≤s17∧s17<(parts_.length:Int)) <|
      ass (0≤ix parts_ s17∧ix parts_ s17<(f_.t.to.length:Int)) <|
      ass (0≤s17∧s17<(g_.ob.length:Int)) <|
      some ((ix f_.t.to (ix parts_ s17)) != (ix g_.ob s17)):Option (Bool)).bind fun b19 =>
    if b19=true then
     some (Ctl.ret (Sum.inr false))
    else
     ass (B64 (s17+1)) <|
     some (Ctl.next (s17+1))
   else
    some (Ctl.ret (Sum.inl ()))) fuel 0).bind fun e5 =>
  match e5 with
  | .inl b5 =>
   (QE (σ:=Int) (ε:=Unit ⊕ Bool) (fun s41 =>
    if s41<(f_.s.fr.length:Int) then
     ass (0≤s41∧s41<(f_.ar.length:Int)) <|
     ass (0≤s41∧s41<(f_.s.to.length:Int)) <|
     ass (0≤ix f_.s.to s41∧ix f_.s.to s41<(parts_.length:Int)) <|
     (QF f_.t (ix f_.ar s41) (ix parts_ (ix f_.s.to s41))).bind fun v46 =>
     ass (0≤s41∧s41<(f_.s.fr.length:Int)) <|
     ass (0≤ix f_.s.fr s41∧ix f_.s.fr s41<(parts_.length:Int)) <|
     ass (0≤s41∧s41<(g_.ar.length:Int)) <|
     (QF f_.t (ix parts_ (ix f_.s.fr s41)) (ix g_.ar s41)).bind fun v50 =>
     if ¬ (v46=v50) then
      some (Ctl.ret (Sum.inr false))
     else
      ass (B64 (s41+1)) <|
      some (Ctl.next (s41+1))
    else
     some (Ctl.ret (Sum.inl ()))) fuel 0).bind fun e29 =>
   match e29 with
   | .inl b29 =>
    some true
   | .inr p29 =>
    some p29
  | .inr p5 =>
   some p5
theorem Q4g (f_:Fn) (g_:Fn) (parts_:List Int) (r:Bool) (h:Q1E f_ g_ parts_=some r):Contract Tryz.prog 98 [.agg (f_.cells true),.agg (g_.cells true),lI parts_] (.val (.bool r)):=by
 refine Qf (rvs:=[.tmp 6]) (rs:=[.val (.bool r)]) Tryz.func98 rfl rfl rfl rfl (by simp [Tryz.f98]) fun F hN hP=>?_;unfold Q1E at h;refine Q5 ?_;refine runQ hN fun K hK=>?_;simp [-Q0,-Q7,-Q1,-Q8,-Q2];repeat refine sdQ ?_
 refine hK _ ?_;clear hK K;refine tn ?_;refine Q9 (st':=⟨[(2,lI parts_),(3,.adr 0 0 0),(4,.adr 1 0 0)],[(0,.mix 12 [(Fn.cells true f_)]),(1,.mix 12 [(Fn.cells true g_)])],2⟩) (wkQ9 [(0,0),(1,1)]) ?_;refine Q5 ?_;refine w_runS mo (by rw [hN];decide) fun K hK=>?_;simp [-Q0,-Q7,-Q1,-Q8,-Q2];repeat refine sdQ ?_
 refine hK _ ?_;clear hK K;refine tn ?_;refine Q9 (st':=⟨[(2,lI parts_),(3,.adr 0 0 0),(4,.adr 1 0 0),(7,.adr 2 0 0),(8,.adr 3 0 0)],[(0,.mix 12 [(Fn.cells true f_)]),(1,.mix 12 [(Fn.cells true g_)]),(2,.mix 5 [(Cat.cells true f_.s)]),(3,.mix 5 [(Cat.cells true f_.t)])],4⟩) (wkQ9 [(0,0),(1,1),(2,2),(3,3)]) ?_;refine Q5 ?_;refine Q5 ?_;replace h:=bind_some h;obtain ⟨e1,h,h1⟩:=h;refine Qj (fun b1:Bool=>⟨[(2,lI parts_),(3,.adr 0 0 0),(4,.adr 1 0 0),(7,.adr 2 0 0),(8,.adr 3 0 0),(28,.val (.bool b1))],[(0,.mix 12 [(Fn.cells true f_)]),(1,.mix 12 [(Fn.cells true g_)]),(2,.mix 5 [(Cat.cells true f_.s)]),(3,.mix 5 [(Cat.cells true f_.t)])],4⟩) (fun b1=>b1=e1) ?_ ?_
 ·refine runQ hN fun K hK=>?_;simp [-Q0,-Q7,-Q1,-Q8,-Q2];repeat with_reducible refine sdQ ?_
  refine Qq (fun g=>?_) (fun g=>?_)
  ·have g2:¬ (¬ ((parts_.length:Int)=(f_.ob.length:Int))):=gQ;clear g;replace h:=if_r g2 h;simp [-Q0,-Q7,-Q1,-Q8,-Q2];(repeat with_reducible refine sdQ ?_);replace h:=bind_some h;obtain ⟨v3,hv3,h⟩:=h;refine Q3 (Q56 _ _ v3 hv3) (.cons .val (.cons .lst .nil)) ?_;simp [-Q0,-Q7,-Q1,-Q8,-Q2,unk,unA,unE,unT,unC,flat];(repeat refine sdQ ?_);refine hK _ ?_;exact jn (b:=!v3) (Option.some.inj h) (wkQ9 [(0,0),(1,1),(2,2),(3,3)])
  have g2:¬ ((parts_.length:Int)=(f_.ob.length:Int)):=gQ;clear g;replace h:=if_l g2 h;simp [-Q0,-Q7,-Q1,-Q8,-Q2];repeat refine sdQ ?_
  refine hK _ ?_;exact jn (b:=true) (Option.some.inj h) (wkQ9 [(0,0),(1,1),(2,2),(3,3)])
 intro b1 hb1;have h:=h1;try rw [← hb1] at h
 clear h1;try dsimp only at h
 refine Qd rfl (fun g=>?_) fun g=>?_
 ·have g4:b1=true:=gQ;clear g;replace h:=if_l g4 h;refine Q5 ?_;refine runQ hN fun K hK=>?_;simp [-Q0,-Q7,-Q1,-Q8,-Q2];repeat refine sdQ ?_
  refine hK _ ?_;clear hK K;refine tn ?_;refine Q9 (st':=⟨[(6,.val (.bool false))],[],0⟩) (wkQ9 []) ?_;refine Qi ?_;refine tr ?_;have hr:=Option.some.inj h;rw [← hr];refine ⟨_,(.tmp .nil),?_⟩;refine ⟨(.one rfl rfl .nil),[.val (.bool false)],[],by simp [Cat.cells,Fn.cells,UA,U1,IA,I1,LA,L1,BA,B1,EA,E1,E2,eB,eI,eL],by simp,(UpL.refl _)⟩
 have g4:¬ (b1=true):=gQ;clear g;replace h:=if_r g4 h;refine Qe ?_;refine tn ?_;refine Q5 ?_;refine Q5 ?_;refine runQ hN fun K hK=>?_;simp [-Q0,-Q7,-Q1,-Q8,-Q2];repeat refine sdQ ?_
 refine hK _ ?_;clear hK K;refine tn ?_;refine Q9 (st':=⟨[(2,lI parts_),(3,.adr 0 0 0),(4,.adr 1 0 0),(7,.adr 2 0 0),(8,.adr 3 0 0),(9,iV 0)],[(0,.mix 12 [(Fn.cells true f_)]),(1,.mix 12 [(Fn.cells true g_)]),(2,.mix 5 [(Cat.cells true f_.s)]),(3,.mix 5 [(Cat.cells true f_.t)])],4⟩) (wkQ9 [(0,0),(1,1),(2,2),(3,3)]) ?_;replace h:=bind_some h;obtain ⟨e5,h,h5⟩:=h;refine Qj (fun b5:Unit=>⟨[(2,lI parts_),(3,.adr 0 0 0),(4,.adr 1 0 0),(7,.adr 2 0 0),(8,.adr 3 0 0)],[(0,.mix 12 [(Fn.cells true f_)]),(1,.mix 12 [(Fn.cells true g_)]),(2,.mix 5 [(Cat.cells true f_.s)]),(3,.mix 5 [(Cat.cells true f_.t)])],4⟩) (fun b5=>Sum.inl b5=e5) ?_ ?_
 ·refine Qc ?_;refine Qz h (fun s17:Int=>⟨[(2,lI parts_),(3,.adr 0 0 0),(4,.adr 1 0 0),(7,.adr 2 0 0),(8,.adr 3 0 0),(9,iV s17)],[(0,.mix 12 [(Fn.cells true f_)]),(1,.mix 12 [(Fn.cells true g_)]),(2,.mix 5 [(Cat.cells true f_.s)]),(3,.mix 5 [(Cat.cells true f_.t)])],4⟩) (wkQ9 [(0,0),(1,1),(2,2),(3,3)]) ?_;clear h;intro k17 s17 c17 h hk17;refine Q5 ?_;refine Q5 ?_;refine runQ hN fun K hK=>?_;simp [-Q0,-Q7,-Q1,-Q8,-Q2];repeat refine sdQ ?_
  refine hK _ ?_;clear hK K;refine tn ?_;refine Q9 (st':=⟨[(2,lI parts_),(3,.adr 0 0 0),(4,.adr 1 0 0),(7,.adr 2 0 0),(8,.adr 3 0 0),(9,iV s17),(32,.val (.bool (decide (s17<(parts_.length:Int)))))],[(0,.mix 12 [(Fn.cells true f_)]),(1,.mix 12 [(Fn.cells true g_)]),(2,.mix 5 [(Cat.cells true f_.s)]),(3,.mix 5 [(Cat.cells true f_.t)])],4⟩) (wkQ9 [(0,0),(1,1),(2,2),(3,3)]) ?_;refine Qd rfl (fun g=>?_) fun g=>?_
  ·have g18:s17<(parts_.length:Int):=gQ;clear g;replace h:=if_l g18 h;refine Qe ?_;refine tn ?_;refine Q5 ?_;refine Qc ?_;refine Q5 ?_;replace h:=bind_some h;obtain ⟨e19,h,h19⟩:=h;refine Qj (fun b19:Bool=>⟨[(2,lI parts_),(3,.adr 0 0 0),(4,.adr 1 0 0),(7,.adr 2 0 0),(8,.adr 3 0 0),(9,iV s17),(64,.val (.bool b19))],[(0,.mix 12 [(Fn.cells true f_)]),(1,.mix 12 [(Fn.cells true g_)]),(2,.mix 5 [(Cat.cells true f_.s)]),(3,.mix 5 [(Cat.cells true f_.t)])],4⟩) (fun b19=>b19=e19) ?_ ?_
   ·refine runQ hN fun K hK=>?_;replace h:=Q6 h;obtain ⟨a20,h⟩:=h;replace h:=Q6 h;obtain ⟨a21,h⟩:=h;replace h:=Q6 h;obtain ⟨a22,h⟩:=h;simp [-Q0,-Q7,-Q1,-Q8,-Q2,at_I a20,at_I a21,at_I a22];(repeat with_reducible refine sdQ ?_);refine Qq (fun g=>?_) (fun g=>?_)
    ·have g23:¬ (¬ ((ix f_.t.fr (ix parts_ s17))=(ix f_.ob s17))):=gQ;clear g;replace h:=if_r g23 h;replace h:=Q6 h;obtain ⟨a24,h⟩:=h;replace h:=Q6 h;obtain ⟨a25,h⟩:=h;replace h:=Q6 h;obtain ⟨a26,h⟩:=h;simp [-Q0,-Q7,-Q1,-Q8,-Q2,at_I a20,at_I a21,at_I a22,at_I a24,at_I a25,at_I a26];(repeat refine sdQ ?_);refine hK _ ?_;exact jn (b:=(ix f_.t.to (ix parts_ s17)) != (ix g_.ob s17)) (Option.some.inj h) (wkQ9 [(0,0),(1,1),(2,2),(3,3)])
    have g23:¬ ((ix f_.t.fr (ix parts_ s17))=(ix f_.ob s17)):=gQ;clear g;replace h:=if_l g23 h;simp [-Q0,-Q7,-Q1,-Q8,-Q2,at_I a20,at_I a21,at_I a22];(repeat refine sdQ ?_);refine hK _ ?_;exact jn (b:=true) (Option.some.inj h) (wkQ9 [(0,0),(1,1),(2,2),(3,3)])
   intro b19 hb19;have h:=h19;(try rw [← hb19] at h);clear h19;(try dsimp only at h);refine Qd rfl (fun g=>?_) fun g=>?_
   ·have g27:b19=true:=gQ;clear g;replace h:=if_l g27 h;refine Q5 ?_;refine runQ hN fun K hK=>?_;simp [-Q0,-Q7,-Q1,-Q8,-Q2];(repeat refine sdQ ?_);refine hK _ ?_;clear hK K;refine tn ?_;refine Q9 (st':=⟨[(6,.val (.bool false))],[],0⟩) (wkQ9 []) ?_;refine Qi ?_;refine br ?_;refine tr ?_;refine lr ?_;refine br ?_;refine tr ?_;cases h;have q:_=e5:=hk17;have h:=h5;rw [← q] at h;clear q;(try dsimp only at h);have hr:=Option.some.inj h;rw [← hr];refine ⟨_,(.tmp .nil),?_⟩;refine ⟨(.one rfl rfl .nil),[.val (.bool false)],[],by simp [Cat.cells,Fn.cells,UA,U1,IA,I1,LA,L1,BA,B1,EA,E1,E2,eB,eI,eL],by simp,(UpL.refl _)⟩
   have g27:¬ (b19=true):=gQ;clear g;replace h:=if_r g27 h;refine Qe ?_;refine bn ?_;refine tn ?_;refine runQ hN fun K hK=>?_;replace h:=Q6 h;obtain ⟨a28,h⟩:=h;simp [-Q0,-Q7,-Q1,-Q8,-Q2,Qu a28];(repeat refine sdQ ?_);refine hK _ ?_;clear hK K;cases h;exact rn (s':=s17+1) hk17 (wkQ9 [(0,0),(1,1),(2,2),(3,3)])
  have g18:¬ (s17<(parts_.length:Int)):=gQ;clear g;replace h:=if_r g18 h;refine Qp ?_;refine tx ?_;refine lx ?_;refine bh ?_;cases h;exact jn (b:=()) hk17 (wkQ9 [(0,0),(1,1),(2,2),(3,3)])
 intro b5 hb5;have h:=h5;try rw [← hb5] at h
 clear h5;try dsimp only at h
 refine Q5 ?_;refine Q5 ?_;refine runQ hN fun K hK=>?_;simp [-Q0,-Q7,-Q1,-Q8,-Q2];repeat refine sdQ ?_
 refine hK _ ?_;clear hK K;refine tn ?_;refine Q9 (st':=⟨[(2,lI parts_),(3,.adr 0 0 0),(4,.adr 1 0 0),(7,.adr 2 0 0),(8,.adr 3 0 0),(10,iV 0)],[(0,.mix 12 [(Fn.cells true f_)]),(1,.mix 12 [(Fn.cells true g_)]),(2,.mix 5 [(Cat.cells true f_.s)]),(3,.mix 5 [(Cat.cells true f_.t)])],4⟩) (wkQ9 [(0,0),(1,1),(2,2),(3,3)]) ?_;replace h:=bind_some h;obtain ⟨e29,h,h29⟩:=h;refine Qj (fun b29:Unit=>⟨[],[],0⟩) (fun b29=>Sum.inl b29=e29) ?_ ?_
 ·refine Qc ?_;refine Qz h (fun s41:Int=>⟨[(2,lI parts_),(3,.adr 0 0 0),(4,.adr 1 0 0),(7,.adr 2 0 0),(8,.adr 3 0 0),(10,iV s41)],[(0,.mix 12 [(Fn.cells true f_)]),(1,.mix 12 [(Fn.cells true g_)]),(2,.mix 5 [(Cat.cells true f_.s)]),(3,.mix 5 [(Cat.cells true f_.t)])],4⟩) (wkQ9 [(0,0),(1,1),(2,2),(3,3)]) ?_;clear h;intro k41 s41 c41 h hk41;refine Q5 ?_;refine Q5 ?_;refine runQ hN fun K hK=>?_;simp [-Q0,-Q7,-Q1,-Q8,-Q2];repeat refine sdQ ?_
  refine hK _ ?_;clear hK K;refine tn ?_;refine Q9 (st':=⟨[(2,lI parts_),(3,.adr 0 0 0),(4,.adr 1 0 0),(7,.adr 2 0 0),(8,.adr 3 0 0),(10,iV s41),(69,.val (.bool (decide (s41<(f_.s.fr.length:Int)))))],[(0,.mix 12 [(Fn.cells true f_)]),(1,.mix 12 [(Fn.cells true g_)]),(2,.mix 5 [(Cat.cells true f_.s)]),(3,.mix 5 [(Cat.cells true f_.t)])],4⟩) (wkQ9 [(0,0),(1,1),(2,2),(3,3)]) ?_;refine Qd rfl (fun g=>?_) fun g=>?_
  ·have g42:s41<(f_.s.fr.length:Int):=gQ;clear g;replace h:=if_l g42 h;refine Qe ?_;refine tn ?_;refine Q5 ?_;refine Qc ?_;refine Q5 ?_;refine runQ hN fun K hK=>?_;replace h:=Q6 h;obtain ⟨a43,h⟩:=h;replace h:=Q6 h;obtain ⟨a44,h⟩:=h;replace h:=Q6 h;obtain ⟨a45,h⟩:=h;simp [-Q0,-Q7,-Q1,-Q8,-Q2,at_I a43,at_I a44,at_I a45];(repeat with_reducible refine sdQ ?_);replace h:=bind_some h;obtain ⟨v46,hv46,h⟩:=h;refine Q3 (Q14 _ _ _ v46 hv46) (.cons (.aggL (.cons .val (.cons .lst (.cons .lst (.cons .lst (.cons .lst .nil)))))) (.cons .val (.cons .val .nil))) ?_;replace h:=Q6 h;obtain ⟨a47,h⟩:=h;replace h:=Q6 h;obtain ⟨a48,h⟩:=h;replace h:=Q6 h;obtain ⟨a49,h⟩:=h;simp [-Q0,-Q7,-Q1,-Q8,-Q2,unk,unA,unE,unT,unC,flat,at_I a43,at_I a44,at_I a45,at_I a47,at_I a48,at_I a49];(repeat with_reducible refine sdQ ?_);replace h:=bind_some h;obtain ⟨v50,hv50,h⟩:=h;refine Q3 (Q14 _ _ _ v50 hv50) (.cons (.aggL (.cons .val (.cons .lst (.cons .lst (.cons .lst (.cons .lst .nil)))))) (.cons .val (.cons .val .nil))) ?_;simp [-Q0,-Q7,-Q1,-Q8,-Q2,unk,unA,unE,unT,unC,flat,at_I a43,at_I a44,at_I a45,at_I a47,at_I a48,at_I a49];(repeat refine sdQ ?_);refine hK _ ?_;clear hK K;refine tn ?_;refine Q9 (st':=⟨[(2,lI parts_),(3,.adr 0 0 0),(4,.adr 1 0 0),(7,.adr 2 0 0),(8,.adr 3 0 0),(10,iV s41),(102,.val (.bool (v46 != v50)))],[(0,.mix 12 [(Fn.cells true f_)]),(1,.mix 12 [(Fn.cells true g_)]),(2,.mix 5 [(Cat.cells true f_.s)]),(3,.mix 5 [(Cat.cells true f_.t)])],4⟩) (wkQ9 [(0,0),(1,1),(2,2),(3,3)]) ?_;refine Qd rfl (fun g=>?_) fun g=>?_
   ·have g51:¬ (v46=v50):=gQ;clear g;replace h:=if_l g51 h;refine Q5 ?_;refine runQ hN fun K hK=>?_;simp [-Q0,-Q7,-Q1,-Q8,-Q2];(repeat refine sdQ ?_);refine hK _ ?_;clear hK K;refine tn ?_;refine Q9 (st':=⟨[(6,.val (.bool false))],[],0⟩) (wkQ9 []) ?_;refine Qi ?_;refine br ?_;refine tr ?_;refine lr ?_;refine br ?_;refine tr ?_;cases h;have q:_=e29:=hk41;have h:=h29;rw [← q] at h;clear q;(try dsimp only at h);have hr:=Option.some.inj h;rw [← hr];refine ⟨_,(.tmp .nil),?_⟩;refine ⟨(.one rfl rfl .nil),[.val (.bool false)],[],by simp [Cat.cells,Fn.cells,UA,U1,IA,I1,LA,L1,BA,B1,EA,E1,E2,eB,eI,eL],by simp,(UpL.refl _)⟩
   have g51:¬ (¬ (v46=v50)):=gQ;clear g;replace h:=if_r g51 h;refine Qe ?_;refine bn ?_;refine tn ?_;refine runQ hN fun K hK=>?_;replace h:=Q6 h;obtain ⟨a52,h⟩:=h;simp [-Q0,-Q7,-Q1,-Q8,-Q2,Qu a52];(repeat refine sdQ ?_);refine hK _ ?_;clear hK K;cases h;exact rn (s':=s41+1) hk41 (wkQ9 [(0,0),(1,1),(2,2),(3,3)])
  have g42:¬ (s41<(f_.s.fr.length:Int)):=gQ;clear g;replace h:=if_r g42 h;refine Qp ?_;refine tx ?_;refine lx ?_;refine bh ?_;cases h;exact jn (b:=()) hk41 (wkQ9 [])
 intro b29 hb29;have h:=h29;try rw [← hb29] at h
 clear h29;try dsimp only at h
 refine Q5 ?_;refine runQ hN fun K hK=>?_;simp [-Q0,-Q7,-Q1,-Q8,-Q2];repeat refine sdQ ?_
 refine hK _ ?_;clear hK K;refine tn ?_;refine Q9 (st':=⟨[(6,.val (.bool true))],[],0⟩) (wkQ9 []) ?_;refine Qi ?_;have hr:=Option.some.inj h;rw [← hr];refine ⟨_,(.tmp .nil),?_⟩;refine ⟨(.one rfl rfl .nil),[.val (.bool true)],[],by simp [Cat.cells,Fn.cells,UA,U1,IA,I1,LA,L1,BA,B1,EA,E1,E2,eB,eI,eL],by simp,(UpL.refl _)⟩
structure NatT (f g:Fn) (p:List Int):Prop where
 lp:p.length=f.ob.length
 bd:∀ j:Nat,j<p.length→0≤ix p j∧ix p j<f.t.fr.length
 ends:∀ x:Nat,x<p.length→ix f.t.fr (ix p x)=ix f.ob x∧ix f.t.to (ix p x)=ix g.ob x
 sq:∀ a:Nat,a<f.s.fr.length→ix (rx f.t.cs (ix f.ar a)) (ix p (ix f.s.to a))=ix (rx f.t.cs (ix p (ix f.s.fr a))) (ix g.ar a)
structure Para (f g:Fn):Prop where
 hf:f.Is
 hg:g.Is
 s:f.s=g.s
 t:f.t=g.t
theorem Para.fact {f g:Fn} (h:Para f g):f.ob.length=g.ob.length∧f.ar.length=g.ar.length∧f.ar.length=f.s.fr.length∧f.s.to.length=f.s.fr.length∧f.t.to.length=f.t.fr.length∧f.t.cs.length=f.t.fr.length∧f.ob.length=f.s.id.length∧f.ob.length≤8∧f.s.fr.length≤40∧f.t.fr.length≤40:=by
 have h1:=h.hf.lo;have h2:=h.hg.lo;have h3:=h.hf.la;have h4:=h.hg.la;rw [← h.s] at h2 h4;have h5:=h.hf.s.1.li;exact ⟨by omega,by omega,h3,h.hf.s.1.lt,h.hf.t.1.lt,h.hf.t.1.lc,by omega,h.hf.lob,h.hf.s.1.m40,h.hf.t.1.m40⟩
theorem Para.sqok {f g:Fn} (h:Para f g) {p:List Int} (lp:p.length=f.ob.length) (bd:∀ j:Nat,j<p.length→0≤ix p j∧ix p j<f.t.fr.length) {a:Nat} (ha:a<f.s.fr.length) :
  (0≤ix f.ar a∧ix f.ar a<f.t.fr.length)∧(0≤ix g.ar a∧ix g.ar a<f.t.fr.length)∧(0≤ix f.s.to a∧ix f.s.to a<p.length)∧(0≤ix f.s.fr a∧ix f.s.fr a<p.length) ∧
  (0≤ix p (ix f.s.to a)∧ix p (ix f.s.to a)<f.t.fr.length)∧(0≤ix p (ix f.s.fr a)∧ix p (ix f.s.fr a)<f.t.fr.length)∧(rx f.t.cs (ix f.ar a)).length=f.t.fr.length∧(rx f.t.cs (ix p (ix f.s.fr a))).length=f.t.fr.length:=by
 obtain ⟨k1,k2,k3,k4,k5,k6,k7,k8,k9,k10⟩:=h.fact;have h1:=h.hf.ar a (by omega);have h2:=h.hg.ar a (by omega);rw [← h.t] at h2;have h3:=h.hf.s.1.frn ha;have h4:=Q7k bd (j:=ix f.s.to a) (by omega) (by omega);have h5:=Q7k bd (j:=ix f.s.fr a) (by omega) (by omega);exact ⟨h1,h2,by omega,by omega,h4,h5,h.hf.t.1.row' (by omega) (by omega),h.hf.t.1.row' (by omega) (by omega)⟩
theorem Q5F {c:Cat} {f g:Int} (h0:0≤f∧f<(c.cs.length:Int)) (h1:0≤g∧g<((rx c.cs f).length:Int)):QF c f g=some (ix (rx c.cs f) g):=by
 unfold QF;rw [Qa h0,Qa h1]
theorem Q6D {c:Cat} {f g:Int} (h0:0≤f∧f<(c.cs.length:Int)) (h1:0≤g∧g<((rx c.cs f).length:Int)):Qn c f g=some (ix (rx c.cs f) g):=by
 unfold Qn;rw [Qa h0.1,Qa h0.2,Qa h1.1,Qa h1.2]
theorem Q5a {f g:Fn} (h:Para f g) (p:List Int):Q1E f g p=some (bo (NatT f g p)):=by
 obtain ⟨k1,k2,k3,k4,k5,k6,k7,k8,k9,k10⟩:=h.fact;unfold Q1E
 by_cases h1:(p.length:Int)=f.ob.length
 case neg=>rw [QA (show ¬ NatT f g p from fun q=>h1 (by rw [q.lp]))];simp [h1]
 by_cases h2:p.all (inR f.t.fr.length)=true
 case neg=>rw [QA (show ¬ NatT f g p from fun q=>h2 (all_inR.2 q.bd))];simp [Q1D,h1,h2]
 have bd:=all_inR.1 h2;simp only [Q1D,h1,h2,not_true_eq_false,if_false,Option.bind_some,Bool.not_true,Bool.false_eq_true];refine Q1k p.length (fun x:Nat=>ix f.t.fr (ix p x)=ix f.ob x∧ix f.t.to (ix p x)=ix g.ob x) (eb:=Sum.inr false) (eg:=Sum.inl ()) (by omega) (fun a hi hp=>?_) (fun a hi hp=>?_) (by simp;omega) (fun hx=>?_) fun q1=>?_
 ·have:=bd a hi;simp (disch:=omega) [Qa,B64,hp.1,hp.2];omega
 ·have:=bd a hi
  by_cases hp1:ix f.t.fr (ix p a)=ix f.ob a
  ·have hp2:¬ ix f.t.to (ix p a)=ix g.ob a:=fun q=>hp ⟨hp1,q⟩;simp (disch:=omega) [Qa,B64,hp1,hp2];omega
  simp (disch:=omega) [Qa,B64,hp1];omega
 ·rw [QA (show ¬ NatT f g p from fun q=>hx q.ends)]
 simp only;refine Q1k f.s.fr.length (fun a:Nat=>ix (rx f.t.cs (ix f.ar a)) (ix p (ix f.s.to a))=ix (rx f.t.cs (ix p (ix f.s.fr a))) (ix g.ar a)) (eb:=Sum.inr false) (eg:=Sum.inl ()) (by omega) (fun a hi hp=>?_) (fun a hi hp=>?_) (by simp) (fun hx=>?_) fun q2=>?_
 ·obtain ⟨m1,m2,m3,m4,m5,m6,m7,m8⟩:=h.sqok (by omega) bd hi;simp (disch:=omega) [Qa,B64,Q5F,hp,hi]
 ·obtain ⟨m1,m2,m3,m4,m5,m6,m7,m8⟩:=h.sqok (by omega) bd hi;simp (disch:=omega) [Qa,B64,Q5F,hp,hi]
 ·rw [QA (show ¬ NatT f g p from fun q=>hx q.sq)]
 rw [QP (show NatT f g p from ⟨by omega,bd,q1,q2⟩)]
structure Tra.Is (t:Tra):Prop where
 p:Para t.s t.t
 n:NatT t.s t.t t.p
theorem e_fits {f:Fn} (h1:f.s.Is) (h2:f.t.Is):Q1x f=some (bo f.Is):=by
 have hs:=h1.1;have ht:=h2.1;have k0:=hs.n0;have k1:=hs.n8;have k2:=hs.m40;have k3:=hs.li;have k4:=hs.lt;have k5:=hs.lc;have k6:=ht.li;have k7:=ht.lt;have k8:=ht.lc;have k9:=ht.m40;have k10:=ht.n0;have k11:=ht.n8;have b1:B64 (f.t.n - 1):=⟨by omega,by omega⟩;have b2:B64 ((f.t.fr.length:Int) - 1):=⟨by omega,by omega⟩;unfold Q1x
 by_cases h3:(f.ob.length:Int)=f.s.n
 case neg=>rw [QA (show ¬ f.Is from fun q=>h3 q.lo)];simp [h3]
 by_cases h4:(f.ar.length:Int)=f.s.fr.length
 case neg=>rw [QA (show ¬ f.Is from fun q=>h4 (by rw [q.la]))];simp [Qs,h3,h4]
 by_cases h5:f.ob.all (inR f.t.n)=true
 case neg=>rw [QA (show ¬ f.Is from fun q=>h5 (all_inR.2 q.ob))];simp [Qs,Q1C,Qa b1,h3,h4,h5]
 by_cases h6:f.ar.all (inR f.t.fr.length)=true
 case neg=>rw [QA (show ¬ f.Is from fun q=>h6 (all_inR.2 q.ar))];simp [Qs,Q1C,Qa b1,Qa b2,h3,h4,h5,h6]
 have ho:=all_inR.1 h5;have ha:=all_inR.1 h6;simp only [Qs,Q1C,Qa b1,Qa b2,h3,h4,h5,h6,Option.bind_some,if_true,if_false,not_true_eq_false,Bool.not_true,Bool.false_eq_true];refine Q1k f.s.fr.length (fun a:Nat=>ix f.t.fr (ix f.ar a)=ix f.ob (ix f.s.fr a)∧ix f.t.to (ix f.ar a)=ix f.ob (ix f.s.to a)) (eb:=Sum.inr false) (eg:=Sum.inl ()) (by omega) (fun a hi hp=>?_) (fun a hi hp=>?_) (by simp) (fun hx=>?_) fun q1=>?_
 ·have:=hs.frn hi;have:=ha a (by omega);simp (disch:=omega) [Qa,B64,hp.1,hp.2,hi]
 ·have:=hs.frn hi;have:=ha a (by omega)
  by_cases hp1:ix f.t.fr (ix f.ar a)=ix f.ob (ix f.s.fr a)
  ·have hp2:¬ ix f.t.to (ix f.ar a)=ix f.ob (ix f.s.to a):=fun h=>hp ⟨hp1,h⟩;simp (disch:=omega) [Qa,B64,hp1,hp2,hi]
  simp (disch:=omega) [Qa,B64,hp1,hi]
 ·rw [QA (show ¬ f.Is from fun q=>hx q.ends)]
 simp only;refine Q1k f.s.id.length (fun x:Nat=>ix f.ar (ix f.s.id x)=ix f.t.id (ix f.ob x)) (eb:=Sum.inr false) (eg:=Sum.inl ()) (by omega) (fun a hi hp=>?_) (fun a hi hp=>?_) (by simp) (fun hx=>?_) fun q2=>?_
 ·have:=hs.idn hi;have:=ho a (by omega);simp (disch:=omega) [Qa,B64,hp,hi]
 ·have:=hs.idn hi;have:=ho a (by omega);simp (disch:=omega) [Qa,B64,hp,hi]
 ·rw [QA (show ¬ f.Is from fun q=>hx q.ids)]
 simp only;refine Q1k f.s.fr.length (fun a:Nat=>∀ b:Nat,b<f.s.fr.length→ix f.s.to a=ix f.s.fr b→ix f.ar (ix (rx f.s.cs a) b)=ix (rx f.t.cs (ix f.ar a)) (ix f.ar b)) (eb:=Sum.inr false) (eg:=Sum.inl ()) (by omega) (fun a hi hp=>?_) (fun a hi hp=>?_) (by simp;omega) (fun hx=>?_) fun q3=>?_;rotate_left 2
 ·rw [QA (show ¬ f.Is from fun q=>hx q.comp)]
 ·rw [QP (show f.Is from ⟨h1,h2,h3,by omega,ho,ha,q1,q2,q3⟩)]
 all_goals
  have h8:=ha a (by omega);have h11:=hs.row' (j:=a) (by omega) (by omega);have h12:=ht.row' (j:=ix f.ar a) (by omega) (by omega);rw [if_pos (by omega),Qa (by omega),Option.bind_assoc];refine Q1k f.s.fr.length (fun b:Nat=>ix f.s.to a=ix f.s.fr b→ix f.ar (ix (rx f.s.cs a) b)=ix (rx f.t.cs (ix f.ar a)) (ix f.ar b)) (eb:=Sum.inl false) (eg:=Sum.inr ()) (by omega) (fun b hb hq=>?_) (fun b hb hq=>?_) ?_ (fun hn=>?_) fun hn=>?_
 all_goals first
  | exact absurd hp hn
  | exact absurd hn hp
  | (simp (disch:=omega) [Qa,B64,h11];done)
  | skip
 all_goals
  have h13:=ha b (by omega);have h16:=hs.cell' (f:=a) (g:=b) (by omega) (by omega) (by omega) (by omega)
  by_cases h14:ix f.s.to a=ix f.s.fr b
  ·have h15:=hs.cmp (f:=a) (g:=b) (by omega) (by omega) (by omega) (by omega) h14;have h17:ix (rx f.s.cs a) b ≥ 0:=h15.1;first
    | (have hq1:=hq h14;simp (disch:=omega) [Qa,B64,Q6D,h14,hq1,hb,h11,h17];done)
    | (have hq1:=fun e=>hq (fun _=>e);simp (disch:=omega) [Qa,B64,Q6D,h14,hq1,hb,h11,h17];exact hq1)
  have h17:=h16.1 h14;first
   | (simp (disch:=omega) [Qa,B64,h14,hb,h11,h17];done)
   | exact absurd (fun e=>absurd e h14) hq
theorem Q6h {α:Type} [Inhabited α] (xs:List α) {i:Nat} (h:i<xs.length):gx xs i=xs[i]:=by simp [gx,List.getD_eq_getElem?_getD,h]
theorem e_areCats (cs:List Cat) (hl:cs.length≤1048576):Q1q cs=some (bo (∀ c∈cs,c.Is)):=by
 unfold Q1q;refine Q1k cs.length (fun i:Nat=>(gx cs i).Is) (eb:=Sum.inr false) (eg:=Sum.inl ()) (by omega) (fun a hi hp=>?_) (fun a hi hp=>?_) (by simp) (fun hx=>?_) fun q1=>?_
 ·simp (disch:=omega) [Qa,B64,QV,QP hp,hi]
 ·simp (disch:=omega) [Qa,B64,QV,QA hp,hi]
 ·rw [QA (show ¬ ∀ c∈cs,c.Is from fun q=>hx fun i hi=>q _ (by rw [Q6h _ hi];exact List.getElem_mem hi))]
 rw [QP (show ∀ c∈cs,c.Is from fun c hc=>by obtain ⟨i,hi,rfl⟩:=List.getElem_of_mem hc;have:=q1 i hi;rwa [Q6h _ hi] at this)]
theorem Q4o (f:Fn):QR f=some (bo f.Is):=by
 unfold QR;rw [e_areCats _ (by simp)]
 by_cases h:f.s.Is∧f.t.Is
 ·rw [QP (show ∀ c∈[f.s,f.t],c.Is by simpa using h)];simp [e_fits h.1 h.2]
 rw [QA (show ¬ ∀ c∈[f.s,f.t],c.Is by simpa using h),QA (show ¬ f.Is from fun q=>h ⟨q.s,q.t⟩)];simp
theorem Q6E (fs:List Fn) (hl:fs.length≤1048576):Q1H fs=some (bo (∀ f∈fs,f.Is)):=by
 unfold Q1H;refine Q1k fs.length (fun i:Nat=>(gx fs i).Is) (eb:=Sum.inr false) (eg:=Sum.inl ()) (by omega) (fun a hi hp=>?_) (fun a hi hp=>?_) (by simp) (fun hx=>?_) fun q1=>?_
 ·simp (disch:=omega) [Qa,B64,Q4o,QP hp,hi]
 ·simp (disch:=omega) [Qa,B64,Q4o,QA hp,hi]
 ·rw [QA (show ¬ ∀ c∈fs,c.Is from fun q=>hx fun i hi=>q _ (by rw [Q6h _ hi];exact List.getElem_mem hi))]
 rw [QP (show ∀ c∈fs,c.Is from fun c hc=>by obtain ⟨i,hi,rfl⟩:=List.getElem_of_mem hc;have:=q1 i hi;rwa [Q6h _ hi] at this)]
theorem Cat.Is.lcs {c:Cat} (h:c.Is):c.cs.length≤1048576:=by have:=h.1.lc;have:=h.1.m40;omega
theorem Q5G {c d:Cat} (h:c.Is):Q13 c d=some (bo (c=d)):=by
 unfold Q13;rw [Qa h.lcs]
theorem Q9h {f g:Fn} (hf:f.Is):Q16 f g=some (bo (f.s=g.s∧f.t=g.t)):=by
 unfold Q16;rw [Q5G hf.s,Q5G hf.t]
 by_cases h1:f.s=g.s<;>by_cases h2:f.t=g.t<;>simp [bo,h1,h2]
theorem Q6g {f g:Fn} (h:Para f g) {p:List Int} (lp:p.length=f.ob.length) (bd:∀ j:Nat,j<p.length→0≤ix p j∧ix p j<f.t.fr.length) {a:Nat} (ha:a<f.s.fr.length) :
  Q21 f g p a=some (bo (ix (rx f.t.cs (ix f.ar a)) (ix p (ix f.s.to a))=ix (rx f.t.cs (ix p (ix f.s.fr a))) (ix g.ar a))):=by
 obtain ⟨k1,k2,k3,k4,k5,k6,k7,k8,k9,k10⟩:=h.fact;obtain ⟨m1,m2,m3,m4,m5,m6,m7,m8⟩:=h.sqok lp bd ha;unfold Q21
 by_cases hq:ix (rx f.t.cs (ix f.ar a)) (ix p (ix f.s.to a))=ix (rx f.t.cs (ix p (ix f.s.fr a))) (ix g.ar a)<;>simp (disch:=omega) [Qa,Q6D,hq,bo]
theorem Q7Y {f g:Fn} (h:Para f g) {p:List Int} (lp:p.length=f.ob.length) (bd:∀ j:Nat,j<p.length→0≤ix p j∧ix p j<f.t.fr.length) :
  ∃ v,QD ⟨f,g,p⟩=some v∧(v<0↔∀ a:Nat,a<f.s.fr.length→ix (rx f.t.cs (ix f.ar a)) (ix p (ix f.s.to a))=ix (rx f.t.cs (ix p (ix f.s.fr a))) (ix g.ar a)):=by
 obtain ⟨k1,k2,k3,k4,k5,k6,k7,k8,k9,k10⟩:=h.fact;unfold QD;rcases Q8S (body:=fun s6:Int=>if s6<(f.ar.length:Int) then (Q21 f g p s6).bind fun v8=>if ¬ (v8=true) then some (Ctl.ret (Sum.inr s6)) else ass (B64 (s6+1)) <| some (Ctl.next (s6+1)) else some (Ctl.ret (Sum.inl ()))) (ε:=Unit ⊕ Int)
   f.s.fr.length (fun a:Nat=>ix (rx f.t.cs (ix f.ar a)) (ix p (ix f.s.to a))=ix (rx f.t.cs (ix p (ix f.s.fr a))) (ix g.ar a)) (eb:=fun i=>Sum.inr (i:Int)) (eg:=Sum.inl ()) (by omega)
   (fun a hi hp=>by simp (disch:=omega) [Qa,B64,Q6g h lp bd hi,hp,bo];omega) (fun a hi hp=>by simp (disch:=omega) [Qa,B64,Q6g h lp bd hi,hp,bo];omega) (by simp;omega) with ⟨h1,h2⟩|⟨m,h1,h2,h3,h4⟩
 ·refine ⟨-1,?_,by simpa using h1⟩;simp only;rw [h2];rfl
 refine ⟨m,?_,⟨fun q=>by omega,fun q=>absurd (q m h1) h2⟩⟩;simp only;rw [h4];rfl
theorem e_Tshape (t:Tra):QK t=some (bo (Para t.s t.t∧t.p.length=t.s.ob.length∧(∀ j:Nat,j<t.p.length→0≤ix t.p j∧ix t.p j<t.s.t.fr.length)∧∀ x:Nat,x<t.p.length→ix t.s.t.fr (ix t.p x)=ix t.s.ob x∧ix t.s.t.to (ix t.p x)=ix t.t.ob x)):=by
 unfold QK;rw [Q6E _ (by simp)]
 by_cases h:t.s.Is∧t.t.Is
 case neg=>rw [QA (show ¬ ∀ c∈[t.s,t.t],c.Is by simpa using h),QA (fun q=>h ⟨q.1.hf,q.1.hg⟩)];simp
 rw [QP (show ∀ c∈[t.s,t.t],c.Is by simpa using h)];obtain ⟨hf,hg⟩:=h;rw [Q9h hf]
 by_cases h:t.s.s=t.t.s∧t.s.t=t.t.t
 case neg=>rw [QA h,QA (fun q=>h ⟨q.1.s,q.1.t⟩)];simp
 rw [QP h];have hP:Para t.s t.t:=⟨hf,hg,h.1,h.2⟩;obtain ⟨k1,k2,k3,k4,k5,k6,k7,k8,k9,k10⟩:=hP.fact;have lo:=hf.lo;have b2:B64 ((t.s.t.fr.length:Int) - 1):=⟨by omega,by omega⟩
 by_cases h1:(t.p.length:Int)=t.s.s.n
 case neg=>rw [QA (fun q=>h1 (by rw [q.2.1,lo]))];simp [h1]
 by_cases h2:t.p.all (inR t.s.t.fr.length)=true
 case neg=>rw [QA (fun q=>h2 (all_inR.2 q.2.2.1))];simp [Qs,Q1C,Qa b2,h1,h2]
 have bd:=all_inR.1 h2;simp only [Qs,Q1C,Qa b2,h1,h2,not_true_eq_false,if_false,Option.bind_some,Bool.not_true,Bool.false_eq_true];refine Q1k t.p.length (fun x:Nat=>ix t.s.t.fr (ix t.p x)=ix t.s.ob x∧ix t.s.t.to (ix t.p x)=ix t.t.ob x) (eb:=Sum.inr false) (eg:=Sum.inl ()) (by omega) (fun a hi hp=>?_) (fun a hi hp=>?_) (by simp;try omega) (fun hx=>?_) fun q1=>?_
 ·have:=bd a hi;simp (disch:=omega) [Qa,B64,QQ,hp.1,hp.2];omega
 ·have:=bd a hi
  by_cases hp1:ix t.s.t.fr (ix t.p a)=ix t.s.ob a
  ·have hp2:¬ ix t.s.t.to (ix t.p a)=ix t.t.ob a:=fun q=>hp ⟨hp1,q⟩;simp (disch:=omega) [Qa,B64,QQ,hp1,hp2];try omega
  simp (disch:=omega) [Qa,B64,QQ,hp1];try omega
 ·rw [QA (fun q=>hx q.2.2.2)]
 rw [QP ⟨hP,by omega,bd,q1⟩]
theorem Q5E (t:Tra):QG t=some (bo t.Is):=by
 unfold QG;rw [e_Tshape]
 by_cases h:Para t.s t.t∧t.p.length=t.s.ob.length∧(∀ j:Nat,j<t.p.length→0≤ix t.p j∧ix t.p j<t.s.t.fr.length)∧∀ x:Nat,x<t.p.length→ix t.s.t.fr (ix t.p x)=ix t.s.ob x∧ix t.s.t.to (ix t.p x)=ix t.t.ob x
 case neg=>rw [QA h,QA (show ¬ t.Is from fun q=>h ⟨q.p,q.n.lp,q.n.bd,q.n.ends⟩)];simp
 rw [QP h];obtain ⟨hP,lp,bd,en⟩:=h;obtain ⟨v,hv,hiff⟩:=Q7Y hP lp bd;have hv':QD t=some v:=hv
 by_cases hn:v<0
 ·rw [QP (show t.Is from ⟨hP,lp,bd,en,hiff.1 hn⟩)];simp [hv',hn]
 rw [QA (show ¬ t.Is from fun q=>hn (hiff.2 q.n.sq))];simp [hv',hn]
theorem Q79 (ts:List Tra) (hl:ts.length≤1048576):Q1P ts=some (bo (∀ t∈ts,t.Is)):=by
 unfold Q1P;refine Q1k ts.length (fun i:Nat=>(gx ts i).Is) (eb:=Sum.inr false) (eg:=Sum.inl ()) (by omega) (fun a hi hp=>?_) (fun a hi hp=>?_) (by simp) (fun hx=>?_) fun q1=>?_
 ·simp (disch:=omega) [Qa,B64,Q5E,QP hp,hi]
 ·simp (disch:=omega) [Qa,B64,Q5E,QA hp,hi]
 ·rw [QA (show ¬ ∀ c∈ts,c.Is from fun q=>hx fun i hi=>q _ (by rw [Q6h _ hi];exact List.getElem_mem hi))]
 rw [QP (show ∀ c∈ts,c.Is from fun c hc=>by obtain ⟨i,hi,rfl⟩:=List.getElem_of_mem hc;have:=q1 i hi;rwa [Q6h _ hi] at this)]
noncomputable def Q1J (c_:Cat) (f_:Int):Option Bool :=
 ass (0≤f_∧f_<(c_.fr.length:Int)) <|
 ass (0≤ix c_.fr f_∧ix c_.fr f_<(c_.id.length:Int)) <|
 some ((ix c_.id (ix c_.fr f_)) == f_)
theorem Q4x (c_:Cat) (f_:Int) (r:Bool) (h:Q1J c_ f_=some r):Contract Tryz.prog 126 [.agg (c_.cells true),iV f_] (.val (.bool r)):=by
 refine Qf (rvs:=[.tmp 4]) (rs:=[.val (.bool r)]) Tryz.func126 rfl rfl rfl rfl (by simp [Tryz.f126]) fun F hN hP=>?_;unfold Q1J at h;refine Q5 ?_;refine runQ hN fun K hK=>?_;simp [-Q0,-Q7,-Q1,-Q8,-Q2,eL,eI,Qo,QH,Cat.cells];repeat refine sdQ ?_
 refine hK _ ?_;clear hK K;refine tn ?_;refine Q9 (st':=⟨[(1,iV f_),(2,.adr 0 0 0)],[(0,.mix 5 [(Cat.cells true c_)])],1⟩) (wkQ9 [(0,0)]) ?_;refine Q5 ?_;refine runQ hN fun K hK=>?_;replace h:=Q6 h;obtain ⟨a1,h⟩:=h;replace h:=Q6 h;obtain ⟨a2,h⟩:=h;simp [-Q0,-Q7,-Q1,-Q8,-Q2,eL,eI,Qo,QH,Cat.cells,at_I a1,at_I a2];repeat refine sdQ ?_
 refine hK _ ?_;clear hK K;refine tn ?_;refine Q9 (st':=⟨[(4,.val (.bool ((ix c_.id (ix c_.fr f_)) == f_)))],[],0⟩) (wkQ9 []) ?_;refine Qi ?_;have hr:=Option.some.inj h;rw [← hr];refine ⟨_,(.tmp .nil),?_⟩;refine ⟨(.one rfl rfl .nil),[.val (.bool ((ix c_.id (ix c_.fr f_)) == f_))],[],by simp [Cat.cells,UA,U1,IA,I1,LA,L1,BA,B1,EA,E1,E2,eB,eI,eL],by simp,(UpL.refl _)⟩
structure Adj.Pre (a:Adj):Prop where
 hl:a.l.Is
 hr:a.r.Is
 e1:a.l.t=a.r.s
 e2:a.r.t=a.l.s
 n1:NatT (Q2W a.l.s) (Q2X a.l a.r) a.u
 n2:NatT (Q2X a.r a.l) (Q2W a.l.t) a.k
structure Adj.Is (a:Adj):Prop where
 pre:a.Pre
 t1:∀ x:Nat,x<a.l.ob.length→ix (rx a.l.t.cs (ix a.l.ar (ix a.u x))) (ix a.k (ix a.l.ob x))=ix a.l.t.id (ix a.l.ob x)
 t2:∀ y:Nat,y<a.r.ob.length→ix (rx a.l.s.cs (ix a.u (ix a.r.ob y))) (ix a.r.ar (ix a.k y))=ix a.l.s.id (ix a.r.ob y)
theorem e_l02Unit {c:Cat} (hc:c.Is) {f:Int} (h0:0≤f) (h1:f<c.fr.length):Q1J c f=some (bo (f=ix c.id (ix c.fr f))):=by
 have:=hc.1.fr' h0 h1;unfold Q1J;rw [Qa ⟨h0,h1⟩,Qa this]
 by_cases h:ix c.id (ix c.fr f)=f
 ·rw [QP h.symm];simp [h]
 rw [QA (fun q=>h q.symm)];simp [h]
theorem Q98 {f g:Fn} {p:List Int} (h:Para f g):(⟨f,g,p⟩:Tra).Is↔NatT f g p:=⟨fun q=>q.n,fun q=>⟨h,q⟩⟩
attribute [local simp] eL eI Qo eP_Adj Q1N Adj.cells Fn.cells
noncomputable def Q2k (f_:Fn) (g_:Fn) (unit_:List Int) (counit_:List Int):Option Adj :=
 (Q1w f_).bind fun v1 =>
 (Q1w g_).bind fun v2 =>
 (Q2o unit_).bind fun v3 =>
 (Q2o counit_).bind fun v4 =>
 some (⟨v1,v2,v3,v4⟩:Adj)
theorem Q6a (f_:Fn) (g_:Fn) (unit_:List Int) (counit_:List Int) (r:Adj) (h:Q2k f_ g_ unit_ counit_=some r):Contract Tryz.prog 58 [.rptr (f_.cells true),.rptr (g_.cells true),lI unit_,lI counit_] (.agg (r.cells true)):=by
 refine Qf (rvs:=[.cell 8 35]) (rs:=[.agg (r.cells true)]) Tryz.func58 rfl rfl rfl rfl (by simp [Tryz.f58]) fun F hN hP=>?_;unfold Q2k at h;refine Q5 ?_;refine runQ hN fun K hK=>?_;simp [-Q0,-Q7,-Q1,-Q8,-Q2];repeat refine sdQ ?_
 refine hK _ ?_;clear hK K;refine tn ?_;refine Q9 (st':=⟨[(0,.rptr (Fn.cells true f_)),(1,.rptr (Fn.cells true g_)),(2,lI unit_),(3,lI counit_),(8,.adr 0 0 0)],[(0,.mix 26 [[iV 0,.val (.slice none 0 0),.val (.slice none 0 0),.val (.slice none 0 0),.val (.slice none 0 0),iV 0,.val (.slice none 0 0),.val (.slice none 0 0),.val (.slice none 0 0),.val (.slice none 0 0),.val (.slice none 0 0),.val (.slice none 0 0),iV 0,.val (.slice none 0 0),.val (.slice none 0 0),.val (.slice none 0 0),.val (.slice none 0 0),iV 0,.val (.slice none 0 0),.val (.slice none 0 0),.val (.slice none 0 0),.val (.slice none 0 0),.val (.slice none 0 0),.val (.slice none 0 0),.val (.slice none 0 0),.val (.slice none 0 0)]])],1⟩) (wkQ9 [(0,0)]) ?_;refine Q5 ?_;refine runQ hN fun K hK=>?_;simp [-Q0,-Q7,-Q1,-Q8,-Q2];repeat with_reducible refine sdQ ?_
 replace h:=bind_some h;obtain ⟨v1,hv1,h⟩:=h;refine Q3 (Q3G _ v1 hv1) (.cons (.preT (by simp [Fn.cells])) .nil) ?_;simp [-Q0,-Q7,-Q1,-Q8,-Q2,unk,unA,unE,unT,unC,flat];repeat with_reducible refine sdQ ?_
 replace h:=bind_some h;obtain ⟨v2,hv2,h⟩:=h;refine Q3 (Q3G _ v2 hv2) (.cons (.preT (by simp [Fn.cells])) .nil) ?_;simp [-Q0,-Q7,-Q1,-Q8,-Q2,unk,unA,unE,unT,unC,flat];repeat with_reducible refine sdQ ?_
 replace h:=bind_some h;obtain ⟨v3,hv3,h⟩:=h;refine Q3 (Q4S _ v3 hv3) (.cons .lst .nil) ?_;simp [-Q0,-Q7,-Q1,-Q8,-Q2,unk,unA,unE,unT,unC,flat];repeat with_reducible refine sdQ ?_
 replace h:=bind_some h;obtain ⟨v4,hv4,h⟩:=h;refine Q3 (Q4S _ v4 hv4) (.cons .lst .nil) ?_;simp [-Q0,-Q7,-Q1,-Q8,-Q2,unk,unA,unE,unT,unC,flat];repeat refine sdQ ?_
 refine hK _ ?_;clear hK K;refine tn ?_;refine Q9 (st':=⟨[(8,.adr 0 0 0)],[(0,.mix 26 [[iV v1.s.n,.own 1 0 v1.s.fr.length,.own 2 0 v1.s.to.length,.own 3 0 v1.s.id.length,.own 4 0 v1.s.cs.length,iV v1.t.n,.own 5 0 v1.t.fr.length,.own 6 0 v1.t.to.length,.own 7 0 v1.t.id.length,.own 8 0 v1.t.cs.length,.own 9 0 v1.ob.length,.own 10 0 v1.ar.length,iV v2.s.n,.own 11 0 v2.s.fr.length,.own 12 0 v2.s.to.length,.own 13 0 v2.s.id.length,.own 14 0 v2.s.cs.length,iV v2.t.n,.own 15 0 v2.t.fr.length,.own 16 0 v2.t.to.length,.own 17 0 v2.t.id.length,.own 18 0 v2.t.cs.length,.own 19 0 v2.ob.length,.own 20 0 v2.ar.length,.own 21 0 v3.length,.own 22 0 v4.length]]),(1,rI v1.s.fr),(2,rI v1.s.to),(3,rI v1.s.id),(4,.row 1 (Ls v1.s.cs)),(5,rI v1.t.fr),(6,rI v1.t.to),(7,rI v1.t.id),(8,.row 1 (Ls v1.t.cs)),(9,rI v1.ob),(10,rI v1.ar),(11,rI v2.s.fr),(12,rI v2.s.to),(13,rI v2.s.id),(14,.row 1 (Ls v2.s.cs)),(15,rI v2.t.fr),(16,rI v2.t.to),(17,rI v2.t.id),(18,.row 1 (Ls v2.t.cs)),(19,rI v2.ob),(20,rI v2.ar),(21,rI v3),(22,rI v4)],23⟩) (wkQ9 [(0,0),(2,1),(3,2),(4,3),(5,4),(7,5),(8,6),(9,7),(10,8),(11,9),(12,10),(14,11),(15,12),(16,13),(17,14),(19,15),(20,16),(21,17),(22,18),(23,19),(24,20),(25,21),(26,22)]) ?_;refine Qi ?_;have hr:=Option.some.inj h;rw [← hr];refine ⟨_,(.cell tf_35 rfl rfl rfl (by simp) (by simp) .nil),?_⟩;refine ⟨(.agg rfl .nil),[iV v1.s.n,lI v1.s.fr,lI v1.s.to,lI v1.s.id,.lst true 1 (Ls v1.s.cs),iV v1.t.n,lI v1.t.fr,lI v1.t.to,lI v1.t.id,.lst true 1 (Ls v1.t.cs),lI v1.ob,lI v1.ar,iV v2.s.n,lI v2.s.fr,lI v2.s.to,lI v2.s.id,.lst true 1 (Ls v2.s.cs),iV v2.t.n,lI v2.t.fr,lI v2.t.to,lI v2.t.id,.lst true 1 (Ls v2.t.cs),lI v2.ob,lI v2.ar,lI v3,lI v4],[1,2,3,4,5,6,7,8,9,10,11,12,13,14,15,16,17,18,19,20,21,22],by simp [Adj.cells,Fn.cells,UA,U1,IA,I1,LA,L1,BA,B1,EA,E1,E2,eB,eI,eL],by simp,(UpL.refl _)⟩
def tab {α:Type} (n:Nat) (g:Nat→α):List α:=(List.range n).map g
@[simp] theorem Q48 {α:Type} (n:Nat) (g:Nat→α):(tab n g).length=n:=by simp [tab]
theorem Q4O {α:Type} (n:Nat) (g:Nat→α):tab (n+1) g=tab n g++[g n]:=by simp [tab,List.range_succ]
theorem ix_tab (n:Nat) (g:Nat→Int) {i:Nat} (h:i<n):ix (tab n g) i=g i:=by
 rw [← Q1G _ _ (show i<(tab n g).length by simpa using h)];simp [tab]
theorem Cat.Is.size {c:Cat} (h:c.Is):c.size≤2000:=h.1.size2.2
def Q8z:Fn:=⟨⟨0,[],[],[],[]⟩,⟨0,[],[],[],[]⟩,[],[]⟩
structure Adj.Two (a b:Adj):Prop where
 ha:a.Is
 hb:b.Is
 e:a.l.t=b.l.s
attribute [local simp] eL eI Qo QH Cat.cells
noncomputable def QW (c_:Cat) (x_:Int) (y_:Int):Option (List Int) :=
 (QE (σ:=List Int × Int) (ε:=List Int) (fun s11 =>
  if s11.2<(c_.fr.length:Int) then
   (
    (
     ass (0≤s11.2∧s11.2<(c_.fr.length:Int)) <|
     if (ix c_.fr s11.2)=x_ then
      ass (0≤s11.2∧s11.2<(c_.to.length:Int)) <|
      some ((ix c_.to s11.2) == y_)
     else
      some false:Option (Bool)).bind fun b14 =>
    if b14=true then
     ass ((s11.1++[s11.2]).length≤1073741824) <|
     some (s11.1++[s11.2])
    else
     some s11.1:Option (List Int)).bind fun b13 =>
   ass (B64 (s11.2+1)) <|
   some (Ctl.next (b13,s11.2+1))
  else
   some (Ctl.ret s11.1)) fuel ([],0)).bind fun b1 =>
 some b1
theorem Q3F (c_:Cat) (x_:Int) (y_:Int) (r:List Int) (h:QW c_ x_ y_=some r):Contract Tryz.prog 137 [.rptr (c_.cells true),iV x_,iV y_] (lI r):=by
 refine Qf (rvs:=[.tmp 6]) (rs:=[lI r]) Tryz.func137 rfl rfl rfl rfl (by simp [Tryz.f137]) fun F hN hP=>?_;unfold QW at h;refine Q5 ?_;refine runQ hN fun K hK=>?_;simp [-Q0,-Q7,-Q1,-Q8,-Q2];repeat refine sdQ ?_
 refine hK _ ?_;clear hK K;refine tn ?_;refine Q9 (st':=⟨[(0,.rptr (Cat.cells true c_)),(1,iV x_),(2,iV y_)],[],0⟩) (wkQ9 []) ?_;refine Q5 ?_;refine runQ hN fun K hK=>?_;simp [-Q0,-Q7,-Q1,-Q8,-Q2];repeat refine sdQ ?_
 refine hK _ ?_;clear hK K;refine tn ?_;refine Q9 (st':=⟨[(0,.rptr (Cat.cells true c_)),(1,iV x_),(2,iV y_),(7,.own 0 0 0)],[(0,.mix 1 [])],1⟩) (wkQ9 [(0,0)]) ?_;refine Q5 ?_;refine Q5 ?_;refine runQ hN fun K hK=>?_;simp [-Q0,-Q7,-Q1,-Q8,-Q2];repeat refine sdQ ?_
 refine hK _ ?_;clear hK K;refine tn ?_;refine Q9 (st':=⟨[(0,.rptr (Cat.cells true c_)),(1,iV x_),(2,iV y_),(7,.own 0 0 0),(14,iV (c_.fr.length:Int)),(15,iV 0)],[(0,.mix 1 [])],1⟩) (wkQ9 [(0,0)]) ?_;replace h:=bind_some h;obtain ⟨e1,h,h1⟩:=h;refine Qj (fun b1:List Int=>⟨[(7,.own 0 0 b1.length)],[(0,rI b1)],1⟩) (fun b1=>b1=e1) ?_ ?_
 ·refine Qc ?_;refine Qz h (fun s11:List Int × Int=>⟨[(0,.rptr (Cat.cells true c_)),(1,iV x_),(2,iV y_),(7,.own 0 0 s11.1.length),(14,iV (c_.fr.length:Int)),(15,iV s11.2)],[(0,rI s11.1)],1⟩) (Q2Z ⟨[(0,.rptr (Cat.cells true c_)),(1,iV x_),(2,iV y_),(7,.own 0 0 0),(14,iV (c_.fr.length:Int)),(15,iV 0)],[(0,rI [])],1⟩ (Wk.nils [] (by simp) (by simp) (by simp [nlA]) (by simp [entN,nlL,nlA,Cat.cells,UA,U1,IA,I1,LA,L1,BA,B1,EA,E1,E2,eB,eI,eL]) (by simp)) (wkQ9 [(0,0)])) ?_;clear h;intro k11 s11 c11 h hk11;refine Q5 ?_;refine runQ hN fun K hK=>?_;simp [-Q0,-Q7,-Q1,-Q8,-Q2];repeat refine sdQ ?_
  refine hK _ ?_;clear hK K;refine tn ?_;refine Q9 (st':=⟨[(0,.rptr (Cat.cells true c_)),(1,iV x_),(2,iV y_),(7,.own 0 0 s11.1.length),(14,iV (c_.fr.length:Int)),(15,iV s11.2),(16,.val (.bool (decide (s11.2<(c_.fr.length:Int)))))],[(0,rI s11.1)],1⟩) (wkQ9 [(0,0)]) ?_;refine Q5 ?_;refine Qd rfl (fun g=>?_) fun g=>?_
  ·have g12:s11.2<(c_.fr.length:Int):=gQ;clear g;replace h:=if_l g12 h;refine Qe ?_;refine tn ?_;refine Q5 ?_;replace h:=bind_some h;obtain ⟨e13,h,h13⟩:=h;refine Qj (fun b13:List Int=>⟨[(0,.rptr (Cat.cells true c_)),(1,iV x_),(2,iV y_),(7,.own 0 0 b13.length),(14,iV (c_.fr.length:Int)),(15,iV s11.2)],[(0,rI b13)],1⟩) (fun b13=>b13=e13) ?_ ?_
   ·refine Qc ?_;refine Q5 ?_;refine runQ hN fun K hK=>?_;simp [-Q0,-Q7,-Q1,-Q8,-Q2];(repeat refine sdQ ?_);refine hK _ ?_;clear hK K;refine tn ?_;refine Q9 (st':=⟨[(0,.rptr (Cat.cells true c_)),(1,iV x_),(2,iV y_),(7,.own 0 0 s11.1.length),(8,iV s11.2),(14,iV (c_.fr.length:Int)),(15,iV s11.2)],[(0,rI s11.1)],1⟩) (wkQ9 [(0,0)]) ?_;refine Q5 ?_;replace h:=bind_some h;obtain ⟨e14,h,h14⟩:=h;refine Qj (fun b14:Bool=>⟨[(0,.rptr (Cat.cells true c_)),(1,iV x_),(2,iV y_),(7,.own 0 0 s11.1.length),(8,iV s11.2),(14,iV (c_.fr.length:Int)),(15,iV s11.2),(37,.val (.bool b14))],[(0,rI s11.1)],1⟩) (fun b14=>b14=e14) ?_ ?_
    ·refine runQ hN fun K hK=>?_;replace h:=Q6 h;obtain ⟨a15,h⟩:=h;simp [-Q0,-Q7,-Q1,-Q8,-Q2,at_I a15];(repeat with_reducible refine sdQ ?_);refine Qq (fun g=>?_) (fun g=>?_)
     ·have g16:(ix c_.fr s11.2)=x_:=gQ;clear g;replace h:=if_l g16 h;replace h:=Q6 h;obtain ⟨a17,h⟩:=h;simp [-Q0,-Q7,-Q1,-Q8,-Q2,at_I a15,at_I a17];(repeat refine sdQ ?_);refine hK _ ?_;exact jn (b:=(ix c_.to s11.2) == y_) (Option.some.inj h) (wkQ9 [(0,0)])
     have g16:¬ ((ix c_.fr s11.2)=x_):=gQ;clear g;replace h:=if_r g16 h;simp [-Q0,-Q7,-Q1,-Q8,-Q2,at_I a15];(repeat refine sdQ ?_);refine hK _ ?_;exact jn (b:=false) (Option.some.inj h) (wkQ9 [(0,0)])
    intro b14 hb14;have h:=h14;(try rw [← hb14] at h);clear h14;(try dsimp only at h);refine Qd rfl (fun g=>?_) fun g=>?_
    ·have g18:b14=true:=gQ;clear g;replace h:=if_l g18 h;refine runQ hN fun K hK=>?_;replace h:=Q6 h;obtain ⟨a19,h⟩:=h;(try simp only [List.length_append,List.length_cons,List.length_nil] at a19);simp [-Q0,-Q7,-Q1,-Q8,-Q2,a19];(repeat refine sdQ ?_);refine hK _ ?_;clear hK K;refine bn ?_;exact jn (b:=s11.1++[s11.2]) (Option.some.inj h) (wkQ9 [(2,0)])
    have g18:¬ (b14=true):=gQ;clear g;replace h:=if_r g18 h;refine Qe ?_;refine bn ?_;exact jn (b:=s11.1) (Option.some.inj h) (wkQ9 [(0,0)])
   intro b13 hb13;have h:=h13;(try rw [← hb13] at h);clear h13;(try dsimp only at h);refine runQ hN fun K hK=>?_;replace h:=Q6 h;obtain ⟨a20,h⟩:=h;simp [-Q0,-Q7,-Q1,-Q8,-Q2,Qu a20];(repeat refine sdQ ?_);refine hK _ ?_;clear hK K;cases h;exact rn (s':=(b13,s11.2+1)) hk11 (wkQ9 [(0,0)])
  have g12:¬ (s11.2<(c_.fr.length:Int)):=gQ;clear g;replace h:=if_r g12 h;refine Qp ?_;refine tx ?_;refine lx ?_;refine bh ?_;cases h;exact jn (b:=s11.1) hk11 (wkQ9 [(0,0)])
 intro b1 hb1;have h:=h1;try rw [← hb1] at h
 clear h1;try dsimp only at h
 refine Q5 ?_;refine runQ hN fun K hK=>?_;simp [-Q0,-Q7,-Q1,-Q8,-Q2];repeat refine sdQ ?_
 refine hK _ ?_;clear hK K;refine tn ?_;refine Q9 (st':=⟨[(6,.own 0 0 b1.length)],[(0,rI b1)],1⟩) (wkQ9 [(0,0)]) ?_;refine Qi ?_;have hr:=Option.some.inj h;rw [← hr];refine ⟨_,(.tmp .nil),?_⟩;refine ⟨(.one rfl rfl .nil),[lI b1],[0],by simp [Cat.cells,UA,U1,IA,I1,LA,L1,BA,B1,EA,E1,E2,eB,eI,eL],by simp,(UpL.refl _)⟩
attribute [local simp] eL eI Qo QH Cat.cells
noncomputable def Q2H (c_:Cat) (x_:Int) (y_:Int):Option (List Int) :=
 (QE (σ:=List Int × Int) (ε:=List Int) (fun s11 =>
  if s11.2<(c_.fr.length:Int) then
   (
    (
     ass (0≤s11.2∧s11.2<(c_.fr.length:Int)) <|
     if (ix c_.fr s11.2)=x_ then
      ass (0≤s11.2∧s11.2<(c_.to.length:Int)) <|
      some ((ix c_.to s11.2) == y_)
     else
      some false:Option (Bool)).bind fun b14 =>
    if b14=true then
     ass ((s11.1++[s11.2]).length≤1073741824) <|
     some (s11.1++[s11.2])
    else
     some s11.1:Option (List Int)).bind fun b13 =>
   ass (B64 (s11.2+1)) <|
   some (Ctl.next (b13,s11.2+1))
  else
   some (Ctl.ret s11.1)) fuel ([],0)).bind fun b1 =>
 some b1
theorem Q6v (c_:Cat) (x_:Int) (y_:Int) (r:List Int) (h:Q2H c_ x_ y_=some r):Contract Tryz.prog 109 [.agg (c_.cells true),iV x_,iV y_] (lI r):=by
 refine Qf (rvs:=[.tmp 6]) (rs:=[lI r]) Tryz.func109 rfl rfl rfl rfl (by simp [Tryz.f109]) fun F hN hP=>?_;unfold Q2H at h;refine Q5 ?_;refine runQ hN fun K hK=>?_;simp [-Q0,-Q7,-Q1,-Q8,-Q2];repeat refine sdQ ?_
 refine hK _ ?_;clear hK K;refine tn ?_;refine Q9 (st':=⟨[(1,iV x_),(2,iV y_),(3,.adr 0 0 0)],[(0,.mix 5 [(Cat.cells true c_)])],1⟩) (wkQ9 [(0,0)]) ?_;refine Q5 ?_;refine runQ hN fun K hK=>?_;simp [-Q0,-Q7,-Q1,-Q8,-Q2];repeat refine sdQ ?_
 refine hK _ ?_;clear hK K;refine tn ?_;refine Q9 (st':=⟨[(1,iV x_),(2,iV y_),(3,.adr 0 0 0),(7,.own 1 0 0)],[(0,.mix 5 [(Cat.cells true c_)]),(1,.mix 1 [])],2⟩) (wkQ9 [(0,0),(1,1)]) ?_;refine Q5 ?_;refine Q5 ?_;refine runQ hN fun K hK=>?_;simp [-Q0,-Q7,-Q1,-Q8,-Q2];repeat refine sdQ ?_
 refine hK _ ?_;clear hK K;refine tn ?_;refine Q9 (st':=⟨[(1,iV x_),(2,iV y_),(3,.adr 0 0 0),(7,.own 1 0 0),(8,iV 0)],[(0,.mix 5 [(Cat.cells true c_)]),(1,.mix 1 [])],2⟩) (wkQ9 [(0,0),(1,1)]) ?_;replace h:=bind_some h;obtain ⟨e1,h,h1⟩:=h;refine Qj (fun b1:List Int=>⟨[(7,.own 0 0 b1.length)],[(0,rI b1)],1⟩) (fun b1=>b1=e1) ?_ ?_
 ·refine Qc ?_;refine Qz h (fun s11:List Int × Int=>⟨[(1,iV x_),(2,iV y_),(3,.adr 0 0 0),(7,.own 1 0 s11.1.length),(8,iV s11.2)],[(0,.mix 5 [(Cat.cells true c_)]),(1,rI s11.1)],2⟩) (Q2Z ⟨[(1,iV x_),(2,iV y_),(3,.adr 0 0 0),(7,.own 1 0 0),(8,iV 0)],[(0,.mix 5 [(Cat.cells true c_)]),(1,rI [])],2⟩ (Wk.nils [] (by simp) (by simp) (by simp [nlA]) (by simp [entN,nlL,nlA,Cat.cells,UA,U1,IA,I1,LA,L1,BA,B1,EA,E1,E2,eB,eI,eL]) (by simp)) (wkQ9 [(0,0),(1,1)])) ?_;clear h;intro k11 s11 c11 h hk11;refine Q5 ?_;refine Q5 ?_;refine runQ hN fun K hK=>?_;simp [-Q0,-Q7,-Q1,-Q8,-Q2];repeat refine sdQ ?_
  refine hK _ ?_;clear hK K;refine tn ?_;refine Q9 (st':=⟨[(1,iV x_),(2,iV y_),(3,.adr 0 0 0),(7,.own 1 0 s11.1.length),(8,iV s11.2),(14,.val (.bool (decide (s11.2<(c_.fr.length:Int)))))],[(0,.mix 5 [(Cat.cells true c_)]),(1,rI s11.1)],2⟩) (wkQ9 [(0,0),(1,1)]) ?_;refine Qd rfl (fun g=>?_) fun g=>?_
  ·have g12:s11.2<(c_.fr.length:Int):=gQ;clear g;replace h:=if_l g12 h;refine Qe ?_;refine tn ?_;refine Q5 ?_;replace h:=bind_some h;obtain ⟨e13,h,h13⟩:=h;refine Qj (fun b13:List Int=>⟨[(1,iV x_),(2,iV y_),(3,.adr 0 0 0),(7,.own 1 0 b13.length),(8,iV s11.2)],[(0,.mix 5 [(Cat.cells true c_)]),(1,rI b13)],2⟩) (fun b13=>b13=e13) ?_ ?_
   ·refine Qc ?_;refine Q5 ?_;replace h:=bind_some h;obtain ⟨e14,h,h14⟩:=h;refine Qj (fun b14:Bool=>⟨[(1,iV x_),(2,iV y_),(3,.adr 0 0 0),(7,.own 1 0 s11.1.length),(8,iV s11.2),(32,.val (.bool b14))],[(0,.mix 5 [(Cat.cells true c_)]),(1,rI s11.1)],2⟩) (fun b14=>b14=e14) ?_ ?_
    ·refine runQ hN fun K hK=>?_;replace h:=Q6 h;obtain ⟨a15,h⟩:=h;simp [-Q0,-Q7,-Q1,-Q8,-Q2,at_I a15];(repeat with_reducible refine sdQ ?_);refine Qq (fun g=>?_) (fun g=>?_)
     ·have g16:(ix c_.fr s11.2)=x_:=gQ;clear g;replace h:=if_l g16 h;replace h:=Q6 h;obtain ⟨a17,h⟩:=h;simp [-Q0,-Q7,-Q1,-Q8,-Q2,at_I a15,at_I a17];(repeat refine sdQ ?_);refine hK _ ?_;exact jn (b:=(ix c_.to s11.2) == y_) (Option.some.inj h) (wkQ9 [(0,0),(1,1)])
     have g16:¬ ((ix c_.fr s11.2)=x_):=gQ;clear g;replace h:=if_r g16 h;simp [-Q0,-Q7,-Q1,-Q8,-Q2,at_I a15];(repeat refine sdQ ?_);refine hK _ ?_;exact jn (b:=false) (Option.some.inj h) (wkQ9 [(0,0),(1,1)])
    intro b14 hb14;have h:=h14;(try rw [← hb14] at h);clear h14;(try dsimp only at h);refine Qd rfl (fun g=>?_) fun g=>?_
    ·have g18:b14=true:=gQ;clear g;replace h:=if_l g18 h;refine runQ hN fun K hK=>?_;replace h:=Q6 h;obtain ⟨a19,h⟩:=h;(try simp only [List.length_append,List.length_cons,List.length_nil] at a19);simp [-Q0,-Q7,-Q1,-Q8,-Q2,a19];(repeat refine sdQ ?_);refine hK _ ?_;clear hK K;refine bn ?_;exact jn (b:=s11.1++[s11.2]) (Option.some.inj h) (wkQ9 [(0,0),(3,1)])
    have g18:¬ (b14=true):=gQ;clear g;replace h:=if_r g18 h;refine Qe ?_;refine bn ?_;exact jn (b:=s11.1) (Option.some.inj h) (wkQ9 [(0,0),(1,1)])
   intro b13 hb13;have h:=h13;(try rw [← hb13] at h);clear h13;(try dsimp only at h);refine runQ hN fun K hK=>?_;replace h:=Q6 h;obtain ⟨a20,h⟩:=h;simp [-Q0,-Q7,-Q1,-Q8,-Q2,Qu a20];(repeat refine sdQ ?_);refine hK _ ?_;clear hK K;cases h;exact rn (s':=(b13,s11.2+1)) hk11 (wkQ9 [(0,0),(1,1)])
  have g12:¬ (s11.2<(c_.fr.length:Int)):=gQ;clear g;replace h:=if_r g12 h;refine Qp ?_;refine tx ?_;refine lx ?_;refine bh ?_;cases h;exact jn (b:=s11.1) hk11 (wkQ9 [(1,0)])
 intro b1 hb1;have h:=h1;try rw [← hb1] at h
 clear h1;try dsimp only at h
 refine Q5 ?_;refine runQ hN fun K hK=>?_;simp [-Q0,-Q7,-Q1,-Q8,-Q2];repeat refine sdQ ?_
 refine hK _ ?_;clear hK K;refine tn ?_;refine Q9 (st':=⟨[(6,.own 0 0 b1.length)],[(0,rI b1)],1⟩) (wkQ9 [(0,0)]) ?_;refine Qi ?_;have hr:=Option.some.inj h;rw [← hr];refine ⟨_,(.tmp .nil),?_⟩;refine ⟨(.one rfl rfl .nil),[lI b1],[0],by simp [Cat.cells,UA,U1,IA,I1,LA,L1,BA,B1,EA,E1,E2,eB,eI,eL],by simp,(UpL.refl _)⟩
noncomputable def flt (n:Nat) (p:Nat→Prop):List Int:=((List.range n).filter fun i=>bo (p i)).map Int.ofNat
noncomputable def fstN (n:Nat) (p:Nat→Prop):Int:=(((List.range n).find? fun i=>bo (p i)).map Int.ofNat).getD (-1)
theorem flt_pos {n:Nat} {p:Nat→Prop} (h:p n):flt (n+1) p=flt n p++[(n:Int)]:=by simp [flt,List.range_succ,QP h]
theorem flt_neg {n:Nat} {p:Nat→Prop} (h:¬ p n):flt (n+1) p=flt n p:=by simp [flt,List.range_succ,QA h]
theorem flt_len (n:Nat) (p:Nat→Prop):(flt n p).length≤n:=by
 unfold flt;rw [List.length_map];exact Nat.le_trans (List.length_filter_le _ _) (by simp)
theorem mem_flt {n:Nat} {p:Nat→Prop} {x:Int}:x∈flt n p↔∃ i:Nat,i<n∧p i∧x=(i:Int):=by
 simp only [flt,List.mem_map,List.mem_filter,List.mem_range,Q72];constructor
 ·rintro ⟨i,⟨h1,h2⟩,rfl⟩;exact ⟨i,h1,h2,rfl⟩
 rintro ⟨i,h1,h2,rfl⟩;exact ⟨i,⟨h1,h2⟩,rfl⟩
theorem Q6I (n:Nat) (p:Nat→Prop):(fstN n p = -1∧∀ i,i<n→¬ p i)∨∃ k:Nat,k<n∧p k∧fstN n p=(k:Int):=by
 unfold fstN;cases h:(List.range n).find? fun i=>bo (p i) with
 | none =>
  refine .inl ⟨rfl,fun i hi=>?_⟩;have:=List.find?_eq_none.1 h i (by simpa using hi);simpa [Q72] using this
 | some k =>
  have h1:=List.find?_some h;have h2:=List.mem_of_find?_eq_some h;exact .inr ⟨k,by simpa using h2,by simpa [Q72] using h1,rfl⟩
theorem e_hom {c:Cat} (h:c.Is) (x y:Int):QW c x y=some (flt c.fr.length fun a=>ix c.fr a=x∧ix c.to a=y):=by
 have k1:=h.1.lt;have k2:=h.1.m40;unfold QW;refine QN c.fr.length (fun i=>flt i fun a=>ix c.fr a=x∧ix c.to a=y) (e:=flt c.fr.length fun a=>ix c.fr a=x∧ix c.to a=y) rfl (by omega) (fun i hi=>?_) (by simp) rfl;have hl:=flt_len i fun a=>ix c.fr a=x∧ix c.to a=y
 by_cases h1:ix c.fr i=x
 ·by_cases h2:ix c.to i=y
  ·rw [flt_pos ⟨h1,h2⟩];simp (disch:=omega) [Qa,B64,h1,h2];try omega
  rw [flt_neg fun q=>h2 q.2];simp (disch:=omega) [Qa,B64,h1,h2];try omega
 rw [flt_neg fun q=>h1 q.1];simp (disch:=omega) [Qa,B64,h1];try omega
theorem e_l02Hom (c:Cat) (x y:Int):Q2H c x y=QW c x y:=rfl
noncomputable def QI (m_:Mnd) (f_:Int):Option Int :=
 ass (0≤f_∧f_<(m_.f.ar.length:Int)) <|
 some (ix m_.f.ar f_)
theorem Q1M (m_:Mnd) (f_:Int) (r:Int) (h:QI m_ f_=some r):Contract Tryz.prog 55 [.rptr (m_.cells true),iV f_] (iV r):=by
 refine Qf (rvs:=[.tmp 4]) (rs:=[iV r]) Tryz.func55 rfl rfl rfl rfl (by simp [Tryz.f55]) fun F hN hP=>?_;unfold QI at h;refine Q5 ?_;refine runQ hN fun K hK=>?_;simp [-Q0,-Q7,-Q1,-Q8,-Q2,eL,eI,Qo,Q1v,Mnd.cells];repeat refine sdQ ?_
 refine hK _ ?_;clear hK K;refine tn ?_;refine Q9 (st':=⟨[(0,.rptr (Mnd.cells true m_)),(1,iV f_)],[],0⟩) (wkQ9 []) ?_;refine Q5 ?_;refine runQ hN fun K hK=>?_;replace h:=Q6 h;obtain ⟨a1,h⟩:=h;simp [-Q0,-Q7,-Q1,-Q8,-Q2,eL,eI,Qo,Q1v,Mnd.cells,at_I a1];repeat refine sdQ ?_
 refine hK _ ?_;clear hK K;refine tn ?_;refine Q9 (st':=⟨[(4,iV (ix m_.f.ar f_))],[],0⟩) (wkQ9 []) ?_;refine Qi ?_;have hr:=Option.some.inj h;rw [← hr];refine ⟨_,(.tmp .nil),?_⟩;refine ⟨(.one rfl rfl .nil),[iV (ix m_.f.ar f_)],[],by simp [Mnd.cells,UA,U1,IA,I1,LA,L1,BA,B1,EA,E1,E2,eB,eI,eL],by simp,(UpL.refl _)⟩
noncomputable def QJ (m_:Mnd) (x_:Int):Option Int :=
 ass (0≤x_∧x_<(m_.f.ob.length:Int)) <|
 some (ix m_.f.ob x_)
theorem Q1V (m_:Mnd) (x_:Int) (r:Int) (h:QJ m_ x_=some r):Contract Tryz.prog 90 [.rptr (m_.cells true),iV x_] (iV r):=by
 refine Qf (rvs:=[.tmp 4]) (rs:=[iV r]) Tryz.func90 rfl rfl rfl rfl (by simp [Tryz.f90]) fun F hN hP=>?_;unfold QJ at h;refine Q5 ?_;refine runQ hN fun K hK=>?_;simp [-Q0,-Q7,-Q1,-Q8,-Q2,eL,eI,Qo,Q1v,Mnd.cells];repeat refine sdQ ?_
 refine hK _ ?_;clear hK K;refine tn ?_;refine Q9 (st':=⟨[(0,.rptr (Mnd.cells true m_)),(1,iV x_)],[],0⟩) (wkQ9 []) ?_;refine Q5 ?_;refine runQ hN fun K hK=>?_;replace h:=Q6 h;obtain ⟨a1,h⟩:=h;simp [-Q0,-Q7,-Q1,-Q8,-Q2,eL,eI,Qo,Q1v,Mnd.cells,at_I a1];repeat refine sdQ ?_
 refine hK _ ?_;clear hK K;refine tn ?_;refine Q9 (st':=⟨[(4,iV (ix m_.f.ob x_))],[],0⟩) (wkQ9 []) ?_;refine Qi ?_;have hr:=Option.some.inj h;rw [← hr];refine ⟨_,(.tmp .nil),?_⟩;refine ⟨(.one rfl rfl .nil),[iV (ix m_.f.ob x_)],[],by simp [Mnd.cells,UA,U1,IA,I1,LA,L1,BA,B1,EA,E1,E2,eB,eI,eL],by simp,(UpL.refl _)⟩
attribute [local simp] eL eI Qo QH Q1v Cat.cells Mnd.cells
noncomputable def Q1h (m_:Mnd):Option Bool :=
 (QE (σ:=Int) (ε:=Unit ⊕ Bool) (fun s25 =>
  if s25<m_.f.s.n then
   (QJ m_ s25).bind fun v27 =>
   (
    ass (0≤s25∧s25<(m_.u.length:Int)) <|
    (QI m_ (ix m_.u s25)).bind fun v30 =>
    ass (0≤s25∧s25<(m_.j.length:Int)) <|
    (Qn m_.f.s v30 (ix m_.j s25)).bind fun v32 =>
    ass (0≤v27∧v27<(m_.f.s.id.length:Int)) <|
    if ¬ (v32=(ix m_.f.s.id v27)) then
     some true
    else
     ass (0≤v27∧v27<(m_.u.length:Int)) <|
     ass (0≤s25∧s25<(m_.j.length:Int)) <|
     (Qn m_.f.s (ix m_.u v27) (ix m_.j s25)).bind fun v37 =>
     ass (0≤v27∧v27<(m_.f.s.id.length:Int)) <|
     some (v37 != (ix m_.f.s.id v27)):Option (Bool)).bind fun b28 =>
   if b28=true then
    some (Ctl.ret (Sum.inr false))
   else
    ass (0≤s25∧s25<(m_.j.length:Int)) <|
    (QI m_ (ix m_.j s25)).bind fun v41 =>
    ass (0≤s25∧s25<(m_.j.length:Int)) <|
    (Qn m_.f.s v41 (ix m_.j s25)).bind fun v43 =>
    ass (0≤v27∧v27<(m_.j.length:Int)) <|
    ass (0≤s25∧s25<(m_.j.length:Int)) <|
    (Qn m_.f.s (ix m_.j v27) (ix m_.j s25)).bind fun v46 =>
    if ¬ (v43=v46) then
     some (Ctl.ret (Sum.inr false))
    else
     ass (B64 (s25+1)) <|
     some (Ctl.next (s25+1))
  else
   some (Ctl.ret (Sum.inl ()))) fuel 0).bind fun e1 =>
 match e1 with
 | .inl b1 =>
  some true
 | .inr p1 =>
  some p1
theorem Q4R (m_:Mnd) (r:Bool) (h:Q1h m_=some r):Contract Tryz.prog 117 [.rptr (m_.cells true)] (.val (.bool r)):=by
 refine Qf (rvs:=[.tmp 2]) (rs:=[.val (.bool r)]) Tryz.func117 rfl rfl rfl rfl (by simp [Tryz.f117]) fun F hN hP=>?_;unfold Q1h at h;refine Q5 ?_;refine runQ hN fun K hK=>?_;simp [-Q0,-Q7,-Q1,-Q8,-Q2];repeat refine sdQ ?_
 refine hK _ ?_;clear hK K;refine tn ?_;refine Q9 (st':=⟨[(0,.rptr (Mnd.cells true m_))],[],0⟩) (wkQ9 []) ?_;refine Q5 ?_;refine runQ hN fun K hK=>?_;simp [-Q0,-Q7,-Q1,-Q8,-Q2];repeat refine sdQ ?_
 refine hK _ ?_;clear hK K;refine tn ?_;refine Q9 (st':=⟨[(0,.rptr (Mnd.cells true m_)),(3,.rptr (Mnd.cells true m_))],[],0⟩) (wkQ9 []) ?_;refine Q5 ?_;refine Q5 ?_;refine runQ hN fun K hK=>?_;simp [-Q0,-Q7,-Q1,-Q8,-Q2];repeat refine sdQ ?_
 refine hK _ ?_;clear hK K;refine tn ?_;refine Q9 (st':=⟨[(0,.rptr (Mnd.cells true m_)),(3,.rptr (Mnd.cells true m_)),(4,iV 0)],[],0⟩) (wkQ9 []) ?_;replace h:=bind_some h;obtain ⟨e1,h,h1⟩:=h;refine Qj (fun b1:Unit=>⟨[],[],0⟩) (fun b1=>Sum.inl b1=e1) ?_ ?_
 ·refine Qc ?_;refine Qz h (fun s25:Int=>⟨[(0,.rptr (Mnd.cells true m_)),(3,.rptr (Mnd.cells true m_)),(4,iV s25)],[],0⟩) (wkQ9 []) ?_;clear h;intro k25 s25 c25 h hk25;refine Q5 ?_;refine Q5 ?_;refine runQ hN fun K hK=>?_;simp [-Q0,-Q7,-Q1,-Q8,-Q2];repeat refine sdQ ?_
  refine hK _ ?_;clear hK K;refine tn ?_;refine Q9 (st':=⟨[(0,.rptr (Mnd.cells true m_)),(3,.rptr (Mnd.cells true m_)),(4,iV s25),(15,.val (.bool (decide (s25<m_.f.s.n))))],[],0⟩) (wkQ9 []) ?_;refine Qd rfl (fun g=>?_) fun g=>?_
  ·have g26:s25<m_.f.s.n:=gQ;clear g;replace h:=if_l g26 h;refine Qe ?_;refine tn ?_;refine Q5 ?_;refine Qc ?_;refine Q5 ?_;refine runQ hN fun K hK=>?_;simp [-Q0,-Q7,-Q1,-Q8,-Q2];(repeat with_reducible refine sdQ ?_);replace h:=bind_some h;obtain ⟨v27,hv27,h⟩:=h;refine Q3 (Q1V _ _ v27 hv27) (.cons (.preT (by simp [Cat.cells,Mnd.cells])) (.cons .val .nil)) ?_;simp [-Q0,-Q7,-Q1,-Q8,-Q2,unk,unA,unE,unT,unC,flat];(repeat refine sdQ ?_);refine hK _ ?_;clear hK K;refine tn ?_;refine Q9 (st':=⟨[(0,.rptr (Mnd.cells true m_)),(3,.rptr (Mnd.cells true m_)),(4,iV s25),(5,iV v27)],[],0⟩) (wkQ9 []) ?_;refine Q5 ?_;refine Q5 ?_;replace h:=bind_some h;obtain ⟨e28,h,h28⟩:=h;refine Qj (fun b28:Bool=>⟨[(0,.rptr (Mnd.cells true m_)),(3,.rptr (Mnd.cells true m_)),(4,iV s25),(5,iV v27),(72,.val (.bool b28))],[],0⟩) (fun b28=>b28=e28) ?_ ?_
   ·refine runQ hN fun K hK=>?_;replace h:=Q6 h;obtain ⟨a29,h⟩:=h;simp [-Q0,-Q7,-Q1,-Q8,-Q2,at_I a29];(repeat with_reducible refine sdQ ?_);replace h:=bind_some h;obtain ⟨v30,hv30,h⟩:=h;refine Q3 (Q1M _ _ v30 hv30) (.cons (.preT (by simp [Cat.cells,Mnd.cells])) (.cons .val .nil)) ?_;replace h:=Q6 h;obtain ⟨a31,h⟩:=h;simp [-Q0,-Q7,-Q1,-Q8,-Q2,unk,unA,unE,unT,unC,flat,at_I a29,at_I a31];(repeat with_reducible refine sdQ ?_);replace h:=bind_some h;obtain ⟨v32,hv32,h⟩:=h;refine Q3 (QB _ _ _ v32 hv32) (.cons (.preT (by simp [Cat.cells,Mnd.cells])) (.cons .val (.cons .val .nil))) ?_;replace h:=Q6 h;obtain ⟨a33,h⟩:=h;simp [-Q0,-Q7,-Q1,-Q8,-Q2,unk,unA,unE,unT,unC,flat,at_I a29,at_I a31,at_I a33];(repeat with_reducible refine sdQ ?_);refine Qq (fun g=>?_) (fun g=>?_)
    ·have g34:¬ (¬ (v32=(ix m_.f.s.id v27))):=gQ;clear g;replace h:=if_r g34 h;replace h:=Q6 h;obtain ⟨a35,h⟩:=h;replace h:=Q6 h;obtain ⟨a36,h⟩:=h;simp [-Q0,-Q7,-Q1,-Q8,-Q2,at_I a29,at_I a31,at_I a33,at_I a35,at_I a36];(repeat with_reducible refine sdQ ?_);replace h:=bind_some h;obtain ⟨v37,hv37,h⟩:=h;refine Q3 (QB _ _ _ v37 hv37) (.cons (.preT (by simp [Cat.cells,Mnd.cells])) (.cons .val (.cons .val .nil))) ?_;replace h:=Q6 h;obtain ⟨a38,h⟩:=h;simp [-Q0,-Q7,-Q1,-Q8,-Q2,unk,unA,unE,unT,unC,flat,at_I a29,at_I a31,at_I a33,at_I a35,at_I a36,at_I a38];(repeat refine sdQ ?_);refine hK _ ?_;exact jn (b:=v37 != (ix m_.f.s.id v27)) (Option.some.inj h) (wkQ9 [])
    have g34:¬ (v32=(ix m_.f.s.id v27)):=gQ;clear g;replace h:=if_l g34 h;simp [-Q0,-Q7,-Q1,-Q8,-Q2,at_I a29,at_I a31,at_I a33];(repeat refine sdQ ?_);refine hK _ ?_;exact jn (b:=true) (Option.some.inj h) (wkQ9 [])
   intro b28 hb28;have h:=h28;(try rw [← hb28] at h);clear h28;(try dsimp only at h);refine Qd rfl (fun g=>?_) fun g=>?_
   ·have g39:b28=true:=gQ;clear g;replace h:=if_l g39 h;refine Q5 ?_;refine runQ hN fun K hK=>?_;simp [-Q0,-Q7,-Q1,-Q8,-Q2];(repeat refine sdQ ?_);refine hK _ ?_;clear hK K;refine tn ?_;refine Q9 (st':=⟨[(2,.val (.bool false))],[],0⟩) (wkQ9 []) ?_;refine Qi ?_;refine tr ?_;refine br ?_;refine tr ?_;refine lr ?_;refine br ?_;refine tr ?_;cases h;have q:_=e1:=hk25;have h:=h1;rw [← q] at h;clear q;(try dsimp only at h);have hr:=Option.some.inj h;rw [← hr];refine ⟨_,(.tmp .nil),?_⟩;refine ⟨(.one rfl rfl .nil),[.val (.bool false)],[],by simp [Cat.cells,Mnd.cells,UA,U1,IA,I1,LA,L1,BA,B1,EA,E1,E2,eB,eI,eL],by simp,(UpL.refl _)⟩
   have g39:¬ (b28=true):=gQ;clear g;replace h:=if_r g39 h;refine Qe ?_;refine tn ?_;refine Q5 ?_;refine runQ hN fun K hK=>?_;replace h:=Q6 h;obtain ⟨a40,h⟩:=h;simp [-Q0,-Q7,-Q1,-Q8,-Q2,at_I a40];(repeat with_reducible refine sdQ ?_);replace h:=bind_some h;obtain ⟨v41,hv41,h⟩:=h;refine Q3 (Q1M _ _ v41 hv41) (.cons (.preT (by simp [Cat.cells,Mnd.cells])) (.cons .val .nil)) ?_;replace h:=Q6 h;obtain ⟨a42,h⟩:=h;simp [-Q0,-Q7,-Q1,-Q8,-Q2,unk,unA,unE,unT,unC,flat,at_I a40,at_I a42];(repeat with_reducible refine sdQ ?_);replace h:=bind_some h;obtain ⟨v43,hv43,h⟩:=h;refine Q3 (QB _ _ _ v43 hv43) (.cons (.preT (by simp [Cat.cells,Mnd.cells])) (.cons .val (.cons .val .nil))) ?_;replace h:=Q6 h;obtain ⟨a44,h⟩:=h;replace h:=Q6 h;obtain ⟨a45,h⟩:=h;simp [-Q0,-Q7,-Q1,-Q8,-Q2,unk,unA,unE,unT,unC,flat,at_I a40,at_I a42,at_I a44,at_I a45];(repeat with_reducible refine sdQ ?_);replace h:=bind_some h;obtain ⟨v46,hv46,h⟩:=h;refine Q3 (QB _ _ _ v46 hv46) (.cons (.preT (by simp [Cat.cells,Mnd.cells])) (.cons .val (.cons .val .nil))) ?_;simp [-Q0,-Q7,-Q1,-Q8,-Q2,unk,unA,unE,unT,unC,flat,at_I a40,at_I a42,at_I a44,at_I a45];(repeat refine sdQ ?_);refine hK _ ?_;clear hK K;refine tn ?_;refine Q9 (st':=⟨[(0,.rptr (Mnd.cells true m_)),(3,.rptr (Mnd.cells true m_)),(4,iV s25),(107,.val (.bool (v43 != v46)))],[],0⟩) (wkQ9 []) ?_;refine Qd rfl (fun g=>?_) fun g=>?_
   ·have g47:¬ (v43=v46):=gQ;clear g;replace h:=if_l g47 h;refine Q5 ?_;refine runQ hN fun K hK=>?_;simp [-Q0,-Q7,-Q1,-Q8,-Q2];(repeat refine sdQ ?_);refine hK _ ?_;clear hK K;refine tn ?_;refine Q9 (st':=⟨[(2,.val (.bool false))],[],0⟩) (wkQ9 []) ?_;refine Qi ?_;refine br ?_;refine tr ?_;refine lr ?_;refine br ?_;refine tr ?_;cases h;have q:_=e1:=hk25;have h:=h1;rw [← q] at h;clear q;(try dsimp only at h);have hr:=Option.some.inj h;rw [← hr];refine ⟨_,(.tmp .nil),?_⟩;refine ⟨(.one rfl rfl .nil),[.val (.bool false)],[],by simp [Cat.cells,Mnd.cells,UA,U1,IA,I1,LA,L1,BA,B1,EA,E1,E2,eB,eI,eL],by simp,(UpL.refl _)⟩
   have g47:¬ (¬ (v43=v46)):=gQ;clear g;replace h:=if_r g47 h;refine Qe ?_;refine bn ?_;refine tn ?_;refine runQ hN fun K hK=>?_;replace h:=Q6 h;obtain ⟨a48,h⟩:=h;simp [-Q0,-Q7,-Q1,-Q8,-Q2,Qu a48];(repeat refine sdQ ?_);refine hK _ ?_;clear hK K;cases h;exact rn (s':=s25+1) hk25 (wkQ9 [])
  have g26:¬ (s25<m_.f.s.n):=gQ;clear g;replace h:=if_r g26 h;refine Qp ?_;refine tx ?_;refine lx ?_;refine bh ?_;cases h;exact jn (b:=()) hk25 (wkQ9 [])
 intro b1 hb1;have h:=h1;try rw [← hb1] at h
 clear h1;try dsimp only at h
 refine Q5 ?_;refine runQ hN fun K hK=>?_;simp [-Q0,-Q7,-Q1,-Q8,-Q2];repeat refine sdQ ?_
 refine hK _ ?_;clear hK K;refine tn ?_;refine Q9 (st':=⟨[(2,.val (.bool true))],[],0⟩) (wkQ9 []) ?_;refine Qi ?_;have hr:=Option.some.inj h;rw [← hr];refine ⟨_,(.tmp .nil),?_⟩;refine ⟨(.one rfl rfl .nil),[.val (.bool true)],[],by simp [Cat.cells,Mnd.cells,UA,U1,IA,I1,LA,L1,BA,B1,EA,E1,E2,eB,eI,eL],by simp,(UpL.refl _)⟩
attribute [local simp] eL eI Qo QH Q1N Q1v Q3d Cat.cells Fn.cells Mnd.cells Tra.cells
noncomputable def Q1p (m_:Mnd):Option Bool :=
 (
  (QR m_.f).bind fun v2 =>
  if ¬ (v2=true) then
   some true
  else
   (Q13 m_.f.s m_.f.t).bind fun v4 =>
   some (!v4):Option (Bool)).bind fun b1 =>
 if b1=true then
  some false
 else
  (Q2p m_.f.s).bind fun v6 =>
  (Q1y m_.f m_.f).bind fun v7 =>
  (
   (Q1P [(⟨v6,m_.f,m_.u⟩:Tra),(⟨v7,m_.f,m_.j⟩:Tra)]).bind fun v9 =>
   if v9=true then
    (Q1h m_).bind fun v11 =>
    some v11
   else
    some false:Option (Bool)).bind fun b8 =>
  some b8
theorem Q52 (m_:Mnd) (r:Bool) (h:Q1p m_=some r):Contract Tryz.prog 83 [.rptr (m_.cells true)] (.val (.bool r)):=by
 refine Qf (rvs:=[.tmp 2]) (rs:=[.val (.bool r)]) Tryz.func83 rfl rfl rfl rfl (by simp [Tryz.f83]) fun F hN hP=>?_;unfold Q1p at h;refine Q5 ?_;refine runQ hN fun K hK=>?_;simp [-Q0,-Q7,-Q1,-Q8,-Q2];repeat refine sdQ ?_
 refine hK _ ?_;clear hK K;refine tn ?_;refine Q9 (st':=⟨[(0,.rptr (Mnd.cells true m_))],[],0⟩) (wkQ9 []) ?_;refine Q5 ?_;refine Q5 ?_;replace h:=bind_some h;obtain ⟨e1,h,h1⟩:=h;refine Qj (fun b1:Bool=>⟨[(0,.rptr (Mnd.cells true m_)),(23,.val (.bool b1))],[],0⟩) (fun b1=>b1=e1) ?_ ?_
 ·refine runQ hN fun K hK=>?_;simp [-Q0,-Q7,-Q1,-Q8,-Q2];repeat with_reducible refine sdQ ?_
  replace h:=bind_some h;obtain ⟨v2,hv2,h⟩:=h;refine Q3 (Q2r _ v2 hv2) (.cons (.preT (by simp [Fn.cells,Mnd.cells])) .nil) ?_;simp [-Q0,-Q7,-Q1,-Q8,-Q2,unk,unA,unE,unT,unC,flat];repeat with_reducible refine sdQ ?_
  refine Qq (fun g=>?_) (fun g=>?_)
  ·have g3:¬ (¬ (v2=true)):=gQ;clear g;replace h:=if_r g3 h;simp [-Q0,-Q7,-Q1,-Q8,-Q2];(repeat with_reducible refine sdQ ?_);replace h:=bind_some h;obtain ⟨v4,hv4,h⟩:=h;refine Q3 (Q2w _ _ v4 hv4) (.cons (.preT (by simp [Cat.cells,Fn.cells,Mnd.cells])) (.cons (.preT (by simp [Cat.cells,Fn.cells,Mnd.cells])) .nil)) ?_;simp [-Q0,-Q7,-Q1,-Q8,-Q2,unk,unA,unE,unT,unC,flat];(repeat refine sdQ ?_);refine hK _ ?_;exact jn (b:=!v4) (Option.some.inj h) (wkQ9 [])
  have g3:¬ (v2=true):=gQ;clear g;replace h:=if_l g3 h;simp [-Q0,-Q7,-Q1,-Q8,-Q2];repeat refine sdQ ?_
  refine hK _ ?_;exact jn (b:=true) (Option.some.inj h) (wkQ9 [])
 intro b1 hb1;have h:=h1;try rw [← hb1] at h
 clear h1;try dsimp only at h
 refine Qd rfl (fun g=>?_) fun g=>?_
 ·have g5:b1=true:=gQ;clear g;replace h:=if_l g5 h;refine Q5 ?_;refine runQ hN fun K hK=>?_;simp [-Q0,-Q7,-Q1,-Q8,-Q2];repeat refine sdQ ?_
  refine hK _ ?_;clear hK K;refine tn ?_;refine Q9 (st':=⟨[(2,.val (.bool false))],[],0⟩) (wkQ9 []) ?_;refine Qi ?_;refine tr ?_;have hr:=Option.some.inj h;rw [← hr];refine ⟨_,(.tmp .nil),?_⟩;refine ⟨(.one rfl rfl .nil),[.val (.bool false)],[],by simp [Cat.cells,Fn.cells,Mnd.cells,Tra.cells,UA,U1,IA,I1,LA,L1,BA,B1,EA,E1,E2,eB,eI,eL],by simp,(UpL.refl _)⟩
 have g5:¬ (b1=true):=gQ;clear g;replace h:=if_r g5 h;refine Qe ?_;refine tn ?_;refine Q5 ?_;refine runQ hN fun K hK=>?_;simp [-Q0,-Q7,-Q1,-Q8,-Q2];repeat with_reducible refine sdQ ?_
 replace h:=bind_some h;obtain ⟨v6,hv6,h⟩:=h;refine Q3 (Q7J _ v6 hv6) (.cons (.preT (by simp [Cat.cells,Fn.cells,Mnd.cells])) .nil) ?_;simp [-Q0,-Q7,-Q1,-Q8,-Q2,unk,unA,unE,unT,unC,flat];repeat with_reducible refine sdQ ?_
 replace h:=bind_some h;obtain ⟨v7,hv7,h⟩:=h;refine Q3 (Q5s _ _ v7 hv7) (.cons (.preT (by simp [Cat.cells,Fn.cells,Mnd.cells])) (.cons (.preT (by simp [Cat.cells,Fn.cells,Mnd.cells])) .nil)) ?_;simp [-Q0,-Q7,-Q1,-Q8,-Q2,unk,unA,unE,unT,unC,flat];repeat refine sdQ ?_
 refine hK _ ?_;clear hK K;refine tn ?_;refine Q9 (st':=⟨[(0,.rptr (Mnd.cells true m_)),(3,.adr 0 0 0),(4,.adr 11 0 0)],[(0,.mix 12 [[iV v6.s.n,.own 1 0 v6.s.fr.length,.own 2 0 v6.s.to.length,.own 3 0 v6.s.id.length,.own 4 0 v6.s.cs.length,iV v6.t.n,.own 5 0 v6.t.fr.length,.own 6 0 v6.t.to.length,.own 7 0 v6.t.id.length,.own 8 0 v6.t.cs.length,.own 9 0 v6.ob.length,.own 10 0 v6.ar.length]]),(1,rI v6.s.fr),(2,rI v6.s.to),(3,rI v6.s.id),(4,.row 1 (Ls v6.s.cs)),(5,rI v6.t.fr),(6,rI v6.t.to),(7,rI v6.t.id),(8,.row 1 (Ls v6.t.cs)),(9,rI v6.ob),(10,rI v6.ar),(11,.mix 12 [[iV v7.s.n,.own 12 0 v7.s.fr.length,.own 13 0 v7.s.to.length,.own 14 0 v7.s.id.length,.own 15 0 v7.s.cs.length,iV v7.t.n,.own 16 0 v7.t.fr.length,.own 17 0 v7.t.to.length,.own 18 0 v7.t.id.length,.own 19 0 v7.t.cs.length,.own 20 0 v7.ob.length,.own 21 0 v7.ar.length]]),(12,rI v7.s.fr),(13,rI v7.s.to),(14,rI v7.s.id),(15,.row 1 (Ls v7.s.cs)),(16,rI v7.t.fr),(17,rI v7.t.to),(18,rI v7.t.id),(19,.row 1 (Ls v7.t.cs)),(20,rI v7.ob),(21,rI v7.ar)],22⟩) (wkQ9 [(24,0),(1,1),(2,2),(3,3),(4,4),(6,5),(7,6),(8,7),(9,8),(10,9),(11,10),(25,11),(13,12),(14,13),(15,14),(16,15),(18,16),(19,17),(20,18),(21,19),(22,20),(23,21)]) ?_;refine Q5 ?_;refine runQ hN fun K hK=>?_;simp [-Q0,-Q7,-Q1,-Q8,-Q2];repeat refine sdQ ?_
 refine hK _ ?_;clear hK K;refine tn ?_;refine Q9 (st':=⟨[(0,.rptr (Mnd.cells true m_)),(4,.adr 0 0 0),(5,.adr 11 0 0)],[(0,.mix 12 [[iV v7.s.n,.own 1 0 v7.s.fr.length,.own 2 0 v7.s.to.length,.own 3 0 v7.s.id.length,.own 4 0 v7.s.cs.length,iV v7.t.n,.own 5 0 v7.t.fr.length,.own 6 0 v7.t.to.length,.own 7 0 v7.t.id.length,.own 8 0 v7.t.cs.length,.own 9 0 v7.ob.length,.own 10 0 v7.ar.length]]),(1,rI v7.s.fr),(2,rI v7.s.to),(3,rI v7.s.id),(4,.row 1 (Ls v7.s.cs)),(5,rI v7.t.fr),(6,rI v7.t.to),(7,rI v7.t.id),(8,.row 1 (Ls v7.t.cs)),(9,rI v7.ob),(10,rI v7.ar),(11,.mix 25 [[iV v6.s.n,.own 12 0 v6.s.fr.length,.own 13 0 v6.s.to.length,.own 14 0 v6.s.id.length,.own 15 0 v6.s.cs.length,iV v6.t.n,.own 16 0 v6.t.fr.length,.own 17 0 v6.t.to.length,.own 18 0 v6.t.id.length,.own 19 0 v6.t.cs.length,.own 20 0 v6.ob.length,.own 21 0 v6.ar.length,iV m_.f.s.n,lI m_.f.s.fr,lI m_.f.s.to,lI m_.f.s.id,.lst true 1 (Ls m_.f.s.cs),iV m_.f.t.n,lI m_.f.t.fr,lI m_.f.t.to,lI m_.f.t.id,.lst true 1 (Ls m_.f.t.cs),lI m_.f.ob,lI m_.f.ar,lI m_.u]]),(12,rI v6.s.fr),(13,rI v6.s.to),(14,rI v6.s.id),(15,.row 1 (Ls v6.s.cs)),(16,rI v6.t.fr),(17,rI v6.t.to),(18,rI v6.t.id),(19,.row 1 (Ls v6.t.cs)),(20,rI v6.ob),(21,rI v6.ar)],22⟩) (wkQ9 [(11,0),(12,1),(13,2),(14,3),(15,4),(16,5),(17,6),(18,7),(19,8),(20,9),(21,10),(22,11),(1,12),(2,13),(3,14),(4,15),(5,16),(6,17),(7,18),(8,19),(9,20),(10,21)]) ?_;refine Q5 ?_;refine runQ hN fun K hK=>?_;simp [-Q0,-Q7,-Q1,-Q8,-Q2];repeat refine sdQ ?_
 refine hK _ ?_;clear hK K;refine tn ?_;refine Q9 (st':=⟨[(0,.rptr (Mnd.cells true m_)),(5,.adr 0 0 0),(6,.adr 11 0 0)],[(0,.mix 25 [[iV v6.s.n,.own 1 0 v6.s.fr.length,.own 2 0 v6.s.to.length,.own 3 0 v6.s.id.length,.own 4 0 v6.s.cs.length,iV v6.t.n,.own 5 0 v6.t.fr.length,.own 6 0 v6.t.to.length,.own 7 0 v6.t.id.length,.own 8 0 v6.t.cs.length,.own 9 0 v6.ob.length,.own 10 0 v6.ar.length,iV m_.f.s.n,lI m_.f.s.fr,lI m_.f.s.to,lI m_.f.s.id,.lst true 1 (Ls m_.f.s.cs),iV m_.f.t.n,lI m_.f.t.fr,lI m_.f.t.to,lI m_.f.t.id,.lst true 1 (Ls m_.f.t.cs),lI m_.f.ob,lI m_.f.ar,lI m_.u]]),(1,rI v6.s.fr),(2,rI v6.s.to),(3,rI v6.s.id),(4,.row 1 (Ls v6.s.cs)),(5,rI v6.t.fr),(6,rI v6.t.to),(7,rI v6.t.id),(8,.row 1 (Ls v6.t.cs)),(9,rI v6.ob),(10,rI v6.ar),(11,.mix 25 [[iV v7.s.n,.own 12 0 v7.s.fr.length,.own 13 0 v7.s.to.length,.own 14 0 v7.s.id.length,.own 15 0 v7.s.cs.length,iV v7.t.n,.own 16 0 v7.t.fr.length,.own 17 0 v7.t.to.length,.own 18 0 v7.t.id.length,.own 19 0 v7.t.cs.length,.own 20 0 v7.ob.length,.own 21 0 v7.ar.length,iV m_.f.s.n,lI m_.f.s.fr,lI m_.f.s.to,lI m_.f.s.id,.lst true 1 (Ls m_.f.s.cs),iV m_.f.t.n,lI m_.f.t.fr,lI m_.f.t.to,lI m_.f.t.id,.lst true 1 (Ls m_.f.t.cs),lI m_.f.ob,lI m_.f.ar,lI m_.j]]),(12,rI v7.s.fr),(13,rI v7.s.to),(14,rI v7.s.id),(15,.row 1 (Ls v7.s.cs)),(16,rI v7.t.fr),(17,rI v7.t.to),(18,rI v7.t.id),(19,.row 1 (Ls v7.t.cs)),(20,rI v7.ob),(21,rI v7.ar)],22⟩) (wkQ9 [(11,0),(12,1),(13,2),(14,3),(15,4),(16,5),(17,6),(18,7),(19,8),(20,9),(21,10),(22,11),(1,12),(2,13),(3,14),(4,15),(5,16),(6,17),(7,18),(8,19),(9,20),(10,21)]) ?_;refine Q5 ?_;replace h:=bind_some h;obtain ⟨e8,h,h8⟩:=h;refine Qj (fun b8:Bool=>⟨[(2,.val (.bool b8))],[],0⟩) (fun b8=>b8=e8) ?_ ?_
 ·refine runQ hN fun K hK=>?_;simp [-Q0,-Q7,-Q1,-Q8,-Q2];repeat with_reducible refine sdQ ?_
  replace h:=bind_some h;obtain ⟨v9,hv9,h⟩:=h;refine Q3 (Q6b _ v9 hv9) (.cons (.lits (es:=_) rfl (.cons rfl (.cons (.field rfl (by simp [Cat.cells,Fn.cells,Mnd.cells,Tra.cells]) (.cons .val (.cons (.whole (by simp) (by simp) (by simp)) (.cons (.whole (by simp) (by simp) (by simp)) (.cons (.whole (by simp) (by simp) (by simp)) (.cons (.whole (by simp) (by simp) (by simp)) (.cons .val (.cons (.whole (by simp) (by simp) (by simp)) (.cons (.whole (by simp) (by simp) (by simp)) (.cons (.whole (by simp) (by simp) (by simp)) (.cons (.whole (by simp) (by simp) (by simp)) (.cons (.whole (by simp) (by simp) (by simp)) (.cons (.whole (by simp) (by simp) (by simp)) (.cons .val (.cons .lst (.cons .lst (.cons .lst (.cons .lst (.cons .val (.cons .lst (.cons .lst (.cons .lst (.cons .lst (.cons .lst (.cons .lst (.cons .lst .nil)))))))))))))))))))))))))) .nil) (.cons rfl (.cons (.field rfl (by simp [Cat.cells,Fn.cells,Mnd.cells,Tra.cells]) (.cons .val (.cons (.whole (by simp) (by simp) (by simp)) (.cons (.whole (by simp) (by simp) (by simp)) (.cons (.whole (by simp) (by simp) (by simp)) (.cons (.whole (by simp) (by simp) (by simp)) (.cons .val (.cons (.whole (by simp) (by simp) (by simp)) (.cons (.whole (by simp) (by simp) (by simp)) (.cons (.whole (by simp) (by simp) (by simp)) (.cons (.whole (by simp) (by simp) (by simp)) (.cons (.whole (by simp) (by simp) (by simp)) (.cons (.whole (by simp) (by simp) (by simp)) (.cons .val (.cons .lst (.cons .lst (.cons .lst (.cons .lst (.cons .val (.cons .lst (.cons .lst (.cons .lst (.cons .lst (.cons .lst (.cons .lst (.cons .lst .nil)))))))))))))))))))))))))) .nil) .nil)) rfl) .nil) ?_;simp [-Q0,-Q7,-Q1,-Q8,-Q2,unk,unA,unE,unT,unC,flat];repeat with_reducible refine sdQ ?_
  refine Qq (fun g=>?_) (fun g=>?_)
  ·have g10:v9=true:=gQ;clear g;replace h:=if_l g10 h;simp [-Q0,-Q7,-Q1,-Q8,-Q2];(repeat with_reducible refine sdQ ?_);replace h:=bind_some h;obtain ⟨v11,hv11,h⟩:=h;refine Q3 (Q4R _ v11 hv11) (.cons (.preT (by simp [Cat.cells,Fn.cells,Mnd.cells,Tra.cells])) .nil) ?_;simp [-Q0,-Q7,-Q1,-Q8,-Q2,unk,unA,unE,unT,unC,flat];(repeat refine sdQ ?_);refine hK _ ?_;exact jn (b:=v11) (Option.some.inj h) (wkQ9 [])
  have g10:¬ (v9=true):=gQ;clear g;replace h:=if_r g10 h;simp [-Q0,-Q7,-Q1,-Q8,-Q2];repeat refine sdQ ?_
  refine hK _ ?_;exact jn (b:=false) (Option.some.inj h) (wkQ9 [])
 intro b8 hb8;have h:=h8;try rw [← hb8] at h
 clear h8;try dsimp only at h
 refine Qi ?_;have hr:=Option.some.inj h;rw [← hr];refine ⟨_,(.tmp .nil),?_⟩;refine ⟨(.one rfl rfl .nil),[.val (.bool b8)],[],by simp [Cat.cells,Fn.cells,Mnd.cells,Tra.cells,UA,U1,IA,I1,LA,L1,BA,B1,EA,E1,E2,eB,eI,eL],by simp,(UpL.refl _)⟩
attribute [local simp] eL eI Qo QH Q1N Cat.cells Fn.cells
noncomputable def Q2S (t_:Fn) (unit_:List Int) (join_:List Int):Option Bool :=
 (QE (σ:=Int) (ε:=Unit ⊕ Bool) (fun s25 =>
  if s25<t_.s.n then
   ass (0≤s25∧s25<(t_.ob.length:Int)) <|
   (
    ass (0≤s25∧s25<(unit_.length:Int)) <|
    ass (0≤ix unit_ s25∧ix unit_ s25<(t_.ar.length:Int)) <|
    ass (0≤s25∧s25<(join_.length:Int)) <|
    (QF t_.s (ix t_.ar (ix unit_ s25)) (ix join_ s25)).bind fun v32 =>
    (Q1J t_.s v32).bind fun v33 =>
    if ¬ (v33=true) then
     some true
    else
     ass (0≤ix t_.ob s25∧ix t_.ob s25<(unit_.length:Int)) <|
     ass (0≤s25∧s25<(join_.length:Int)) <|
     (QF t_.s (ix unit_ (ix t_.ob s25)) (ix join_ s25)).bind fun v37 =>
     (Q1J t_.s v37).bind fun v38 =>
     some (!v38):Option (Bool)).bind fun b28 =>
   if b28=true then
    some (Ctl.ret (Sum.inr false))
   else
    ass (0≤s25∧s25<(join_.length:Int)) <|
    ass (0≤ix join_ s25∧ix join_ s25<(t_.ar.length:Int)) <|
    ass (0≤s25∧s25<(join_.length:Int)) <|
    (QF t_.s (ix t_.ar (ix join_ s25)) (ix join_ s25)).bind fun v43 =>
    ass (0≤ix t_.ob s25∧ix t_.ob s25<(join_.length:Int)) <|
    ass (0≤s25∧s25<(join_.length:Int)) <|
    (QF t_.s (ix join_ (ix t_.ob s25)) (ix join_ s25)).bind fun v46 =>
    if ¬ (v43=v46) then
     some (Ctl.ret (Sum.inr false))
    else
     ass (B64 (s25+1)) <|
     some (Ctl.next (s25+1))
  else
   some (Ctl.ret (Sum.inl ()))) fuel 0).bind fun e1 =>
 match e1 with
 | .inl b1 =>
  some true
 | .inr p1 =>
  some p1
theorem Q8v (t_:Fn) (unit_:List Int) (join_:List Int) (r:Bool) (h:Q2S t_ unit_ join_=some r):Contract Tryz.prog 108 [.agg (t_.cells true),lI unit_,lI join_] (.val (.bool r)):=by
 refine Qf (rvs:=[.tmp 6]) (rs:=[.val (.bool r)]) Tryz.func108 rfl rfl rfl rfl (by simp [Tryz.f108]) fun F hN hP=>?_;unfold Q2S at h;refine Q5 ?_;refine runQ hN fun K hK=>?_;simp [-Q0,-Q7,-Q1,-Q8,-Q2];repeat refine sdQ ?_
 refine hK _ ?_;clear hK K;refine tn ?_;refine Q9 (st':=⟨[(1,lI unit_),(2,lI join_),(3,.adr 0 0 0)],[(0,.mix 12 [(Fn.cells true t_)])],1⟩) (wkQ9 [(0,0)]) ?_;refine Q5 ?_;refine runQ hN fun K hK=>?_;simp [-Q0,-Q7,-Q1,-Q8,-Q2];repeat refine sdQ ?_
 refine hK _ ?_;clear hK K;refine tn ?_;refine Q9 (st':=⟨[(1,lI unit_),(2,lI join_),(3,.adr 0 0 0),(7,.adr 1 0 0)],[(0,.mix 12 [(Fn.cells true t_)]),(1,.mix 5 [(Cat.cells true t_.s)])],2⟩) (wkQ9 [(0,0),(1,1)]) ?_;refine Q5 ?_;refine Q5 ?_;refine runQ hN fun K hK=>?_;simp [-Q0,-Q7,-Q1,-Q8,-Q2];repeat refine sdQ ?_
 refine hK _ ?_;clear hK K;refine tn ?_;refine Q9 (st':=⟨[(1,lI unit_),(2,lI join_),(3,.adr 0 0 0),(7,.adr 1 0 0),(8,iV 0)],[(0,.mix 12 [(Fn.cells true t_)]),(1,.mix 5 [(Cat.cells true t_.s)])],2⟩) (wkQ9 [(0,0),(1,1)]) ?_;replace h:=bind_some h;obtain ⟨e1,h,h1⟩:=h;refine Qj (fun b1:Unit=>⟨[],[],0⟩) (fun b1=>Sum.inl b1=e1) ?_ ?_
 ·refine Qc ?_;refine Qz h (fun s25:Int=>⟨[(1,lI unit_),(2,lI join_),(3,.adr 0 0 0),(7,.adr 1 0 0),(8,iV s25)],[(0,.mix 12 [(Fn.cells true t_)]),(1,.mix 5 [(Cat.cells true t_.s)])],2⟩) (wkQ9 [(0,0),(1,1)]) ?_;clear h;intro k25 s25 c25 h hk25;refine Q5 ?_;refine Q5 ?_;refine runQ hN fun K hK=>?_;simp [-Q0,-Q7,-Q1,-Q8,-Q2];repeat refine sdQ ?_
  refine hK _ ?_;clear hK K;refine tn ?_;refine Q9 (st':=⟨[(1,lI unit_),(2,lI join_),(3,.adr 0 0 0),(7,.adr 1 0 0),(8,iV s25),(15,.val (.bool (decide (s25<t_.s.n))))],[(0,.mix 12 [(Fn.cells true t_)]),(1,.mix 5 [(Cat.cells true t_.s)])],2⟩) (wkQ9 [(0,0),(1,1)]) ?_;refine Qd rfl (fun g=>?_) fun g=>?_
  ·have g26:s25<t_.s.n:=gQ;clear g;replace h:=if_l g26 h;refine Qe ?_;refine tn ?_;refine Q5 ?_;refine Qc ?_;refine Q5 ?_;refine runQ hN fun K hK=>?_;replace h:=Q6 h;obtain ⟨a27,h⟩:=h;simp [-Q0,-Q7,-Q1,-Q8,-Q2,at_I a27];(repeat refine sdQ ?_);refine hK _ ?_;clear hK K;refine tn ?_;refine Q9 (st':=⟨[(1,lI unit_),(2,lI join_),(3,.adr 0 0 0),(7,.adr 1 0 0),(8,iV s25),(9,iV (ix t_.ob s25))],[(0,.mix 12 [(Fn.cells true t_)]),(1,.mix 5 [(Cat.cells true t_.s)])],2⟩) (wkQ9 [(0,0),(1,1)]) ?_;refine Q5 ?_;refine Q5 ?_;replace h:=bind_some h;obtain ⟨e28,h,h28⟩:=h;refine Qj (fun b28:Bool=>⟨[(1,lI unit_),(2,lI join_),(3,.adr 0 0 0),(7,.adr 1 0 0),(8,iV s25),(9,iV (ix t_.ob s25)),(54,.val (.bool b28))],[(0,.mix 12 [(Fn.cells true t_)]),(1,.mix 5 [(Cat.cells true t_.s)])],2⟩) (fun b28=>b28=e28) ?_ ?_
   ·refine runQ hN fun K hK=>?_;replace h:=Q6 h;obtain ⟨a29,h⟩:=h;replace h:=Q6 h;obtain ⟨a30,h⟩:=h;replace h:=Q6 h;obtain ⟨a31,h⟩:=h;simp [-Q0,-Q7,-Q1,-Q8,-Q2,at_I a29,at_I a30,at_I a31];(repeat with_reducible refine sdQ ?_);replace h:=bind_some h;obtain ⟨v32,hv32,h⟩:=h;refine Q3 (Q14 _ _ _ v32 hv32) (.cons (.aggL (.cons .val (.cons .lst (.cons .lst (.cons .lst (.cons .lst .nil)))))) (.cons .val (.cons .val .nil))) ?_;simp [-Q0,-Q7,-Q1,-Q8,-Q2,unk,unA,unE,unT,unC,flat,at_I a29,at_I a30,at_I a31];(repeat with_reducible refine sdQ ?_);replace h:=bind_some h;obtain ⟨v33,hv33,h⟩:=h;refine Q3 (Q4x _ _ v33 hv33) (.cons (.aggL (.cons .val (.cons .lst (.cons .lst (.cons .lst (.cons .lst .nil)))))) (.cons .val .nil)) ?_;simp [-Q0,-Q7,-Q1,-Q8,-Q2,unk,unA,unE,unT,unC,flat,at_I a29,at_I a30,at_I a31];(repeat with_reducible refine sdQ ?_);refine Qq (fun g=>?_) (fun g=>?_)
    ·have g34:¬ (¬ (v33=true)):=gQ;clear g;replace h:=if_r g34 h;replace h:=Q6 h;obtain ⟨a35,h⟩:=h;replace h:=Q6 h;obtain ⟨a36,h⟩:=h;simp [-Q0,-Q7,-Q1,-Q8,-Q2,at_I a29,at_I a30,at_I a31,at_I a35,at_I a36];(repeat with_reducible refine sdQ ?_);replace h:=bind_some h;obtain ⟨v37,hv37,h⟩:=h;refine Q3 (Q14 _ _ _ v37 hv37) (.cons (.aggL (.cons .val (.cons .lst (.cons .lst (.cons .lst (.cons .lst .nil)))))) (.cons .val (.cons .val .nil))) ?_;simp [-Q0,-Q7,-Q1,-Q8,-Q2,unk,unA,unE,unT,unC,flat,at_I a29,at_I a30,at_I a31,at_I a35,at_I a36];(repeat with_reducible refine sdQ ?_);replace h:=bind_some h;obtain ⟨v38,hv38,h⟩:=h;refine Q3 (Q4x _ _ v38 hv38) (.cons (.aggL (.cons .val (.cons .lst (.cons .lst (.cons .lst (.cons .lst .nil)))))) (.cons .val .nil)) ?_;simp [-Q0,-Q7,-Q1,-Q8,-Q2,unk,unA,unE,unT,unC,flat,at_I a29,at_I a30,at_I a31,at_I a35,at_I a36];(repeat refine sdQ ?_);refine hK _ ?_;exact jn (b:=!v38) (Option.some.inj h) (wkQ9 [(0,0),(1,1)])
    have g34:¬ (v33=true):=gQ;clear g;replace h:=if_l g34 h;simp [-Q0,-Q7,-Q1,-Q8,-Q2,at_I a29,at_I a30,at_I a31];(repeat refine sdQ ?_);refine hK _ ?_;exact jn (b:=true) (Option.some.inj h) (wkQ9 [(0,0),(1,1)])
   intro b28 hb28;have h:=h28;(try rw [← hb28] at h);clear h28;(try dsimp only at h);refine Qd rfl (fun g=>?_) fun g=>?_
   ·have g39:b28=true:=gQ;clear g;replace h:=if_l g39 h;refine Q5 ?_;refine runQ hN fun K hK=>?_;simp [-Q0,-Q7,-Q1,-Q8,-Q2];(repeat refine sdQ ?_);refine hK _ ?_;clear hK K;refine tn ?_;refine Q9 (st':=⟨[(6,.val (.bool false))],[],0⟩) (wkQ9 []) ?_;refine Qi ?_;refine tr ?_;refine br ?_;refine tr ?_;refine lr ?_;refine br ?_;refine tr ?_;cases h;have q:_=e1:=hk25;have h:=h1;rw [← q] at h;clear q;(try dsimp only at h);have hr:=Option.some.inj h;rw [← hr];refine ⟨_,(.tmp .nil),?_⟩;refine ⟨(.one rfl rfl .nil),[.val (.bool false)],[],by simp [Cat.cells,Fn.cells,UA,U1,IA,I1,LA,L1,BA,B1,EA,E1,E2,eB,eI,eL],by simp,(UpL.refl _)⟩
   have g39:¬ (b28=true):=gQ;clear g;replace h:=if_r g39 h;refine Qe ?_;refine tn ?_;refine Q5 ?_;refine runQ hN fun K hK=>?_;replace h:=Q6 h;obtain ⟨a40,h⟩:=h;replace h:=Q6 h;obtain ⟨a41,h⟩:=h;replace h:=Q6 h;obtain ⟨a42,h⟩:=h;simp [-Q0,-Q7,-Q1,-Q8,-Q2,at_I a40,at_I a41,at_I a42];(repeat with_reducible refine sdQ ?_);replace h:=bind_some h;obtain ⟨v43,hv43,h⟩:=h;refine Q3 (Q14 _ _ _ v43 hv43) (.cons (.aggL (.cons .val (.cons .lst (.cons .lst (.cons .lst (.cons .lst .nil)))))) (.cons .val (.cons .val .nil))) ?_;replace h:=Q6 h;obtain ⟨a44,h⟩:=h;replace h:=Q6 h;obtain ⟨a45,h⟩:=h;simp [-Q0,-Q7,-Q1,-Q8,-Q2,unk,unA,unE,unT,unC,flat,at_I a40,at_I a41,at_I a42,at_I a44,at_I a45];(repeat with_reducible refine sdQ ?_);replace h:=bind_some h;obtain ⟨v46,hv46,h⟩:=h;refine Q3 (Q14 _ _ _ v46 hv46) (.cons (.aggL (.cons .val (.cons .lst (.cons .lst (.cons .lst (.cons .lst .nil)))))) (.cons .val (.cons .val .nil))) ?_;simp [-Q0,-Q7,-Q1,-Q8,-Q2,unk,unA,unE,unT,unC,flat,at_I a40,at_I a41,at_I a42,at_I a44,at_I a45];(repeat refine sdQ ?_);refine hK _ ?_;clear hK K;refine tn ?_;refine Q9 (st':=⟨[(1,lI unit_),(2,lI join_),(3,.adr 0 0 0),(7,.adr 1 0 0),(8,iV s25),(79,.val (.bool (v43 != v46)))],[(0,.mix 12 [(Fn.cells true t_)]),(1,.mix 5 [(Cat.cells true t_.s)])],2⟩) (wkQ9 [(0,0),(1,1)]) ?_;refine Qd rfl (fun g=>?_) fun g=>?_
   ·have g47:¬ (v43=v46):=gQ;clear g;replace h:=if_l g47 h;refine Q5 ?_;refine runQ hN fun K hK=>?_;simp [-Q0,-Q7,-Q1,-Q8,-Q2];(repeat refine sdQ ?_);refine hK _ ?_;clear hK K;refine tn ?_;refine Q9 (st':=⟨[(6,.val (.bool false))],[],0⟩) (wkQ9 []) ?_;refine Qi ?_;refine br ?_;refine tr ?_;refine lr ?_;refine br ?_;refine tr ?_;cases h;have q:_=e1:=hk25;have h:=h1;rw [← q] at h;clear q;(try dsimp only at h);have hr:=Option.some.inj h;rw [← hr];refine ⟨_,(.tmp .nil),?_⟩;refine ⟨(.one rfl rfl .nil),[.val (.bool false)],[],by simp [Cat.cells,Fn.cells,UA,U1,IA,I1,LA,L1,BA,B1,EA,E1,E2,eB,eI,eL],by simp,(UpL.refl _)⟩
   have g47:¬ (¬ (v43=v46)):=gQ;clear g;replace h:=if_r g47 h;refine Qe ?_;refine bn ?_;refine tn ?_;refine runQ hN fun K hK=>?_;replace h:=Q6 h;obtain ⟨a48,h⟩:=h;simp [-Q0,-Q7,-Q1,-Q8,-Q2,Qu a48];(repeat refine sdQ ?_);refine hK _ ?_;clear hK K;cases h;exact rn (s':=s25+1) hk25 (wkQ9 [(0,0),(1,1)])
  have g26:¬ (s25<t_.s.n):=gQ;clear g;replace h:=if_r g26 h;refine Qp ?_;refine tx ?_;refine lx ?_;refine bh ?_;cases h;exact jn (b:=()) hk25 (wkQ9 [])
 intro b1 hb1;have h:=h1;try rw [← hb1] at h
 clear h1;try dsimp only at h
 refine Q5 ?_;refine runQ hN fun K hK=>?_;simp [-Q0,-Q7,-Q1,-Q8,-Q2];repeat refine sdQ ?_
 refine hK _ ?_;clear hK K;refine tn ?_;refine Q9 (st':=⟨[(6,.val (.bool true))],[],0⟩) (wkQ9 []) ?_;refine Qi ?_;have hr:=Option.some.inj h;rw [← hr];refine ⟨_,(.tmp .nil),?_⟩;refine ⟨(.one rfl rfl .nil),[.val (.bool true)],[],by simp [Cat.cells,Fn.cells,UA,U1,IA,I1,LA,L1,BA,B1,EA,E1,E2,eB,eI,eL],by simp,(UpL.refl _)⟩
attribute [local simp] eL eI Qo Q1N Fn.cells
noncomputable def Q34 (f_:Fn):Option Fn :=
 (Q2R f_ f_).bind fun v1 =>
 some v1
theorem Q7L (f_:Fn) (r:Fn) (h:Q34 f_=some r):Contract Tryz.prog 107 [.agg (f_.cells true)] (.agg (r.cells true)):=by
 refine Qf (rvs:=[.cell 2 33]) (rs:=[.agg (r.cells true)]) Tryz.func107 rfl rfl rfl rfl (by simp [Tryz.f107]) fun F hN hP=>?_;unfold Q34 at h;refine Q5 ?_;refine runQ hN fun K hK=>?_;simp [-Q0,-Q7,-Q1,-Q8,-Q2];repeat refine sdQ ?_
 refine hK _ ?_;clear hK K;refine tn ?_;refine Q9 (st':=⟨[(1,.adr 0 0 0),(2,.adr 1 0 0)],[(0,.mix 12 [(Fn.cells true f_)]),(1,.mix 12 [[iV 0,.val (.slice none 0 0),.val (.slice none 0 0),.val (.slice none 0 0),.val (.slice none 0 0),iV 0,.val (.slice none 0 0),.val (.slice none 0 0),.val (.slice none 0 0),.val (.slice none 0 0),.val (.slice none 0 0),.val (.slice none 0 0)]])],2⟩) (wkQ9 [(0,0),(1,1)]) ?_;refine Q5 ?_;refine runQ hN fun K hK=>?_;simp [-Q0,-Q7,-Q1,-Q8,-Q2];repeat with_reducible refine sdQ ?_
 replace h:=bind_some h;obtain ⟨v1,hv1,h⟩:=h;refine Q3 (Q8u _ _ v1 hv1) (.cons (.aggL (.cons .val (.cons .lst (.cons .lst (.cons .lst (.cons .lst (.cons .val (.cons .lst (.cons .lst (.cons .lst (.cons .lst (.cons .lst (.cons .lst .nil))))))))))))) (.cons (.aggL (.cons .val (.cons .lst (.cons .lst (.cons .lst (.cons .lst (.cons .val (.cons .lst (.cons .lst (.cons .lst (.cons .lst (.cons .lst (.cons .lst .nil))))))))))))) .nil)) ?_;simp [-Q0,-Q7,-Q1,-Q8,-Q2,unk,unA,unE,unT,unC,flat];repeat refine sdQ ?_
 refine hK _ ?_;clear hK K;refine tn ?_;refine Q9 (st':=⟨[(2,.adr 0 0 0)],[(0,.mix 12 [[iV v1.s.n,.own 1 0 v1.s.fr.length,.own 2 0 v1.s.to.length,.own 3 0 v1.s.id.length,.own 4 0 v1.s.cs.length,iV v1.t.n,.own 5 0 v1.t.fr.length,.own 6 0 v1.t.to.length,.own 7 0 v1.t.id.length,.own 8 0 v1.t.cs.length,.own 9 0 v1.ob.length,.own 10 0 v1.ar.length]]),(1,rI v1.s.fr),(2,rI v1.s.to),(3,rI v1.s.id),(4,.row 1 (Ls v1.s.cs)),(5,rI v1.t.fr),(6,rI v1.t.to),(7,rI v1.t.id),(8,.row 1 (Ls v1.t.cs)),(9,rI v1.ob),(10,rI v1.ar)],11⟩) (wkQ9 [(1,0),(3,1),(4,2),(5,3),(6,4),(8,5),(9,6),(10,7),(11,8),(12,9),(13,10)]) ?_;refine Qi ?_;have hr:=Option.some.inj h;rw [← hr];refine ⟨_,(.cell Q68 rfl rfl rfl (by simp) (by simp) .nil),?_⟩;refine ⟨(.agg rfl .nil),[iV v1.s.n,lI v1.s.fr,lI v1.s.to,lI v1.s.id,.lst true 1 (Ls v1.s.cs),iV v1.t.n,lI v1.t.fr,lI v1.t.to,lI v1.t.id,.lst true 1 (Ls v1.t.cs),lI v1.ob,lI v1.ar],[1,2,3,4,5,6,7,8,9,10],by simp [Fn.cells,UA,U1,IA,I1,LA,L1,BA,B1,EA,E1,E2,eB,eI,eL],by simp,(UpL.refl _)⟩
attribute [local simp] eL eI Qo QH Q1N Q1v Cat.cells Fn.cells Mnd.cells
noncomputable def Q3U (m_:Mnd):Option Bool :=
 (
  (Q3T m_.f).bind fun v2 =>
  if ¬ (v2=true) then
   some true
  else
   (Q3x m_.f.s m_.f.t).bind fun v4 =>
   some (!v4):Option (Bool)).bind fun b1 =>
 if b1=true then
  some false
 else
  (
   (Q2Q m_.f.s).bind fun v7 =>
   (Q1E v7 m_.f m_.u).bind fun v8 =>
   if ¬ (v8=true) then
    some true
   else
    (Q34 m_.f).bind fun v10 =>
    (Q1E v10 m_.f m_.j).bind fun v11 =>
    some (!v11):Option (Bool)).bind fun b6 =>
  if b6=true then
   some false
  else
   (Q2S m_.f m_.u m_.j).bind fun v13 =>
   some v13
theorem w_s_l16Is (m_:Mnd) (r:Bool) (h:Q3U m_=some r):Contract Tryz.prog 77 [.agg (m_.cells true)] (.val (.bool r)):=by
 refine Qf (rvs:=[.tmp 2]) (rs:=[.val (.bool r)]) Tryz.func77 rfl rfl rfl rfl (by simp [Tryz.f77]) fun F hN hP=>?_;unfold Q3U at h;refine Q5 ?_;refine runQ hN fun K hK=>?_;simp [-Q0,-Q7,-Q1,-Q8,-Q2];repeat refine sdQ ?_
 refine hK _ ?_;clear hK K;refine tn ?_;refine Q9 (st':=⟨[(1,.adr 0 0 0)],[(0,.mix 14 [(Mnd.cells true m_)])],1⟩) (wkQ9 [(0,0)]) ?_;refine Q5 ?_;refine runQ hN fun K hK=>?_;simp [-Q0,-Q7,-Q1,-Q8,-Q2];repeat refine sdQ ?_
 refine hK _ ?_;clear hK K;refine tn ?_;refine Q9 (st':=⟨[(1,.adr 0 0 0),(3,.adr 1 0 0)],[(0,.mix 14 [(Mnd.cells true m_)]),(1,.mix 12 [(Fn.cells true m_.f)])],2⟩) (wkQ9 [(0,0),(1,1)]) ?_;refine Q5 ?_;refine Q5 ?_;replace h:=bind_some h;obtain ⟨e1,h,h1⟩:=h;refine Qj (fun b1:Bool=>⟨[(1,.adr 0 0 0),(3,.adr 1 0 0),(16,.val (.bool b1))],[(0,.mix 14 [(Mnd.cells true m_)]),(1,.mix 12 [(Fn.cells true m_.f)])],2⟩) (fun b1=>b1=e1) ?_ ?_
 ·refine runQ hN fun K hK=>?_;simp [-Q0,-Q7,-Q1,-Q8,-Q2];repeat with_reducible refine sdQ ?_
  replace h:=bind_some h;obtain ⟨v2,hv2,h⟩:=h;refine Q3 (w_s_l06Is _ v2 hv2) (.cons (.aggL (.cons .val (.cons .lst (.cons .lst (.cons .lst (.cons .lst (.cons .val (.cons .lst (.cons .lst (.cons .lst (.cons .lst (.cons .lst (.cons .lst .nil))))))))))))) .nil) ?_;simp [-Q0,-Q7,-Q1,-Q8,-Q2,unk,unA,unE,unT,unC,flat];repeat with_reducible refine sdQ ?_
  refine Qq (fun g=>?_) (fun g=>?_)
  ·have g3:¬ (¬ (v2=true)):=gQ;clear g;replace h:=if_r g3 h;simp [-Q0,-Q7,-Q1,-Q8,-Q2];(repeat with_reducible refine sdQ ?_);replace h:=bind_some h;obtain ⟨v4,hv4,h⟩:=h;refine Q3 (Q8s _ _ v4 hv4) (.cons (.aggL (.cons .val (.cons .lst (.cons .lst (.cons .lst (.cons .lst .nil)))))) (.cons (.aggL (.cons .val (.cons .lst (.cons .lst (.cons .lst (.cons .lst .nil)))))) .nil)) ?_;simp [-Q0,-Q7,-Q1,-Q8,-Q2,unk,unA,unE,unT,unC,flat];(repeat refine sdQ ?_);refine hK _ ?_;exact jn (b:=!v4) (Option.some.inj h) (wkQ9 [(0,0),(1,1)])
  have g3:¬ (v2=true):=gQ;clear g;replace h:=if_l g3 h;simp [-Q0,-Q7,-Q1,-Q8,-Q2];repeat refine sdQ ?_
  refine hK _ ?_;exact jn (b:=true) (Option.some.inj h) (wkQ9 [(0,0),(1,1)])
 intro b1 hb1;have h:=h1;try rw [← hb1] at h
 clear h1;try dsimp only at h
 refine Qd rfl (fun g=>?_) fun g=>?_
 ·have g5:b1=true:=gQ;clear g;replace h:=if_l g5 h;refine Q5 ?_;refine runQ hN fun K hK=>?_;simp [-Q0,-Q7,-Q1,-Q8,-Q2];repeat refine sdQ ?_
  refine hK _ ?_;clear hK K;refine tn ?_;refine Q9 (st':=⟨[(2,.val (.bool false))],[],0⟩) (wkQ9 []) ?_;refine Qi ?_;refine tr ?_;have hr:=Option.some.inj h;rw [← hr];refine ⟨_,(.tmp .nil),?_⟩;refine ⟨(.one rfl rfl .nil),[.val (.bool false)],[],by simp [Cat.cells,Fn.cells,Mnd.cells,UA,U1,IA,I1,LA,L1,BA,B1,EA,E1,E2,eB,eI,eL],by simp,(UpL.refl _)⟩
 have g5:¬ (b1=true):=gQ;clear g;replace h:=if_r g5 h;refine Qe ?_;refine tn ?_;refine Q5 ?_;refine Q5 ?_;replace h:=bind_some h;obtain ⟨e6,h,h6⟩:=h;refine Qj (fun b6:Bool=>⟨[(1,.adr 0 0 0),(3,.adr 1 0 0),(33,.val (.bool b6))],[(0,.mix 14 [(Mnd.cells true m_)]),(1,.mix 12 [(Fn.cells true m_.f)])],2⟩) (fun b6=>b6=e6) ?_ ?_
 ·refine runQ hN fun K hK=>?_;simp [-Q0,-Q7,-Q1,-Q8,-Q2];repeat with_reducible refine sdQ ?_
  replace h:=bind_some h;obtain ⟨v7,hv7,h⟩:=h;refine Q3 (Q8t _ v7 hv7) (.cons (.aggL (.cons .val (.cons .lst (.cons .lst (.cons .lst (.cons .lst .nil)))))) .nil) ?_;simp [-Q0,-Q7,-Q1,-Q8,-Q2,unk,unA,unE,unT,unC,flat];repeat with_reducible refine sdQ ?_
  replace h:=bind_some h;obtain ⟨v8,hv8,h⟩:=h;refine Q3 (Q4g _ _ _ v8 hv8) (.cons (.aggL (.cons .val (.cons (.whole (by simp) (by simp) (by simp)) (.cons (.whole (by simp) (by simp) (by simp)) (.cons (.whole (by simp) (by simp) (by simp)) (.cons (.whole (by simp) (by simp) (by simp)) (.cons .val (.cons (.whole (by simp) (by simp) (by simp)) (.cons (.whole (by simp) (by simp) (by simp)) (.cons (.whole (by simp) (by simp) (by simp)) (.cons (.whole (by simp) (by simp) (by simp)) (.cons (.whole (by simp) (by simp) (by simp)) (.cons (.whole (by simp) (by simp) (by simp)) .nil))))))))))))) (.cons (.aggL (.cons .val (.cons .lst (.cons .lst (.cons .lst (.cons .lst (.cons .val (.cons .lst (.cons .lst (.cons .lst (.cons .lst (.cons .lst (.cons .lst .nil))))))))))))) (.cons .lst .nil))) ?_;simp [-Q0,-Q7,-Q1,-Q8,-Q2,unk,unA,unE,unT,unC,flat];repeat with_reducible refine sdQ ?_
  refine Qq (fun g=>?_) (fun g=>?_)
  ·have g9:¬ (¬ (v8=true)):=gQ;clear g;replace h:=if_r g9 h;simp [-Q0,-Q7,-Q1,-Q8,-Q2];(repeat with_reducible refine sdQ ?_);replace h:=bind_some h;obtain ⟨v10,hv10,h⟩:=h;refine Q3 (Q7L _ v10 hv10) (.cons (.aggL (.cons .val (.cons .lst (.cons .lst (.cons .lst (.cons .lst (.cons .val (.cons .lst (.cons .lst (.cons .lst (.cons .lst (.cons .lst (.cons .lst .nil))))))))))))) .nil) ?_;simp [-Q0,-Q7,-Q1,-Q8,-Q2,unk,unA,unE,unT,unC,flat];(repeat with_reducible refine sdQ ?_);replace h:=bind_some h;obtain ⟨v11,hv11,h⟩:=h;refine Q3 (Q4g _ _ _ v11 hv11) (.cons (.aggL (.cons .val (.cons (.whole (by simp) (by simp) (by simp)) (.cons (.whole (by simp) (by simp) (by simp)) (.cons (.whole (by simp) (by simp) (by simp)) (.cons (.whole (by simp) (by simp) (by simp)) (.cons .val (.cons (.whole (by simp) (by simp) (by simp)) (.cons (.whole (by simp) (by simp) (by simp)) (.cons (.whole (by simp) (by simp) (by simp)) (.cons (.whole (by simp) (by simp) (by simp)) (.cons (.whole (by simp) (by simp) (by simp)) (.cons (.whole (by simp) (by simp) (by simp)) .nil))))))))))))) (.cons (.aggL (.cons .val (.cons .lst (.cons .lst (.cons .lst (.cons .lst (.cons .val (.cons .lst (.cons .lst (.cons .lst (.cons .lst (.cons .lst (.cons .lst .nil))))))))))))) (.cons .lst .nil))) ?_;simp [-Q0,-Q7,-Q1,-Q8,-Q2,unk,unA,unE,unT,unC,flat];(repeat refine sdQ ?_);refine hK _ ?_;exact jn (b:=!v11) (Option.some.inj h) (wkQ9 [(0,0),(1,1)])
  have g9:¬ (v8=true):=gQ;clear g;replace h:=if_l g9 h;simp [-Q0,-Q7,-Q1,-Q8,-Q2];repeat refine sdQ ?_
  refine hK _ ?_;exact jn (b:=true) (Option.some.inj h) (wkQ9 [(0,0),(1,1)])
 intro b6 hb6;have h:=h6;try rw [← hb6] at h
 clear h6;try dsimp only at h
 refine Qd rfl (fun g=>?_) fun g=>?_
 ·have g12:b6=true:=gQ;clear g;replace h:=if_l g12 h;refine Q5 ?_;refine runQ hN fun K hK=>?_;simp [-Q0,-Q7,-Q1,-Q8,-Q2];repeat refine sdQ ?_
  refine hK _ ?_;clear hK K;refine tn ?_;refine Q9 (st':=⟨[(2,.val (.bool false))],[],0⟩) (wkQ9 []) ?_;refine Qi ?_;refine tr ?_;have hr:=Option.some.inj h;rw [← hr];refine ⟨_,(.tmp .nil),?_⟩;refine ⟨(.one rfl rfl .nil),[.val (.bool false)],[],by simp [Cat.cells,Fn.cells,Mnd.cells,UA,U1,IA,I1,LA,L1,BA,B1,EA,E1,E2,eB,eI,eL],by simp,(UpL.refl _)⟩
 have g12:¬ (b6=true):=gQ;clear g;replace h:=if_r g12 h;refine Qe ?_;refine tn ?_;refine Q5 ?_;refine runQ hN fun K hK=>?_;simp [-Q0,-Q7,-Q1,-Q8,-Q2];repeat with_reducible refine sdQ ?_
 replace h:=bind_some h;obtain ⟨v13,hv13,h⟩:=h;refine Q3 (Q8v _ _ _ v13 hv13) (.cons (.aggL (.cons .val (.cons .lst (.cons .lst (.cons .lst (.cons .lst (.cons .val (.cons .lst (.cons .lst (.cons .lst (.cons .lst (.cons .lst (.cons .lst .nil))))))))))))) (.cons .lst (.cons .lst .nil))) ?_;simp [-Q0,-Q7,-Q1,-Q8,-Q2,unk,unA,unE,unT,unC,flat];repeat refine sdQ ?_
 refine hK _ ?_;clear hK K;refine tn ?_;refine Q9 (st':=⟨[(2,.val (.bool v13))],[],0⟩) (wkQ9 []) ?_;refine Qi ?_;have hr:=Option.some.inj h;rw [← hr];refine ⟨_,(.tmp .nil),?_⟩;refine ⟨(.one rfl rfl .nil),[.val (.bool v13)],[],by simp [Cat.cells,Fn.cells,Mnd.cells,UA,U1,IA,I1,LA,L1,BA,B1,EA,E1,E2,eB,eI,eL],by simp,(UpL.refl _)⟩
structure Mnd.Pre (m:Mnd):Prop where
 f:m.f.Is
 e:m.f.s=m.f.t
 n1:NatT (Q2W m.f.s) m.f m.u
 n2:NatT (Q2X m.f m.f) m.f m.j
structure Mnd.Is (m:Mnd):Prop where
 pre:m.Pre
 l1:∀ x:Nat,x<m.f.ob.length→ix (rx m.f.s.cs (ix m.f.ar (ix m.u x))) (ix m.j x)=ix m.f.s.id (ix m.f.ob x)∧ix (rx m.f.s.cs (ix m.u (ix m.f.ob x))) (ix m.j x)=ix m.f.s.id (ix m.f.ob x)
 l2:∀ x:Nat,x<m.f.ob.length→ix (rx m.f.s.cs (ix m.f.ar (ix m.j x))) (ix m.j x)=ix (rx m.f.s.cs (ix m.j (ix m.f.ob x))) (ix m.j x)
theorem Mnd.Pre.len {m:Mnd} (h:m.Pre):m.u.length=m.f.ob.length∧m.j.length=m.f.ob.length∧(m.f.ob.length:Int)=m.f.s.n∧m.f.ar.length=m.f.s.fr.length∧(m.f.s.id.length:Int)=m.f.s.n∧m.f.s.cs.length=m.f.s.fr.length∧m.f.s.to.length=m.f.s.fr.length∧m.f.s.fr.length≤40∧m.f.ob.length≤8:=by
 have h1:=h.n1.lp;have h2:=h.n2.lp;have h3:=h.f.lo;have h5:=h.f.la;have h6:=h.f.s.1.li;simp only [Q2W,Q2X,Q87,Q5j] at h1 h2;exact ⟨by omega,by omega,h3,h5,h6,h.f.s.1.lc,h.f.s.1.lt,h.f.s.1.m40,h.f.lob⟩
theorem Mnd.Pre.ob {m:Mnd} (h:m.Pre) {x:Int} (h0:0≤x) (h1:x<m.f.ob.length):0≤ix m.f.ob x∧ix m.f.ob x<m.f.ob.length:=by
 have:=Q7k h.f.ob h0 h1;rw [← h.e,← h.f.lo] at this;exact this
theorem Mnd.Pre.ar {m:Mnd} (h:m.Pre) {f:Int} (h0:0≤f) (h1:f<m.f.s.fr.length):(0≤ix m.f.ar f∧ix m.f.ar f<m.f.s.fr.length)∧ix m.f.s.fr (ix m.f.ar f)=ix m.f.ob (ix m.f.s.fr f)∧ix m.f.s.to (ix m.f.ar f)=ix m.f.ob (ix m.f.s.to f):=by
 have hla:=h.f.la;have q1:=h.f.ar;have q2:=h.f.ends;rw [← h.e] at q1 q2;obtain ⟨i,rfl⟩:∃ i:Nat,f=i:=⟨f.toNat,by omega⟩;exact ⟨q1 i (by omega),q2 i (by omega)⟩
theorem Mnd.Pre.unit {m:Mnd} (h:m.Pre) {x:Int} (h0:0≤x) (h1:x<m.f.ob.length):(0≤ix m.u x∧ix m.u x<m.f.s.fr.length)∧ix m.f.s.fr (ix m.u x)=x∧ix m.f.s.to (ix m.u x)=ix m.f.ob x:=by
 obtain ⟨l1,l2,l3,l4,l5,l6,l7,l8,l9⟩:=h.len;obtain ⟨i,rfl⟩:∃ i:Nat,x=i:=⟨x.toNat,by omega⟩;have q1:=h.n1.bd i (by omega);have q2:=h.n1.ends i (by omega);simp only [Q2W] at q1 q2;rw [Q2M _ (by omega) (by omega)] at q2;exact ⟨q1,q2⟩
theorem Mnd.Pre.join {m:Mnd} (h:m.Pre) {x:Int} (h0:0≤x) (h1:x<m.f.ob.length):(0≤ix m.j x∧ix m.j x<m.f.s.fr.length)∧ix m.f.s.fr (ix m.j x)=ix m.f.ob (ix m.f.ob x)∧ix m.f.s.to (ix m.j x)=ix m.f.ob x:=by
 obtain ⟨l1,l2,l3,l4,l5,l6,l7,l8,l9⟩:=h.len;obtain ⟨i,rfl⟩:∃ i:Nat,x=i:=⟨x.toNat,by omega⟩;have q1:=h.n2.bd i (by omega);have q2:=h.n2.ends i (by omega);simp only [Q2X] at q1 q2;rw [← h.e] at q1 q2;rw [Q1S _ _ (by omega) (by omega)] at q2;exact ⟨q1,q2⟩
theorem Cat.Is.two {c:Cat} (h:c.Is) {f g:Int} (f0:0≤f∧f<c.fr.length) (g0:0≤g∧g<c.fr.length) (e:ix c.to f=ix c.fr g):(0≤ix (rx c.cs f) g∧ix (rx c.cs f) g<c.fr.length)∧ix c.fr (ix (rx c.cs f) g)=ix c.fr f∧ix c.to (ix (rx c.cs f) g)=ix c.to g:=by
 have:=(h.1.cell' f0.1 f0.2 g0.1 g0.2).2 e;exact ⟨⟨this.1,this.2.1⟩,this.2.2⟩
theorem Q15 {c:Cat} (h:c.Is) {f g:Int} (f0:0≤f∧f<c.fr.length) (g0:0≤g∧g<c.fr.length):QF c f g=some (ix (rx c.cs f) g)∧Qn c f g=some (ix (rx c.cs f) g):=by
 have h1:=h.1.lc;have h2:=h.1.row' f0.1 f0.2;exact ⟨Q5F (by omega) (by omega),Q6D (by omega) (by omega)⟩
theorem Q2y {c:Cat} (h:c.Is) {f x:Int} (f0:0≤f∧f<c.fr.length) (e:ix c.fr f=x):Q1J c f=some (bo (f=ix c.id x)):=by rw [e_l02Unit h f0.1 f0.2,e]
theorem mpara1 {f:Fn} (h:f.Is) (e:f.s=f.t):Para (Q2W f.s) f:=⟨self_is h.s,h,rfl,by simp [Q2W,e]⟩
theorem mpara2 {f:Fn} (h:f.Is) (e:f.s=f.t):Para (Q2X f f) f:=⟨then_is h h e.symm,h,rfl,by simp [Q2X]⟩
structure Mnd.At (m:Mnd) (x:Int):Prop where
 o:0≤ix m.f.ob x∧ix m.f.ob x<m.f.ob.length
 u:0≤ix m.u x∧ix m.u x<m.f.s.fr.length
 j:0≤ix m.j x∧ix m.j x<m.f.s.fr.length
 au:0≤ix m.f.ar (ix m.u x)∧ix m.f.ar (ix m.u x)<m.f.s.fr.length
 uo:0≤ix m.u (ix m.f.ob x)∧ix m.u (ix m.f.ob x)<m.f.s.fr.length
 aj:0≤ix m.f.ar (ix m.j x)∧ix m.f.ar (ix m.j x)<m.f.s.fr.length
 jo:0≤ix m.j (ix m.f.ob x)∧ix m.j (ix m.f.ob x)<m.f.s.fr.length
 c1:(0≤ix (rx m.f.s.cs (ix m.f.ar (ix m.u x))) (ix m.j x)∧ix (rx m.f.s.cs (ix m.f.ar (ix m.u x))) (ix m.j x)<m.f.s.fr.length)∧ix m.f.s.fr (ix (rx m.f.s.cs (ix m.f.ar (ix m.u x))) (ix m.j x))=ix m.f.ob x
 c2:(0≤ix (rx m.f.s.cs (ix m.u (ix m.f.ob x))) (ix m.j x)∧ix (rx m.f.s.cs (ix m.u (ix m.f.ob x))) (ix m.j x)<m.f.s.fr.length)∧ix m.f.s.fr (ix (rx m.f.s.cs (ix m.u (ix m.f.ob x))) (ix m.j x))=ix m.f.ob x
theorem Mnd.Pre.at {m:Mnd} (h:m.Pre) {x:Int} (h0:0≤x) (h1:x<m.f.ob.length):m.At x:=by
 have o:=h.ob h0 h1;obtain ⟨u1,u2,u3⟩:=h.unit h0 h1;obtain ⟨j1,j2,j3⟩:=h.join h0 h1;obtain ⟨a1,a2,a3⟩:=h.ar u1.1 u1.2;obtain ⟨v1,v2,v3⟩:=h.unit o.1 o.2;obtain ⟨b1,b2,b3⟩:=h.ar j1.1 j1.2;obtain ⟨k1,k2,k3⟩:=h.join o.1 o.2;have c1:=h.f.s.two a1 j1 (by rw [a3,u3,j2]);have c2:=h.f.s.two v1 j1 (by rw [v3,j2]);exact ⟨o,u1,j1,a1,v1,b1,k1,⟨c1.1,by rw [c1.2.1,a2,u2]⟩,c2.1,by rw [c2.2.1,v2]⟩
theorem e_l16Laws {m:Mnd} (h:m.Pre):Q2S m.f m.u m.j=some (bo m.Is):=by
 obtain ⟨l1,l2,l3,l4,l5,l6,l7,l8,l9⟩:=h.len;have hc:=h.f.s;unfold Q2S;refine Q1k m.f.ob.length (fun x:Nat=>(ix (rx m.f.s.cs (ix m.f.ar (ix m.u x))) (ix m.j x)=ix m.f.s.id (ix m.f.ob x)∧ix (rx m.f.s.cs (ix m.u (ix m.f.ob x))) (ix m.j x)=ix m.f.s.id (ix m.f.ob x))∧ix (rx m.f.s.cs (ix m.f.ar (ix m.j x))) (ix m.j x)=ix (rx m.f.s.cs (ix m.j (ix m.f.ob x))) (ix m.j x)) (eb:=Sum.inr false) (eg:=Sum.inl ()) (by omega) (fun x hi hq=>?_) (fun x hi hq=>?_) (by simp;try omega) (fun hx=>?_) fun q=>?_
 ·have a:=h.at (x:=x) (by omega) (by omega);obtain ⟨a1,a2,a3,a4,a5,a6,a7,a8,a9⟩:=a;simp (disch:=omega) only [Qa,(Q15 hc a4 a3).1,(Q15 hc a5 a3).1,(Q15 hc a6 a3).1,(Q15 hc a7 a3).1,Q2y hc a8.1 a8.2,Q2y hc a9.1 a9.2,Option.bind_some];simp (disch:=omega) [Qa,B64,hq.1.1,hq.1.2,hq.2,bo];try omega
 ·have a:=h.at (x:=x) (by omega) (by omega);obtain ⟨a1,a2,a3,a4,a5,a6,a7,a8,a9⟩:=a
  by_cases q1:ix (rx m.f.s.cs (ix m.f.ar (ix m.u x))) (ix m.j x)=ix m.f.s.id (ix m.f.ob x)
  case neg =>
   simp (disch:=omega) only [Qa,(Q15 hc a4 a3).1,(Q15 hc a5 a3).1,(Q15 hc a6 a3).1,(Q15 hc a7 a3).1,Q2y hc a8.1 a8.2,Q2y hc a9.1 a9.2,Option.bind_some];simp (disch:=omega) [Qa,B64,q1,bo];try omega
  by_cases q2:ix (rx m.f.s.cs (ix m.u (ix m.f.ob x))) (ix m.j x)=ix m.f.s.id (ix m.f.ob x)
  case neg =>
   simp (disch:=omega) only [Qa,(Q15 hc a4 a3).1,(Q15 hc a5 a3).1,(Q15 hc a6 a3).1,(Q15 hc a7 a3).1,Q2y hc a8.1 a8.2,Q2y hc a9.1 a9.2,Option.bind_some];simp (disch:=omega) [Qa,B64,q1,q2,bo];try omega
  have q3:¬ ix (rx m.f.s.cs (ix m.f.ar (ix m.j x))) (ix m.j x)=ix (rx m.f.s.cs (ix m.j (ix m.f.ob x))) (ix m.j x):=fun q=>hq ⟨⟨q1,q2⟩,q⟩;simp (disch:=omega) only [Qa,(Q15 hc a4 a3).1,(Q15 hc a5 a3).1,(Q15 hc a6 a3).1,(Q15 hc a7 a3).1,Q2y hc a8.1 a8.2,Q2y hc a9.1 a9.2,Option.bind_some];simp (disch:=omega) [Qa,B64,q1,q2,q3,bo];try omega
 ·rw [QA (show ¬ m.Is from fun q=>hx fun x hi=>⟨q.l1 x hi,q.l2 x hi⟩)]
 rw [QP (show m.Is from ⟨h,fun x hi=>(q x hi).1,fun x hi=>(q x hi).2⟩)]
theorem Q9f {m:Mnd} (h:m.Pre):Q1h m=some (bo m.Is):=by
 obtain ⟨l1,l2,l3,l4,l5,l6,l7,l8,l9⟩:=h.len;have hc:=h.f.s;unfold Q1h QJ QI;refine Q1k m.f.ob.length (fun x:Nat=>(ix (rx m.f.s.cs (ix m.f.ar (ix m.u x))) (ix m.j x)=ix m.f.s.id (ix m.f.ob x)∧ix (rx m.f.s.cs (ix m.u (ix m.f.ob x))) (ix m.j x)=ix m.f.s.id (ix m.f.ob x))∧ix (rx m.f.s.cs (ix m.f.ar (ix m.j x))) (ix m.j x)=ix (rx m.f.s.cs (ix m.j (ix m.f.ob x))) (ix m.j x)) (eb:=Sum.inr false) (eg:=Sum.inl ()) (by omega) (fun x hi hq=>?_) (fun x hi hq=>?_) (by simp;try omega) (fun hx=>?_) fun q=>?_
 ·have a:=h.at (x:=x) (by omega) (by omega);obtain ⟨a1,a2,a3,a4,a5,a6,a7,a8,a9⟩:=a;simp (disch:=omega) [Qa,B64,(Q15 hc a4 a3).2,(Q15 hc a5 a3).2,(Q15 hc a6 a3).2,(Q15 hc a7 a3).2,hq.1.1,hq.1.2,hq.2];try omega
 ·have a:=h.at (x:=x) (by omega) (by omega);obtain ⟨a1,a2,a3,a4,a5,a6,a7,a8,a9⟩:=a
  by_cases q1:ix (rx m.f.s.cs (ix m.f.ar (ix m.u x))) (ix m.j x)=ix m.f.s.id (ix m.f.ob x)
  case neg=>simp (disch:=omega) [Qa,B64,(Q15 hc a4 a3).2,(Q15 hc a5 a3).2,(Q15 hc a6 a3).2,(Q15 hc a7 a3).2,q1];try omega
  by_cases q2:ix (rx m.f.s.cs (ix m.u (ix m.f.ob x))) (ix m.j x)=ix m.f.s.id (ix m.f.ob x)
  case neg=>simp (disch:=omega) [Qa,B64,(Q15 hc a4 a3).2,(Q15 hc a5 a3).2,(Q15 hc a6 a3).2,(Q15 hc a7 a3).2,q1,q2];try omega
  have q3:¬ ix (rx m.f.s.cs (ix m.f.ar (ix m.j x))) (ix m.j x)=ix (rx m.f.s.cs (ix m.j (ix m.f.ob x))) (ix m.j x):=fun q=>hq ⟨⟨q1,q2⟩,q⟩;simp (disch:=omega) [Qa,B64,(Q15 hc a4 a3).2,(Q15 hc a5 a3).2,(Q15 hc a6 a3).2,(Q15 hc a7 a3).2,q1,q2,q3];try omega
 ·rw [QA (show ¬ m.Is from fun q=>hx fun x hi=>⟨q.l1 x hi,q.l2 x hi⟩)]
 rw [QP (show m.Is from ⟨h,fun x hi=>(q x hi).1,fun x hi=>(q x hi).2⟩)]
theorem e_l16Is (m:Mnd):Q3U m=some (bo m.Is):=by
 unfold Q3U Q3x Q34;rw [e_l06Is]
 by_cases h:m.f.Is
 case neg=>rw [QA h,QA (show ¬ m.Is from fun q=>h q.pre.f)];simp
 by_cases e:m.f.s=m.f.t
 case neg=>rw [QP h,QA e,QA (show ¬ m.Is from fun q=>e q.pre.e)];simp
 simp only [QP h,QP e,Option.bind_some,not_true_eq_false,if_false,Bool.not_true,Bool.false_eq_true,e_l06Self h.s,e_l06Then h h e.symm,Q5a (mpara1 h e),Q5a (mpara2 h e)]
 by_cases n1:NatT (Q2W m.f.s) m.f m.u
 case neg=>rw [QA n1,QA (show ¬ m.Is from fun q=>n1 q.pre.n1)];simp
 by_cases n2:NatT (Q2X m.f m.f) m.f m.j
 case neg=>rw [QP n1,QA n2,QA (show ¬ m.Is from fun q=>n2 q.pre.n2)];simp
 simp [QP n1,QP n2,e_l16Laws (m:=m) ⟨h,e,n1,n2⟩]
theorem e_isMonad (m:Mnd):Q1p m=some (bo m.Is):=by
 unfold Q1p;rw [Q4o]
 by_cases h:m.f.Is
 case neg=>rw [QA h,QA (show ¬ m.Is from fun q=>h q.pre.f)];simp
 rw [Q5G h.s]
 by_cases e:m.f.s=m.f.t
 case neg=>rw [QP h,QA e,QA (show ¬ m.Is from fun q=>e q.pre.e)];simp
 simp only [QP h,QP e,Option.bind_some,not_true_eq_false,if_false,Bool.not_true,Bool.false_eq_true,Q9e h.s,e_Fthen h h e.symm];rw [Q79 _ (by simp)]
 by_cases hn:NatT (Q2W m.f.s) m.f m.u∧NatT (Q2X m.f m.f) m.f m.j
 case neg =>
  rw [QA (show ¬ m.Is from fun q=>hn ⟨q.pre.n1,q.pre.n2⟩),QA (show ¬ ∀ t∈[(⟨Q2W m.f.s,m.f,m.u⟩:Tra),⟨Q2X m.f m.f,m.f,m.j⟩],t.Is from fun q=>hn ⟨(Q98 (mpara1 h e)).1 (q _ (by simp)),(Q98 (mpara2 h e)).1 (q _ (by simp))⟩)];simp
 obtain ⟨n1,n2⟩:=hn;rw [QP (show ∀ t∈[(⟨Q2W m.f.s,m.f,m.u⟩:Tra),⟨Q2X m.f m.f,m.f,m.j⟩],t.Is by
  intro t ht;simp only [List.mem_cons,List.not_mem_nil,or_false] at ht;rcases ht with rfl|rfl
  ·exact (Q98 (mpara1 h e)).2 n1
  exact (Q98 (mpara2 h e)).2 n2)]
 simp [Q9f (m:=m) ⟨h,e,n1,n2⟩]
abbrev Ar (c:Cat) (f x y:Int):Prop:=(0≤f∧f<(c.fr.length:Int))∧ix c.fr f=x∧ix c.to f=y
theorem Ar.two {c:Cat} (hc:c.Is) {f g x y z:Int} (h1:Ar c f x y) (h2:Ar c g y z):Ar c (ix (rx c.cs f) g) x z:=by
 have:=hc.two h1.1 h2.1 (by rw [h1.2.2,h2.2.1]);exact ⟨this.1,by rw [this.2.1,h1.2.1],by rw [this.2.2,h2.2.2]⟩
theorem Ar.thn {c:Cat} (hc:c.Is) {f g x y z:Int} (h1:Ar c f x y) (h2:Ar c g y z):QF c f g=some (ix (rx c.cs f) g)∧Qn c f g=some (ix (rx c.cs f) g):=Q15 hc h1.1 h2.1
theorem Mnd.Pre.Ao {m:Mnd} (h:m.Pre) {x:Int} (hx:0≤x∧x<(m.f.ob.length:Int)):0≤ix m.f.ob x∧ix m.f.ob x<(m.f.ob.length:Int):=h.ob hx.1 hx.2
theorem Mnd.Pre.Au {m:Mnd} (h:m.Pre) {c:Cat} (e:m.f.s=c) {x:Int} (hx:0≤x∧x<(m.f.ob.length:Int)):Ar c (ix m.u x) x (ix m.f.ob x):=by subst e;exact h.unit hx.1 hx.2
theorem Mnd.Pre.Aj {m:Mnd} (h:m.Pre) {c:Cat} (e:m.f.s=c) {x:Int} (hx:0≤x∧x<(m.f.ob.length:Int)):Ar c (ix m.j x) (ix m.f.ob (ix m.f.ob x)) (ix m.f.ob x):=by subst e;exact h.join hx.1 hx.2
theorem Mnd.Pre.Aa {m:Mnd} (h:m.Pre) {c:Cat} (e:m.f.s=c) {f x y:Int} (hf:Ar c f x y):Ar c (ix m.f.ar f) (ix m.f.ob x) (ix m.f.ob y):=by
 subst e;have:=h.ar hf.1.1 hf.1.2;exact ⟨this.1,by rw [this.2.1,hf.2.1],by rw [this.2.2,hf.2.2]⟩
attribute [local simp] eL eI Qo QH Q1v Q4 Cat.cells Mnd.cells XAlgebra.cells
noncomputable def QS (m_:Mnd) (a_:XAlgebra) (b_:XAlgebra):Option (List Int) :=
 (QW m_.f.s a_.x_ b_.x_).bind fun v1 =>
 (QE (σ:=List Int × Int) (ε:=List Int) (fun s12 =>
  if s12.2<(v1.length:Int) then
   (
    ass (0≤s12.2∧s12.2<(v1.length:Int)) <|
    (Qn m_.f.s a_.h_ (ix v1 s12.2)).bind fun v16 =>
    (QI m_ (ix v1 s12.2)).bind fun v17 =>
    (Qn m_.f.s v17 b_.h_).bind fun v18 =>
    if v16=v18 then
     ass ((s12.1++[ix v1 s12.2]).length≤1073741824) <|
     some (s12.1++[ix v1 s12.2])
    else
     some s12.1:Option (List Int)).bind fun b14 =>
   ass (B64 (s12.2+1)) <|
   some (Ctl.next (b14,s12.2+1))
  else
   some (Ctl.ret s12.1)) fuel ([],0)).bind fun b2 =>
 some b2
theorem Q3Y (m_:Mnd) (a_:XAlgebra) (b_:XAlgebra) (r:List Int) (h:QS m_ a_ b_=some r):Contract Tryz.prog 102 [.rptr (m_.cells true),.rptr (a_.cells true),.rptr (b_.cells true)] (lI r):=by
 refine Qf (rvs:=[.tmp 6]) (rs:=[lI r]) Tryz.func102 rfl rfl rfl rfl (by simp [Tryz.f102]) fun F hN hP=>?_;unfold QS at h;refine Q5 ?_;refine runQ hN fun K hK=>?_;simp [-Q0,-Q7,-Q1,-Q8,-Q2];repeat refine sdQ ?_
 refine hK _ ?_;clear hK K;refine tn ?_;refine Q9 (st':=⟨[(0,.rptr (Mnd.cells true m_)),(1,.rptr (XAlgebra.cells true a_)),(2,.rptr (XAlgebra.cells true b_))],[],0⟩) (wkQ9 []) ?_;refine Q5 ?_;refine runQ hN fun K hK=>?_;simp [-Q0,-Q7,-Q1,-Q8,-Q2];repeat refine sdQ ?_
 refine hK _ ?_;clear hK K;refine tn ?_;refine Q9 (st':=⟨[(0,.rptr (Mnd.cells true m_)),(1,.rptr (XAlgebra.cells true a_)),(2,.rptr (XAlgebra.cells true b_)),(7,.rptr (Mnd.cells true m_))],[],0⟩) (wkQ9 []) ?_;refine Q5 ?_;refine runQ hN fun K hK=>?_;simp [-Q0,-Q7,-Q1,-Q8,-Q2];repeat refine sdQ ?_
 refine hK _ ?_;clear hK K;refine tn ?_;refine Q9 (st':=⟨[(0,.rptr (Mnd.cells true m_)),(1,.rptr (XAlgebra.cells true a_)),(2,.rptr (XAlgebra.cells true b_)),(7,.rptr (Mnd.cells true m_)),(8,.own 0 0 0)],[(0,.mix 1 [])],1⟩) (wkQ9 [(0,0)]) ?_;refine Q5 ?_;refine Q5 ?_;refine runQ hN fun K hK=>?_;simp [-Q0,-Q7,-Q1,-Q8,-Q2];repeat with_reducible refine sdQ ?_
 replace h:=bind_some h;obtain ⟨v1,hv1,h⟩:=h;refine Q3 (Q3F _ _ _ v1 hv1) (.cons (.preT (by simp [Cat.cells,Mnd.cells,XAlgebra.cells])) (.cons .val (.cons .val .nil))) ?_;simp [-Q0,-Q7,-Q1,-Q8,-Q2,unk,unA,unE,unT,unC,flat];repeat refine sdQ ?_
 refine hK _ ?_;clear hK K;refine tn ?_;refine Q9 (st':=⟨[(0,.rptr (Mnd.cells true m_)),(1,.rptr (XAlgebra.cells true a_)),(2,.rptr (XAlgebra.cells true b_)),(7,.rptr (Mnd.cells true m_)),(8,.own 0 0 0),(25,.own 1 0 v1.length),(26,iV (v1.length:Int)),(27,iV 0)],[(0,.mix 1 []),(1,rI v1)],2⟩) (wkQ9 [(0,0),(1,1)]) ?_;replace h:=bind_some h;obtain ⟨e2,h,h2⟩:=h;refine Qj (fun b2:List Int=>⟨[(8,.own 0 0 b2.length)],[(0,rI b2)],1⟩) (fun b2=>b2=e2) ?_ ?_
 ·refine Qc ?_;refine Qz h (fun s12:List Int × Int=>⟨[(0,.rptr (Mnd.cells true m_)),(1,.rptr (XAlgebra.cells true a_)),(2,.rptr (XAlgebra.cells true b_)),(7,.rptr (Mnd.cells true m_)),(8,.own 0 0 s12.1.length),(25,.own 1 0 v1.length),(26,iV (v1.length:Int)),(27,iV s12.2)],[(0,rI s12.1),(1,rI v1)],2⟩) (Q2Z ⟨[(0,.rptr (Mnd.cells true m_)),(1,.rptr (XAlgebra.cells true a_)),(2,.rptr (XAlgebra.cells true b_)),(7,.rptr (Mnd.cells true m_)),(8,.own 0 0 0),(25,.own 1 0 v1.length),(26,iV (v1.length:Int)),(27,iV 0)],[(0,rI []),(1,rI v1)],2⟩ (Wk.nils [] (by simp) (by simp) (by simp [nlA]) (by simp [entN,nlL,nlA,Cat.cells,Mnd.cells,XAlgebra.cells,UA,U1,IA,I1,LA,L1,BA,B1,EA,E1,E2,eB,eI,eL,Qm _ Q4 _ (fun _=>rfl)]) (by simp)) (wkQ9 [(0,0),(1,1)])) ?_;clear h;intro k12 s12 c12 h hk12;refine Q5 ?_;refine runQ hN fun K hK=>?_;simp [-Q0,-Q7,-Q1,-Q8,-Q2];repeat refine sdQ ?_
  refine hK _ ?_;clear hK K;refine tn ?_;refine Q9 (st':=⟨[(0,.rptr (Mnd.cells true m_)),(1,.rptr (XAlgebra.cells true a_)),(2,.rptr (XAlgebra.cells true b_)),(7,.rptr (Mnd.cells true m_)),(8,.own 0 0 s12.1.length),(25,.own 1 0 v1.length),(26,iV (v1.length:Int)),(27,iV s12.2),(28,.val (.bool (decide (s12.2<(v1.length:Int)))))],[(0,rI s12.1),(1,rI v1)],2⟩) (wkQ9 [(0,0),(1,1)]) ?_;refine Q5 ?_;refine Qd rfl (fun g=>?_) fun g=>?_
  ·have g13:s12.2<(v1.length:Int):=gQ;clear g;replace h:=if_l g13 h;refine Qe ?_;refine tn ?_;refine Q5 ?_;replace h:=bind_some h;obtain ⟨e14,h,h14⟩:=h;refine Qj (fun b14:List Int=>⟨[(0,.rptr (Mnd.cells true m_)),(1,.rptr (XAlgebra.cells true a_)),(2,.rptr (XAlgebra.cells true b_)),(7,.rptr (Mnd.cells true m_)),(8,.own 0 0 b14.length),(25,.own 1 0 v1.length),(26,iV (v1.length:Int)),(27,iV s12.2)],[(0,rI b14),(1,rI v1)],2⟩) (fun b14=>b14=e14) ?_ ?_
   ·refine Qc ?_;refine Q5 ?_;refine runQ hN fun K hK=>?_;replace h:=Q6 h;obtain ⟨a15,h⟩:=h;simp [-Q0,-Q7,-Q1,-Q8,-Q2,at_I a15];(repeat refine sdQ ?_);refine hK _ ?_;clear hK K;refine tn ?_;refine Q9 (st':=⟨[(0,.rptr (Mnd.cells true m_)),(1,.rptr (XAlgebra.cells true a_)),(2,.rptr (XAlgebra.cells true b_)),(7,.rptr (Mnd.cells true m_)),(8,.own 0 0 s12.1.length),(10,iV (ix v1 s12.2)),(25,.own 1 0 v1.length),(26,iV (v1.length:Int)),(27,iV s12.2)],[(0,rI s12.1),(1,rI v1)],2⟩) (wkQ9 [(0,0),(1,1)]) ?_;refine Q5 ?_;refine runQ hN fun K hK=>?_;simp [-Q0,-Q7,-Q1,-Q8,-Q2];(repeat with_reducible refine sdQ ?_);replace h:=bind_some h;obtain ⟨v16,hv16,h⟩:=h;refine Q3 (QB _ _ _ v16 hv16) (.cons (.preT (by simp [Cat.cells,Mnd.cells,XAlgebra.cells])) (.cons .val (.cons .val .nil))) ?_;simp [-Q0,-Q7,-Q1,-Q8,-Q2,unk,unA,unE,unT,unC,flat];(repeat with_reducible refine sdQ ?_);replace h:=bind_some h;obtain ⟨v17,hv17,h⟩:=h;refine Q3 (Q1M _ _ v17 hv17) (.cons (.preT (by simp [Cat.cells,Mnd.cells,XAlgebra.cells])) (.cons .val .nil)) ?_;simp [-Q0,-Q7,-Q1,-Q8,-Q2,unk,unA,unE,unT,unC,flat];(repeat with_reducible refine sdQ ?_);replace h:=bind_some h;obtain ⟨v18,hv18,h⟩:=h;refine Q3 (QB _ _ _ v18 hv18) (.cons (.preT (by simp [Cat.cells,Mnd.cells,XAlgebra.cells])) (.cons .val (.cons .val .nil))) ?_;simp [-Q0,-Q7,-Q1,-Q8,-Q2,unk,unA,unE,unT,unC,flat];(repeat refine sdQ ?_);refine hK _ ?_;clear hK K;refine tn ?_;refine Q9 (st':=⟨[(0,.rptr (Mnd.cells true m_)),(1,.rptr (XAlgebra.cells true a_)),(2,.rptr (XAlgebra.cells true b_)),(7,.rptr (Mnd.cells true m_)),(8,.own 0 0 s12.1.length),(10,iV (ix v1 s12.2)),(25,.own 1 0 v1.length),(26,iV (v1.length:Int)),(27,iV s12.2),(47,.val (.bool (v16 == v18)))],[(0,rI s12.1),(1,rI v1)],2⟩) (wkQ9 [(0,0),(1,1)]) ?_;refine Qd rfl (fun g=>?_) fun g=>?_
    ·have g19:v16=v18:=gQ;clear g;replace h:=if_l g19 h;refine runQ hN fun K hK=>?_;replace h:=Q6 h;obtain ⟨a20,h⟩:=h;(try simp only [List.length_append,List.length_cons,List.length_nil] at a20);simp [-Q0,-Q7,-Q1,-Q8,-Q2,a20];(repeat refine sdQ ?_);refine hK _ ?_;clear hK K;refine bn ?_;exact jn (b:=s12.1++[ix v1 s12.2]) (Option.some.inj h) (wkQ9 [(3,0),(1,1)])
    have g19:¬ (v16=v18):=gQ;clear g;replace h:=if_r g19 h;refine Qe ?_;refine bn ?_;exact jn (b:=s12.1) (Option.some.inj h) (wkQ9 [(0,0),(1,1)])
   intro b14 hb14;have h:=h14;(try rw [← hb14] at h);clear h14;(try dsimp only at h);refine runQ hN fun K hK=>?_;replace h:=Q6 h;obtain ⟨a21,h⟩:=h;simp [-Q0,-Q7,-Q1,-Q8,-Q2,Qu a21];(repeat refine sdQ ?_);refine hK _ ?_;clear hK K;cases h;exact rn (s':=(b14,s12.2+1)) hk12 (wkQ9 [(0,0),(1,1)])
  have g13:¬ (s12.2<(v1.length:Int)):=gQ;clear g;replace h:=if_r g13 h;refine Qp ?_;refine tx ?_;refine lx ?_;refine bh ?_;cases h;exact jn (b:=s12.1) hk12 (wkQ9 [(0,0)])
 intro b2 hb2;have h:=h2;try rw [← hb2] at h
 clear h2;try dsimp only at h
 refine Q5 ?_;refine runQ hN fun K hK=>?_;simp [-Q0,-Q7,-Q1,-Q8,-Q2];repeat refine sdQ ?_
 refine hK _ ?_;clear hK K;refine tn ?_;refine Q9 (st':=⟨[(6,.own 0 0 b2.length)],[(0,rI b2)],1⟩) (wkQ9 [(0,0)]) ?_;refine Qi ?_;have hr:=Option.some.inj h;rw [← hr];refine ⟨_,(.tmp .nil),?_⟩;refine ⟨(.one rfl rfl .nil),[lI b2],[0],by simp [Cat.cells,Mnd.cells,XAlgebra.cells,UA,U1,IA,I1,LA,L1,BA,B1,EA,E1,E2,eB,eI,eL,Qm _ Q4 _ (fun _=>rfl)],by simp,(UpL.refl _)⟩
attribute [local simp] eL eI Qo QH eP_Ends Q1v Cat.cells Ends.cells Mnd.cells
noncomputable def Q18 (m_:Mnd) (x_:Int) (h_:Int):Option Bool :=
 (
  (QQ m_.f.s h_).bind fun v2 =>
  (QJ m_ x_).bind fun v3 =>
  if v2.a=v3∧v2.b=x_ then
   ass (0≤x_∧x_<(m_.u.length:Int)) <|
   (Qn m_.f.s (ix m_.u x_) h_).bind fun v6 =>
   ass (0≤x_∧x_<(m_.f.s.id.length:Int)) <|
   if v6=(ix m_.f.s.id x_) then
    (QI m_ h_).bind fun v9 =>
    (Qn m_.f.s v9 h_).bind fun v10 =>
    ass (0≤x_∧x_<(m_.j.length:Int)) <|
    (Qn m_.f.s (ix m_.j x_) h_).bind fun v12 =>
    some (v10 == v12)
   else
    some false
  else
   some false:Option (Bool)).bind fun b1 =>
 some b1
theorem Q4v (m_:Mnd) (x_:Int) (h_:Int) (r:Bool) (h:Q18 m_ x_ h_=some r):Contract Tryz.prog 138 [.rptr (m_.cells true),iV x_,iV h_] (.val (.bool r)):=by
 refine Qf (rvs:=[.tmp 6]) (rs:=[.val (.bool r)]) Tryz.func138 rfl rfl rfl rfl (by simp [Tryz.f138]) fun F hN hP=>?_;unfold Q18 at h;refine Q5 ?_;refine runQ hN fun K hK=>?_;simp [-Q0,-Q7,-Q1,-Q8,-Q2];repeat refine sdQ ?_
 refine hK _ ?_;clear hK K;refine tn ?_;refine Q9 (st':=⟨[(0,.rptr (Mnd.cells true m_)),(1,iV x_),(2,iV h_)],[],0⟩) (wkQ9 []) ?_;refine Q5 ?_;refine runQ hN fun K hK=>?_;simp [-Q0,-Q7,-Q1,-Q8,-Q2];repeat refine sdQ ?_
 refine hK _ ?_;clear hK K;refine tn ?_;refine Q9 (st':=⟨[(0,.rptr (Mnd.cells true m_)),(1,iV x_),(2,iV h_),(7,.rptr (Mnd.cells true m_))],[],0⟩) (wkQ9 []) ?_;refine Q5 ?_;replace h:=bind_some h;obtain ⟨e1,h,h1⟩:=h;refine Qj (fun b1:Bool=>⟨[(6,.val (.bool b1))],[],0⟩) (fun b1=>b1=e1) ?_ ?_
 ·refine runQ hN fun K hK=>?_;simp [-Q0,-Q7,-Q1,-Q8,-Q2];repeat with_reducible refine sdQ ?_
  replace h:=bind_some h;obtain ⟨v2,hv2,h⟩:=h;refine Q3 (Q3n _ _ v2 hv2) (.cons (.preT (by simp [Cat.cells,Mnd.cells])) (.cons .val .nil)) ?_;simp [-Q0,-Q7,-Q1,-Q8,-Q2,unk,unA,unE,unT,unC,flat];repeat with_reducible refine sdQ ?_
  replace h:=bind_some h;obtain ⟨v3,hv3,h⟩:=h;refine Q3 (Q1V _ _ v3 hv3) (.cons (.preT (by simp [Cat.cells,Ends.cells,Mnd.cells])) (.cons .val .nil)) ?_;simp [-Q0,-Q7,-Q1,-Q8,-Q2,unk,unA,unE,unT,unC,flat];repeat with_reducible refine sdQ ?_
  refine Qq (fun g=>?_) (fun g=>?_)
  ·have g4:v2.a=v3∧v2.b=x_:=gQ;clear g;replace h:=if_l g4 h;replace h:=Q6 h;obtain ⟨a5,h⟩:=h;simp [-Q0,-Q7,-Q1,-Q8,-Q2,at_I a5];(repeat with_reducible refine sdQ ?_);replace h:=bind_some h;obtain ⟨v6,hv6,h⟩:=h;refine Q3 (QB _ _ _ v6 hv6) (.cons (.preT (by simp [Cat.cells,Ends.cells,Mnd.cells])) (.cons .val (.cons .val .nil))) ?_;replace h:=Q6 h;obtain ⟨a7,h⟩:=h;simp [-Q0,-Q7,-Q1,-Q8,-Q2,unk,unA,unE,unT,unC,flat,at_I a5,at_I a7];(repeat with_reducible refine sdQ ?_);refine Qq (fun g=>?_) (fun g=>?_)
   ·have g8:v6=(ix m_.f.s.id x_):=gQ;clear g;replace h:=if_l g8 h;simp [-Q0,-Q7,-Q1,-Q8,-Q2,at_I a5,at_I a7];(repeat with_reducible refine sdQ ?_);replace h:=bind_some h;obtain ⟨v9,hv9,h⟩:=h;refine Q3 (Q1M _ _ v9 hv9) (.cons (.preT (by simp [Cat.cells,Ends.cells,Mnd.cells])) (.cons .val .nil)) ?_;simp [-Q0,-Q7,-Q1,-Q8,-Q2,unk,unA,unE,unT,unC,flat,at_I a5,at_I a7];(repeat with_reducible refine sdQ ?_);replace h:=bind_some h;obtain ⟨v10,hv10,h⟩:=h;refine Q3 (QB _ _ _ v10 hv10) (.cons (.preT (by simp [Cat.cells,Ends.cells,Mnd.cells])) (.cons .val (.cons .val .nil))) ?_;replace h:=Q6 h;obtain ⟨a11,h⟩:=h;simp [-Q0,-Q7,-Q1,-Q8,-Q2,unk,unA,unE,unT,unC,flat,at_I a5,at_I a7,at_I a11];(repeat with_reducible refine sdQ ?_);replace h:=bind_some h;obtain ⟨v12,hv12,h⟩:=h;refine Q3 (QB _ _ _ v12 hv12) (.cons (.preT (by simp [Cat.cells,Ends.cells,Mnd.cells])) (.cons .val (.cons .val .nil))) ?_;simp [-Q0,-Q7,-Q1,-Q8,-Q2,unk,unA,unE,unT,unC,flat,at_I a5,at_I a7,at_I a11];(repeat refine sdQ ?_);refine hK _ ?_;exact jn (b:=v10 == v12) (Option.some.inj h) (wkQ9 [])
   have g8:¬ (v6=(ix m_.f.s.id x_)):=gQ;clear g;replace h:=if_r g8 h;simp [-Q0,-Q7,-Q1,-Q8,-Q2,at_I a5,at_I a7];(repeat refine sdQ ?_);refine hK _ ?_;exact jn (b:=false) (Option.some.inj h) (wkQ9 [])
  have g4:¬ (v2.a=v3∧v2.b=x_):=gQ;clear g;replace h:=if_r g4 h;simp [-Q0,-Q7,-Q1,-Q8,-Q2];repeat refine sdQ ?_
  refine hK _ ?_;exact jn (b:=false) (Option.some.inj h) (wkQ9 [])
 intro b1 hb1;have h:=h1;try rw [← hb1] at h
 clear h1;try dsimp only at h
 refine Qi ?_;have hr:=Option.some.inj h;rw [← hr];refine ⟨_,(.tmp .nil),?_⟩;refine ⟨(.one rfl rfl .nil),[.val (.bool b1)],[],by simp [Cat.cells,Ends.cells,Mnd.cells,UA,U1,IA,I1,LA,L1,BA,B1,EA,E1,E2,eB,eI,eL],by simp,(UpL.refl _)⟩
attribute [local simp] eL eI Qo QH Q1v Cat.cells Mnd.cells
noncomputable def Q3V (m_:Mnd) (x_:Int) (h_:Int):Option Bool :=
 (
  ass (0≤h_∧h_<(m_.f.s.fr.length:Int)) <|
  ass (0≤x_∧x_<(m_.f.ob.length:Int)) <|
  if ¬ ((ix m_.f.s.fr h_)=(ix m_.f.ob x_)) then
   some true
  else
   ass (0≤h_∧h_<(m_.f.s.to.length:Int)) <|
   if ¬ ((ix m_.f.s.to h_)=x_) then
    some true
   else
    ass (0≤x_∧x_<(m_.u.length:Int)) <|
    (QF m_.f.s (ix m_.u x_) h_).bind fun v8 =>
    (Q1J m_.f.s v8).bind fun v9 =>
    some (!v9):Option (Bool)).bind fun b1 =>
 if b1=true then
  some false
 else
  ass (0≤h_∧h_<(m_.f.ar.length:Int)) <|
  (QF m_.f.s (ix m_.f.ar h_) h_).bind fun v12 =>
  ass (0≤x_∧x_<(m_.j.length:Int)) <|
  (QF m_.f.s (ix m_.j x_) h_).bind fun v14 =>
  some (v12 == v14)
theorem w_s_l17Is (m_:Mnd) (x_:Int) (h_:Int) (r:Bool) (h:Q3V m_ x_ h_=some r):Contract Tryz.prog 145 [.agg (m_.cells true),iV x_,iV h_] (.val (.bool r)):=by
 refine Qf (rvs:=[.tmp 6]) (rs:=[.val (.bool r)]) Tryz.func145 rfl rfl rfl rfl (by simp [Tryz.f145]) fun F hN hP=>?_;unfold Q3V at h;refine Q5 ?_;refine runQ hN fun K hK=>?_;simp [-Q0,-Q7,-Q1,-Q8,-Q2];repeat refine sdQ ?_
 refine hK _ ?_;clear hK K;refine tn ?_;refine Q9 (st':=⟨[(1,iV x_),(2,iV h_),(3,.adr 0 0 0)],[(0,.mix 14 [(Mnd.cells true m_)])],1⟩) (wkQ9 [(0,0)]) ?_;refine Q5 ?_;refine runQ hN fun K hK=>?_;simp [-Q0,-Q7,-Q1,-Q8,-Q2];repeat refine sdQ ?_
 refine hK _ ?_;clear hK K;refine tn ?_;refine Q9 (st':=⟨[(1,iV x_),(2,iV h_),(3,.adr 0 0 0),(7,.adr 1 0 0)],[(0,.mix 14 [(Mnd.cells true m_)]),(1,.mix 5 [(Cat.cells true m_.f.s)])],2⟩) (wkQ9 [(0,0),(1,1)]) ?_;refine Q5 ?_;refine Q5 ?_;replace h:=bind_some h;obtain ⟨e1,h,h1⟩:=h;refine Qj (fun b1:Bool=>⟨[(1,iV x_),(2,iV h_),(3,.adr 0 0 0),(7,.adr 1 0 0),(44,.val (.bool b1))],[(0,.mix 14 [(Mnd.cells true m_)]),(1,.mix 5 [(Cat.cells true m_.f.s)])],2⟩) (fun b1=>b1=e1) ?_ ?_
 ·refine runQ hN fun K hK=>?_;replace h:=Q6 h;obtain ⟨a2,h⟩:=h;replace h:=Q6 h;obtain ⟨a3,h⟩:=h;simp [-Q0,-Q7,-Q1,-Q8,-Q2,at_I a2,at_I a3];repeat with_reducible refine sdQ ?_
  refine Qq (fun g=>?_) (fun g=>?_)
  ·have g4:¬ (¬ ((ix m_.f.s.fr h_)=(ix m_.f.ob x_))):=gQ;clear g;replace h:=if_r g4 h;replace h:=Q6 h;obtain ⟨a5,h⟩:=h;simp [-Q0,-Q7,-Q1,-Q8,-Q2,at_I a2,at_I a3,at_I a5];(repeat with_reducible refine sdQ ?_);refine Qq (fun g=>?_) (fun g=>?_)
   ·have g6:¬ (¬ ((ix m_.f.s.to h_)=x_)):=gQ;clear g;replace h:=if_r g6 h;replace h:=Q6 h;obtain ⟨a7,h⟩:=h;simp [-Q0,-Q7,-Q1,-Q8,-Q2,at_I a2,at_I a3,at_I a5,at_I a7];(repeat with_reducible refine sdQ ?_);replace h:=bind_some h;obtain ⟨v8,hv8,h⟩:=h;refine Q3 (Q14 _ _ _ v8 hv8) (.cons (.aggL (.cons .val (.cons .lst (.cons .lst (.cons .lst (.cons .lst .nil)))))) (.cons .val (.cons .val .nil))) ?_;simp [-Q0,-Q7,-Q1,-Q8,-Q2,unk,unA,unE,unT,unC,flat,at_I a2,at_I a3,at_I a5,at_I a7];(repeat with_reducible refine sdQ ?_);replace h:=bind_some h;obtain ⟨v9,hv9,h⟩:=h;refine Q3 (Q4x _ _ v9 hv9) (.cons (.aggL (.cons .val (.cons .lst (.cons .lst (.cons .lst (.cons .lst .nil)))))) (.cons .val .nil)) ?_;simp [-Q0,-Q7,-Q1,-Q8,-Q2,unk,unA,unE,unT,unC,flat,at_I a2,at_I a3,at_I a5,at_I a7];(repeat refine sdQ ?_);refine hK _ ?_;exact jn (b:=!v9) (Option.some.inj h) (wkQ9 [(0,0),(1,1)])
   have g6:¬ ((ix m_.f.s.to h_)=x_):=gQ;clear g;replace h:=if_l g6 h;simp [-Q0,-Q7,-Q1,-Q8,-Q2,at_I a2,at_I a3,at_I a5];(repeat refine sdQ ?_);refine hK _ ?_;exact jn (b:=true) (Option.some.inj h) (wkQ9 [(0,0),(1,1)])
  have g4:¬ ((ix m_.f.s.fr h_)=(ix m_.f.ob x_)):=gQ;clear g;replace h:=if_l g4 h;simp [-Q0,-Q7,-Q1,-Q8,-Q2,at_I a2,at_I a3];repeat refine sdQ ?_
  refine hK _ ?_;exact jn (b:=true) (Option.some.inj h) (wkQ9 [(0,0),(1,1)])
 intro b1 hb1;have h:=h1;try rw [← hb1] at h
 clear h1;try dsimp only at h
 refine Qd rfl (fun g=>?_) fun g=>?_
 ·have g10:b1=true:=gQ;clear g;replace h:=if_l g10 h;refine Q5 ?_;refine runQ hN fun K hK=>?_;simp [-Q0,-Q7,-Q1,-Q8,-Q2];repeat refine sdQ ?_
  refine hK _ ?_;clear hK K;refine tn ?_;refine Q9 (st':=⟨[(6,.val (.bool false))],[],0⟩) (wkQ9 []) ?_;refine Qi ?_;refine tr ?_;have hr:=Option.some.inj h;rw [← hr];refine ⟨_,(.tmp .nil),?_⟩;refine ⟨(.one rfl rfl .nil),[.val (.bool false)],[],by simp [Cat.cells,Mnd.cells,UA,U1,IA,I1,LA,L1,BA,B1,EA,E1,E2,eB,eI,eL],by simp,(UpL.refl _)⟩
 have g10:¬ (b1=true):=gQ;clear g;replace h:=if_r g10 h;refine Qe ?_;refine tn ?_;refine Q5 ?_;refine runQ hN fun K hK=>?_;replace h:=Q6 h;obtain ⟨a11,h⟩:=h;simp [-Q0,-Q7,-Q1,-Q8,-Q2,at_I a11];repeat with_reducible refine sdQ ?_
 replace h:=bind_some h;obtain ⟨v12,hv12,h⟩:=h;refine Q3 (Q14 _ _ _ v12 hv12) (.cons (.aggL (.cons .val (.cons .lst (.cons .lst (.cons .lst (.cons .lst .nil)))))) (.cons .val (.cons .val .nil))) ?_;replace h:=Q6 h;obtain ⟨a13,h⟩:=h;simp [-Q0,-Q7,-Q1,-Q8,-Q2,unk,unA,unE,unT,unC,flat,at_I a11,at_I a13];repeat with_reducible refine sdQ ?_
 replace h:=bind_some h;obtain ⟨v14,hv14,h⟩:=h;refine Q3 (Q14 _ _ _ v14 hv14) (.cons (.aggL (.cons .val (.cons .lst (.cons .lst (.cons .lst (.cons .lst .nil)))))) (.cons .val (.cons .val .nil))) ?_;simp [-Q0,-Q7,-Q1,-Q8,-Q2,unk,unA,unE,unT,unC,flat,at_I a11,at_I a13];repeat refine sdQ ?_
 refine hK _ ?_;clear hK K;refine tn ?_;refine Q9 (st':=⟨[(6,.val (.bool (v12 == v14)))],[],0⟩) (wkQ9 []) ?_;refine Qi ?_;have hr:=Option.some.inj h;rw [← hr];refine ⟨_,(.tmp .nil),?_⟩;refine ⟨(.one rfl rfl .nil),[.val (.bool (v12 == v14))],[],by simp [Cat.cells,Mnd.cells,UA,U1,IA,I1,LA,L1,BA,B1,EA,E1,E2,eB,eI,eL],by simp,(UpL.refl _)⟩
attribute [local simp] eL eI Qo QH Q1v Cat.cells Mnd.cells
noncomputable def Q2g (m_:Mnd) (p_:List Int) (q_:List Int):Option (List Int) :=
 ass ((0:Int)≤0∧0<(p_.length:Int)) <|
 ass ((0:Int)≤0∧0<(q_.length:Int)) <|
 (Q2H m_.f.s (ix p_ 0) (ix q_ 0)).bind fun v3 =>
 (QE (σ:=List Int × Int) (ε:=List Int) (fun s18 =>
  if s18.2<(v3.length:Int) then
   (
    ass ((0:Int)≤1∧1<(p_.length:Int)) <|
    ass (0≤s18.2∧s18.2<(v3.length:Int)) <|
    (QF m_.f.s (ix p_ 1) (ix v3 s18.2)).bind fun v23 =>
    ass (0≤s18.2∧s18.2<(v3.length:Int)) <|
    ass (0≤ix v3 s18.2∧ix v3 s18.2<(m_.f.ar.length:Int)) <|
    ass ((0:Int)≤1∧1<(q_.length:Int)) <|
    (QF m_.f.s (ix m_.f.ar (ix v3 s18.2)) (ix q_ 1)).bind fun v27 =>
    if v23=v27 then
     ass (0≤s18.2∧s18.2<(v3.length:Int)) <|
     ass ((s18.1++[ix v3 s18.2]).length≤1073741824) <|
     some (s18.1++[ix v3 s18.2])
    else
     some s18.1:Option (List Int)).bind fun b20 =>
   ass (B64 (s18.2+1)) <|
   some (Ctl.next (b20,s18.2+1))
  else
   some (Ctl.ret s18.1)) fuel ([],0)).bind fun b4 =>
 some b4
theorem Q8x (m_:Mnd) (p_:List Int) (q_:List Int) (r:List Int) (h:Q2g m_ p_ q_=some r):Contract Tryz.prog 123 [.agg (m_.cells true),lI p_,lI q_] (lI r):=by
 refine Qf (rvs:=[.tmp 6]) (rs:=[lI r]) Tryz.func123 rfl rfl rfl rfl (by simp [Tryz.f123]) fun F hN hP=>?_;unfold Q2g at h;refine Q5 ?_;refine runQ hN fun K hK=>?_;simp [-Q0,-Q7,-Q1,-Q8,-Q2];repeat refine sdQ ?_
 refine hK _ ?_;clear hK K;refine tn ?_;refine Q9 (st':=⟨[(1,lI p_),(2,lI q_),(3,.adr 0 0 0)],[(0,.mix 14 [(Mnd.cells true m_)])],1⟩) (wkQ9 [(0,0)]) ?_;refine Q5 ?_;refine runQ hN fun K hK=>?_;simp [-Q0,-Q7,-Q1,-Q8,-Q2];repeat refine sdQ ?_
 refine hK _ ?_;clear hK K;refine tn ?_;refine Q9 (st':=⟨[(1,lI p_),(2,lI q_),(3,.adr 0 0 0),(7,.adr 1 0 0)],[(0,.mix 14 [(Mnd.cells true m_)]),(1,.mix 5 [(Cat.cells true m_.f.s)])],2⟩) (wkQ9 [(0,0),(1,1)]) ?_;refine Q5 ?_;refine runQ hN fun K hK=>?_;replace h:=Q6 h;obtain ⟨a1,h⟩:=h;replace h:=Q6 h;obtain ⟨a2,h⟩:=h;simp [-Q0,-Q7,-Q1,-Q8,-Q2,(show (Is p_)[0]? = some [iV (ix p_ 0)] from at_I (j:=0) a1),(show (Is q_)[0]? = some [iV (ix q_ 0)] from at_I (j:=0) a2)];repeat with_reducible refine sdQ ?_
 replace h:=bind_some h;obtain ⟨v3,hv3,h⟩:=h;refine Q3 (Q6v _ _ _ v3 hv3) (.cons (.aggL (.cons .val (.cons .lst (.cons .lst (.cons .lst (.cons .lst .nil)))))) (.cons .val (.cons .val .nil))) ?_;simp [-Q0,-Q7,-Q1,-Q8,-Q2,unk,unA,unE,unT,unC,flat];repeat refine sdQ ?_
 refine hK _ ?_;clear hK K;refine tn ?_;refine Q9 (st':=⟨[(1,lI p_),(2,lI q_),(3,.adr 0 0 0),(7,.adr 1 0 0),(8,.own 2 0 v3.length)],[(0,.mix 14 [(Mnd.cells true m_)]),(1,.mix 5 [(Cat.cells true m_.f.s)]),(2,rI v3)],3⟩) (wkQ9 [(0,0),(1,1),(2,2)]) ?_;refine Q5 ?_;refine runQ hN fun K hK=>?_;simp [-Q0,-Q7,-Q1,-Q8,-Q2];repeat refine sdQ ?_
 refine hK _ ?_;clear hK K;refine tn ?_;refine Q9 (st':=⟨[(1,lI p_),(2,lI q_),(3,.adr 0 0 0),(7,.adr 1 0 0),(8,.own 2 0 v3.length),(9,.own 3 0 0)],[(0,.mix 14 [(Mnd.cells true m_)]),(1,.mix 5 [(Cat.cells true m_.f.s)]),(2,rI v3),(3,.mix 1 [])],4⟩) (wkQ9 [(0,0),(1,1),(2,2),(3,3)]) ?_;refine Q5 ?_;refine Q5 ?_;refine runQ hN fun K hK=>?_;simp [-Q0,-Q7,-Q1,-Q8,-Q2];repeat refine sdQ ?_
 refine hK _ ?_;clear hK K;refine tn ?_;refine Q9 (st':=⟨[(1,lI p_),(2,lI q_),(3,.adr 0 0 0),(7,.adr 1 0 0),(8,.own 2 0 v3.length),(9,.own 3 0 0),(10,iV 0)],[(0,.mix 14 [(Mnd.cells true m_)]),(1,.mix 5 [(Cat.cells true m_.f.s)]),(2,rI v3),(3,.mix 1 [])],4⟩) (wkQ9 [(0,0),(1,1),(2,2),(3,3)]) ?_;replace h:=bind_some h;obtain ⟨e4,h,h4⟩:=h;refine Qj (fun b4:List Int=>⟨[(9,.own 0 0 b4.length)],[(0,rI b4)],1⟩) (fun b4=>b4=e4) ?_ ?_
 ·refine Qc ?_;refine Qz h (fun s18:List Int × Int=>⟨[(1,lI p_),(2,lI q_),(3,.adr 0 0 0),(7,.adr 1 0 0),(8,.own 2 0 v3.length),(9,.own 3 0 s18.1.length),(10,iV s18.2)],[(0,.mix 14 [(Mnd.cells true m_)]),(1,.mix 5 [(Cat.cells true m_.f.s)]),(2,rI v3),(3,rI s18.1)],4⟩) (Q2Z ⟨[(1,lI p_),(2,lI q_),(3,.adr 0 0 0),(7,.adr 1 0 0),(8,.own 2 0 v3.length),(9,.own 3 0 0),(10,iV 0)],[(0,.mix 14 [(Mnd.cells true m_)]),(1,.mix 5 [(Cat.cells true m_.f.s)]),(2,rI v3),(3,rI [])],4⟩ (Wk.nils [] (by simp) (by simp) (by simp [nlA]) (by simp [entN,nlL,nlA,Cat.cells,Mnd.cells,UA,U1,IA,I1,LA,L1,BA,B1,EA,E1,E2,eB,eI,eL]) (by simp)) (wkQ9 [(0,0),(1,1),(2,2),(3,3)])) ?_;clear h;intro k18 s18 c18 h hk18;refine Q5 ?_;refine Q5 ?_;refine runQ hN fun K hK=>?_;simp [-Q0,-Q7,-Q1,-Q8,-Q2];repeat refine sdQ ?_
  refine hK _ ?_;clear hK K;refine tn ?_;refine Q9 (st':=⟨[(1,lI p_),(2,lI q_),(3,.adr 0 0 0),(7,.adr 1 0 0),(8,.own 2 0 v3.length),(9,.own 3 0 s18.1.length),(10,iV s18.2),(26,.val (.bool (decide (s18.2<(v3.length:Int)))))],[(0,.mix 14 [(Mnd.cells true m_)]),(1,.mix 5 [(Cat.cells true m_.f.s)]),(2,rI v3),(3,rI s18.1)],4⟩) (wkQ9 [(0,0),(1,1),(2,2),(3,3)]) ?_;refine Qd rfl (fun g=>?_) fun g=>?_
  ·have g19:s18.2<(v3.length:Int):=gQ;clear g;replace h:=if_l g19 h;refine Qe ?_;refine tn ?_;refine Q5 ?_;replace h:=bind_some h;obtain ⟨e20,h,h20⟩:=h;refine Qj (fun b20:List Int=>⟨[(1,lI p_),(2,lI q_),(3,.adr 0 0 0),(7,.adr 1 0 0),(8,.own 2 0 v3.length),(9,.own 3 0 b20.length),(10,iV s18.2)],[(0,.mix 14 [(Mnd.cells true m_)]),(1,.mix 5 [(Cat.cells true m_.f.s)]),(2,rI v3),(3,rI b20)],4⟩) (fun b20=>b20=e20) ?_ ?_
   ·refine Qc ?_;refine Q5 ?_;refine runQ hN fun K hK=>?_;replace h:=Q6 h;obtain ⟨a21,h⟩:=h;replace h:=Q6 h;obtain ⟨a22,h⟩:=h;simp [-Q0,-Q7,-Q1,-Q8,-Q2,(show (Is p_)[1]? = some [iV (ix p_ 1)] from at_I (j:=1) a21),at_I a22];(repeat with_reducible refine sdQ ?_);replace h:=bind_some h;obtain ⟨v23,hv23,h⟩:=h;refine Q3 (Q14 _ _ _ v23 hv23) (.cons (.aggL (.cons .val (.cons .lst (.cons .lst (.cons .lst (.cons .lst .nil)))))) (.cons .val (.cons .val .nil))) ?_;replace h:=Q6 h;obtain ⟨a24,h⟩:=h;replace h:=Q6 h;obtain ⟨a25,h⟩:=h;replace h:=Q6 h;obtain ⟨a26,h⟩:=h;simp [-Q0,-Q7,-Q1,-Q8,-Q2,unk,unA,unE,unT,unC,flat,at_I a22,at_I a24,at_I a25,(show (Is q_)[1]? = some [iV (ix q_ 1)] from at_I (j:=1) a26)];(repeat with_reducible refine sdQ ?_);replace h:=bind_some h;obtain ⟨v27,hv27,h⟩:=h;refine Q3 (Q14 _ _ _ v27 hv27) (.cons (.aggL (.cons .val (.cons .lst (.cons .lst (.cons .lst (.cons .lst .nil)))))) (.cons .val (.cons .val .nil))) ?_;simp [-Q0,-Q7,-Q1,-Q8,-Q2,unk,unA,unE,unT,unC,flat,at_I a22,at_I a24,at_I a25];(repeat refine sdQ ?_);refine hK _ ?_;clear hK K;refine tn ?_;refine Q9 (st':=⟨[(1,lI p_),(2,lI q_),(3,.adr 0 0 0),(7,.adr 1 0 0),(8,.own 2 0 v3.length),(9,.own 3 0 s18.1.length),(10,iV s18.2),(52,.val (.bool (v23 == v27)))],[(0,.mix 14 [(Mnd.cells true m_)]),(1,.mix 5 [(Cat.cells true m_.f.s)]),(2,rI v3),(3,rI s18.1)],4⟩) (wkQ9 [(0,0),(1,1),(2,2),(3,3)]) ?_;refine Qd rfl (fun g=>?_) fun g=>?_
    ·have g28:v23=v27:=gQ;clear g;replace h:=if_l g28 h;refine runQ hN fun K hK=>?_;replace h:=Q6 h;obtain ⟨a29,h⟩:=h;replace h:=Q6 h;obtain ⟨a30,h⟩:=h;(try simp only [List.length_append,List.length_cons,List.length_nil] at a30);simp [-Q0,-Q7,-Q1,-Q8,-Q2,at_I a29,a30];(repeat refine sdQ ?_);refine hK _ ?_;clear hK K;refine bn ?_;exact jn (b:=s18.1++[ix v3 s18.2]) (Option.some.inj h) (wkQ9 [(0,0),(1,1),(2,2),(6,3)])
    have g28:¬ (v23=v27):=gQ;clear g;replace h:=if_r g28 h;refine Qe ?_;refine bn ?_;exact jn (b:=s18.1) (Option.some.inj h) (wkQ9 [(0,0),(1,1),(2,2),(3,3)])
   intro b20 hb20;have h:=h20;(try rw [← hb20] at h);clear h20;(try dsimp only at h);refine runQ hN fun K hK=>?_;replace h:=Q6 h;obtain ⟨a31,h⟩:=h;simp [-Q0,-Q7,-Q1,-Q8,-Q2,Qu a31];(repeat refine sdQ ?_);refine hK _ ?_;clear hK K;cases h;exact rn (s':=(b20,s18.2+1)) hk18 (wkQ9 [(0,0),(1,1),(2,2),(3,3)])
  have g19:¬ (s18.2<(v3.length:Int)):=gQ;clear g;replace h:=if_r g19 h;refine Qp ?_;refine tx ?_;refine lx ?_;refine bh ?_;cases h;exact jn (b:=s18.1) hk18 (wkQ9 [(3,0)])
 intro b4 hb4;have h:=h4;try rw [← hb4] at h
 clear h4;try dsimp only at h
 refine Q5 ?_;refine runQ hN fun K hK=>?_;simp [-Q0,-Q7,-Q1,-Q8,-Q2];repeat refine sdQ ?_
 refine hK _ ?_;clear hK K;refine tn ?_;refine Q9 (st':=⟨[(6,.own 0 0 b4.length)],[(0,rI b4)],1⟩) (wkQ9 [(0,0)]) ?_;refine Qi ?_;have hr:=Option.some.inj h;rw [← hr];refine ⟨_,(.tmp .nil),?_⟩;refine ⟨(.one rfl rfl .nil),[lI b4],[0],by simp [Cat.cells,Mnd.cells,UA,U1,IA,I1,LA,L1,BA,B1,EA,E1,E2,eB,eI,eL],by simp,(UpL.refl _)⟩
def Alg (m:Mnd) (x h:Int):Prop:=(ix m.f.s.fr h=ix m.f.ob x∧ix m.f.s.to h=x)∧ix (rx m.f.s.cs (ix m.u x)) h=ix m.f.s.id x∧ix (rx m.f.s.cs (ix m.f.ar h)) h=ix (rx m.f.s.cs (ix m.j x)) h
theorem e_alg {m:Mnd} (hm:m.Is) {x h:Int} (hx:0≤x∧x<(m.f.ob.length:Int)) (hh:0≤h∧h<(m.f.s.fr.length:Int)):Q3V m x h=some (bo (Alg m x h))∧Q18 m x h=some (bo (Alg m x h)):=by
 obtain ⟨l1,l2,l3,l4,l5,l6,l7,l8,l9⟩:=hm.pre.len;have hc:=hm.pre.f.s;unfold Q3V Q18 QQ QJ QI
 by_cases h1:ix m.f.s.fr h=ix m.f.ob x
 case neg=>rw [QA (show ¬ Alg m x h from fun q=>h1 q.1.1)];constructor<;>simp (disch:=omega) [Qa,h1]
 by_cases h2:ix m.f.s.to h=x
 case neg=>rw [QA (show ¬ Alg m x h from fun q=>h2 q.1.2)];constructor<;>simp (disch:=omega) [Qa,h1,h2]
 have ah:Ar m.f.s h (ix m.f.ob x) x:=⟨hh,h1,h2⟩;have au:=hm.pre.Au rfl hx;have t1:=Ar.thn hc au ah;have c1:=Ar.two hc au ah;have t2:=Ar.thn hc (hm.pre.Aa rfl ah) ah;have t3:=Ar.thn hc (hm.pre.Aj rfl hx) ah;have u1:=Q2y hc c1.1 c1.2.1
 by_cases h3:ix (rx m.f.s.cs (ix m.u x)) h=ix m.f.s.id x
 case neg =>
  rw [QA (show ¬ Alg m x h from fun q=>h3 q.2.1)];rw [QA h3] at u1;constructor
  ·simp (disch:=omega) only [Qa,t1.1,u1,Option.bind_some];simp (disch:=omega) [h1,h2]
  simp (disch:=omega) only [Qa,t1.2,Option.bind_some];simp (disch:=omega) [Qa,h1,h2,h3]
 rw [QP h3] at u1
 by_cases h4:ix (rx m.f.s.cs (ix m.f.ar h)) h=ix (rx m.f.s.cs (ix m.j x)) h
 ·rw [QP (show Alg m x h from ⟨⟨h1,h2⟩,h3,h4⟩)];constructor
  ·simp (disch:=omega) only [Qa,t1.1,t2.1,t3.1,u1,Option.bind_some];simp (disch:=omega) [h1,h2,h4]
  simp (disch:=omega) only [Qa,t1.2,t2.2,t3.2,Option.bind_some];simp (disch:=omega) [Qa,h1,h2,h3,h4]
 rw [QA (show ¬ Alg m x h from fun q=>h4 q.2.2)];constructor
 ·simp (disch:=omega) only [Qa,t1.1,t2.1,t3.1,u1,Option.bind_some];simp (disch:=omega) [h1,h2,h4]
 simp (disch:=omega) only [Qa,t1.2,t2.2,t3.2,Option.bind_some];simp (disch:=omega) [Qa,h1,h2,h3,h4]
theorem Q8L {ε β:Type} {body:List Int × Int→Option (Ctl (List Int × Int) ε)} {K:ε→Option β} {r:Option β} (xs:List Int) (q:Int→Prop) {e:ε} (hn:xs.length<4611686018427387904)
  (h:∀ (i:Nat) (acc:List Int),i<xs.length→acc.length≤i→(q (ix xs i)→body (acc,(i:Int))=some (.next (acc++[ix xs i],(i:Int)+1)))∧(¬ q (ix xs i)→body (acc,(i:Int))=some (.next (acc,(i:Int)+1))))
  (he:body (xs.filter (fun f=>bo (q f)),(xs.length:Int))=some (.ret e)) (hk:K e=r):(QE body fuel ([],0)).bind K=r:=by
 refine QN xs.length (fun i=>(xs.take i).filter fun f=>bo (q f)) (e:=e) (by simp) hn (fun i hi=>?_) (by simpa using he) hk;have hl:((xs.take i).filter fun f=>bo (q f)).length≤i:=Nat.le_trans (List.length_filter_le _ _) (by simp;omega);have hs:xs.take (i+1)=xs.take i++[ix xs i]:=by rw [List.take_succ_eq_append_getElem hi,Q1G _ _ hi]
 have hf:((xs.take (i+1)).filter fun f=>bo (q f))=((xs.take i).filter fun f=>bo (q f))++(if bo (q (ix xs i))=true then [ix xs i] else []):=by rw [hs,List.filter_append];simp [List.filter_cons]
 obtain ⟨h1,h2⟩:=h i _ hi hl
 by_cases hq:q (ix xs i)
 ·rw [h1 hq,hf,QP hq];simp
 rw [h2 hq,hf,QA hq];simp
theorem Q8V {xs:List Int} {P:Int→Prop} (h:∀ x∈xs,P x) {i:Nat} (hi:i<xs.length):P (ix xs i):=by
 rw [← Q1G _ _ hi];exact h _ (List.getElem_mem hi)
noncomputable def homL (c:Cat) (x y:Int):List Int:=flt c.fr.length fun a=>ix c.fr a=x∧ix c.to a=y
theorem Q44 {c:Cat} {x y:Int}:∀ f∈homL c x y,Ar c f x y:=by
 intro f hf;obtain ⟨i,h1,h2,rfl⟩:=mem_flt.1 hf;exact ⟨by omega,h2⟩
theorem Q4F (c:Cat) (x y:Int):(homL c x y).length≤c.fr.length:=flt_len _ _
theorem Q8H {c:Cat} (h:c.Is) (x y:Int):Q2H c x y=some (homL c x y)∧QW c x y=some (homL c x y):=⟨by rw [e_l02Hom,e_hom h];rfl,e_hom h x y⟩
noncomputable def Q37 (m:Mnd) (x h y k:Int):List Int:=(homL m.f.s x y).filter fun f=>bo (ix (rx m.f.s.cs h) f=ix (rx m.f.s.cs (ix m.f.ar f)) k)
theorem e_maps {m:Mnd} (hm:m.Is) {x h y k:Int} (ax:Alg m x h) (hx:0≤x∧x<(m.f.ob.length:Int)) (hh:0≤h∧h<(m.f.s.fr.length:Int)) (ay:Alg m y k) (hy:0≤y∧y<(m.f.ob.length:Int)) (hk:0≤k∧k<(m.f.s.fr.length:Int)) :
  Q2g m [x,h] [y,k]=some (Q37 m x h y k)∧QS m ⟨x,h⟩ ⟨y,k⟩=some (Q37 m x h y k):=by
 obtain ⟨l1,l2,l3,l4,l5,l6,l7,l8,l9⟩:=hm.pre.len;have hc:=hm.pre.f.s;have Ah:Ar m.f.s h (ix m.f.ob x) x:=⟨hh,ax.1⟩;have Ak:Ar m.f.s k (ix m.f.ob y) y:=⟨hk,ay.1⟩;have hl:=Q4F m.f.s x y;unfold Q2g QS QI;have ix0:∀ a b:Int,ix [a,b] 0=a:=fun _ _=>rfl;have ix1:∀ a b:Int,ix [a,b] 1=b:=fun _ _=>rfl;constructor
 ·rw [Qa (by simp),Qa (by simp)];simp only [ix0,ix1,(Q8H hc x y).1,Option.bind_some];refine Q8L (homL m.f.s x y) (fun f=>ix (rx m.f.s.cs h) f=ix (rx m.f.s.cs (ix m.f.ar f)) k) (e:=Q37 m x h y k) (by omega) (fun i acc hi ha=>?_) (by simp [Q37]) rfl;have af:=Q8V Q44 hi;have t1:=Ar.thn hc Ah af;have t2:=Ar.thn hc (hm.pre.Aa rfl af) Ak;have b1:=af.1;refine ⟨fun hq=>?_,fun hq=>?_⟩
  ·simp (disch:=omega) only [Qa,t1.1,t2.1,Option.bind_some];simp (disch:=omega) [Qa,B64,hq];try omega
  simp (disch:=omega) only [Qa,t1.1,t2.1,Option.bind_some];simp (disch:=omega) [Qa,B64,hq];try omega
 simp only [(Q8H hc x y).2,Option.bind_some];refine Q8L (homL m.f.s x y) (fun f=>ix (rx m.f.s.cs h) f=ix (rx m.f.s.cs (ix m.f.ar f)) k) (e:=Q37 m x h y k) (by omega) (fun i acc hi ha=>?_) (by simp [Q37]) rfl;have af:=Q8V Q44 hi;have t1:=Ar.thn hc Ah af;have t2:=Ar.thn hc (hm.pre.Aa rfl af) Ak;have b1:=af.1;refine ⟨fun hq=>?_,fun hq=>?_⟩
 ·simp (disch:=omega) only [Qa,t1.2,t2.2,Option.bind_some];simp (disch:=omega) [Qa,B64,hq];try omega
 simp (disch:=omega) only [Qa,t1.2,t2.2,Option.bind_some];simp (disch:=omega) [Qa,B64,hq];try omega
theorem Q4i (m:Mnd) (x h y k:Int):(Q37 m x h y k).length≤m.f.s.fr.length:=Nat.le_trans (List.length_filter_le _ _) (Q4F _ _ _)
attribute [local simp] eL eI Qo QH Q1v Cat.cells Mnd.cells
attribute [local simp] Q4 XAlgebra.cells
noncomputable def QT (m_:Mnd):Option (List XAlgebra) :=
 (QE (σ:=List XAlgebra × Int) (ε:=List XAlgebra) (fun s22 =>
  if s22.2<m_.f.s.n then
   (
    (QJ m_ s22.2).bind fun v25 =>
    (QW m_.f.s v25 s22.2).bind fun v26 =>
    (QE (σ:=List XAlgebra × Int) (ε:=List XAlgebra) (fun s34 =>
     if s34.2<(v26.length:Int) then
      (
       ass (0≤s34.2∧s34.2<(v26.length:Int)) <|
       (Q18 m_ s22.2 (ix v26 s34.2)).bind fun v38 =>
       if v38=true then
        ass ((s34.1++[(⟨s22.2,ix v26 s34.2⟩:XAlgebra)]).length≤1073741824) <|
        some (s34.1++[(⟨s22.2,ix v26 s34.2⟩:XAlgebra)])
       else
        some s34.1:Option (List XAlgebra)).bind fun b36 =>
      ass (B64 (s34.2+1)) <|
      some (Ctl.next (b36,s34.2+1))
     else
      some (Ctl.ret s34.1)) fuel (s22.1,0)).bind fun p34 =>
    some p34:Option (List XAlgebra)).bind fun b24 =>
   ass (B64 (s22.2+1)) <|
   some (Ctl.next (b24,s22.2+1))
  else
   some (Ctl.ret s22.1)) fuel ([],0)).bind fun b1 =>
 some b1
theorem Q3Z (m_:Mnd) (r:List XAlgebra) (h:QT m_=some r):FContract Tryz.prog true 101 [.rptr (m_.cells true)] (.lst true 1 (Es Q4 r)):=by
 refine Q2K true (ts:=[2]) (rs:=[.lst true 1 (Es Q4 r)]) Tryz.func101 rfl rfl rfl rfl (by simp [Tryz.f101]) fun F hN hP=>?_;unfold QT at h;refine Q5 ?_;refine Qv [] mo (by rw [hN];decide) fun K hK=>?_;simp [-Q0,-Q7,-Q1,-Q8,-Q2];repeat refine sdQ ?_
 refine hK _ ?_;clear hK K;refine tn ?_;refine Q9 (st':=⟨[(0,.rptr (Mnd.cells true m_))],[],0⟩) (wkQ9 []) ?_;refine Q5 ?_;refine Qv [] mo (by rw [hN];decide) fun K hK=>?_;simp [-Q0,-Q7,-Q1,-Q8,-Q2];repeat refine sdQ ?_
 refine hK _ ?_;clear hK K;refine tn ?_;refine Q9 (st':=⟨[(0,.rptr (Mnd.cells true m_)),(3,.rptr (Mnd.cells true m_))],[],0⟩) (wkQ9 []) ?_;refine Q5 ?_;refine Qv [] mo (by rw [hN];decide) fun K hK=>?_;simp [-Q0,-Q7,-Q1,-Q8,-Q2];repeat refine sdQ ?_
 refine hK _ ?_;clear hK K;refine tn ?_;refine Q9 (st':=⟨[(0,.rptr (Mnd.cells true m_)),(3,.rptr (Mnd.cells true m_)),(4,.own 0 0 0)],[(0,.mix 1 [])],1⟩) (wkQ9 [(0,0)]) ?_;refine Q5 ?_;refine Q5 ?_;refine Qv [] mo (by rw [hN];decide) fun K hK=>?_;simp [-Q0,-Q7,-Q1,-Q8,-Q2];repeat refine sdQ ?_
 refine hK _ ?_;clear hK K;refine tn ?_;refine Q9 (st':=⟨[(0,.rptr (Mnd.cells true m_)),(3,.rptr (Mnd.cells true m_)),(4,.own 0 0 0),(5,iV 0)],[(0,.mix 1 [])],1⟩) (wkQ9 [(0,0)]) ?_;replace h:=bind_some h;obtain ⟨e1,h,h1⟩:=h;refine Qj (fun b1:List XAlgebra=>⟨[(4,.own 0 0 b1.length)],[(0,.mix 1 (Es Q4 b1))],1⟩) (fun b1=>b1=e1) ?_ ?_
 ·refine Qc ?_;refine Qz h (fun s22:List XAlgebra × Int=>⟨[(0,.rptr (Mnd.cells true m_)),(3,.rptr (Mnd.cells true m_)),(4,.own 0 0 s22.1.length),(5,iV s22.2)],[(0,.mix 1 (Es Q4 s22.1))],1⟩) (wkQ9 [(0,0)]) ?_;clear h;intro k22 s22 c22 h hk22;refine Q5 ?_;refine Q5 ?_;refine Qv [] mo (by rw [hN];decide) fun K hK=>?_;simp [-Q0,-Q7,-Q1,-Q8,-Q2];repeat refine sdQ ?_
  refine hK _ ?_;clear hK K;refine tn ?_;refine Q9 (st':=⟨[(0,.rptr (Mnd.cells true m_)),(3,.rptr (Mnd.cells true m_)),(4,.own 0 0 s22.1.length),(5,iV s22.2),(18,.val (.bool (decide (s22.2<m_.f.s.n))))],[(0,.mix 1 (Es Q4 s22.1))],1⟩) (wkQ9 [(0,0)]) ?_;refine Qd rfl (fun g=>?_) fun g=>?_
  ·have g23:s22.2<m_.f.s.n:=gQ;clear g;replace h:=if_l g23 h;refine Qe ?_;refine tn ?_;refine Q5 ?_;replace h:=bind_some h;obtain ⟨e24,h,h24⟩:=h;refine Qj (fun b24:List XAlgebra=>⟨[(0,.rptr (Mnd.cells true m_)),(3,.rptr (Mnd.cells true m_)),(4,.own 0 0 b24.length),(5,iV s22.2)],[(0,.mix 1 (Es Q4 b24))],1⟩) (fun b24=>b24=e24) ?_ ?_
   ·refine Qc ?_;refine Q5 ?_;refine Qv [] mo (by rw [hN];decide) fun K hK=>?_;simp [-Q0,-Q7,-Q1,-Q8,-Q2];(repeat with_reducible refine sdQ ?_);replace h:=bind_some h;obtain ⟨v25,hv25,h⟩:=h;refine QL (fz:=[]) (Q1V _ _ v25 hv25) (.cons (.preT (by simp [Cat.cells,Mnd.cells])) (.cons .val .nil)) ?_;simp [-Q0,-Q7,-Q1,-Q8,-Q2,unk,unA,unE,unT,unC,flat];(repeat with_reducible refine sdQ ?_);replace h:=bind_some h;obtain ⟨v26,hv26,h⟩:=h;refine QL (fz:=[]) (Q3F _ _ _ v26 hv26) (.cons (.preT (by simp [Cat.cells,Mnd.cells])) (.cons .val (.cons .val .nil))) ?_;simp [-Q0,-Q7,-Q1,-Q8,-Q2,unk,unA,unE,unT,unC,flat];(repeat refine sdQ ?_);refine hK _ ?_;clear hK K;refine tn ?_;refine Q9 (st':=⟨[(0,.rptr (Mnd.cells true m_)),(3,.rptr (Mnd.cells true m_)),(4,.own 0 0 s22.1.length),(5,iV s22.2),(26,.own 1 0 v26.length),(27,iV (v26.length:Int)),(28,iV 0)],[(0,.mix 1 (Es Q4 s22.1)),(1,rI v26)],2⟩) (wkQ9 [(0,0),(2,1)]) ?_;refine Qc ?_;replace h:=bind_some h;obtain ⟨e34,he34,h34⟩:=h;refine Qz he34 (fun s34:List XAlgebra × Int=>⟨[(0,.rptr (Mnd.cells true m_)),(3,.rptr (Mnd.cells true m_)),(4,.own 0 0 s34.1.length),(5,iV s22.2),(26,.own 1 0 v26.length),(27,iV (v26.length:Int)),(28,iV s34.2)],[(0,.mix 1 (Es Q4 s34.1)),(1,rI v26)],2⟩) (wkQ9 [(0,0),(1,1)]) ?_;intro k34 s34 c34 h hk34;refine Q5 ?_;refine Qv [] mo (by rw [hN];decide) fun K hK=>?_;simp [-Q0,-Q7,-Q1,-Q8,-Q2];(repeat refine sdQ ?_);refine hK _ ?_;clear hK K;refine tn ?_;refine Q9 (st':=⟨[(0,.rptr (Mnd.cells true m_)),(3,.rptr (Mnd.cells true m_)),(4,.own 0 0 s34.1.length),(5,iV s22.2),(26,.own 1 0 v26.length),(27,iV (v26.length:Int)),(28,iV s34.2),(29,.val (.bool (decide (s34.2<(v26.length:Int)))))],[(0,.mix 1 (Es Q4 s34.1)),(1,rI v26)],2⟩) (wkQ9 [(0,0),(1,1)]) ?_;refine Q5 ?_;refine Qd rfl (fun g=>?_) fun g=>?_
    ·have g35:s34.2<(v26.length:Int):=gQ;clear g;replace h:=if_l g35 h;refine Qe ?_;refine tn ?_;refine Q5 ?_;replace h:=bind_some h;obtain ⟨e36,h,h36⟩:=h;refine Qj (fun b36:List XAlgebra=>⟨[(0,.rptr (Mnd.cells true m_)),(3,.rptr (Mnd.cells true m_)),(4,.own 0 0 b36.length),(5,iV s22.2),(26,.own 1 0 v26.length),(27,iV (v26.length:Int)),(28,iV s34.2)],[(0,.mix 1 (Es Q4 b36)),(1,rI v26)],2⟩) (fun b36=>b36=e36) ?_ ?_
     ·refine Qc ?_;refine Q5 ?_;refine Qv [] mo (by rw [hN];decide) fun K hK=>?_;replace h:=Q6 h;obtain ⟨a37,h⟩:=h;simp [-Q0,-Q7,-Q1,-Q8,-Q2,at_I a37];(repeat refine sdQ ?_);refine hK _ ?_;clear hK K;refine tn ?_;refine Q9 (st':=⟨[(0,.rptr (Mnd.cells true m_)),(3,.rptr (Mnd.cells true m_)),(4,.own 0 0 s34.1.length),(5,iV s22.2),(7,iV (ix v26 s34.2)),(26,.own 1 0 v26.length),(27,iV (v26.length:Int)),(28,iV s34.2)],[(0,.mix 1 (Es Q4 s34.1)),(1,rI v26)],2⟩) (wkQ9 [(0,0),(1,1)]) ?_;refine Q5 ?_;refine Qv [] mo (by rw [hN];decide) fun K hK=>?_;simp [-Q0,-Q7,-Q1,-Q8,-Q2];(repeat with_reducible refine sdQ ?_);replace h:=bind_some h;obtain ⟨v38,hv38,h⟩:=h;refine QL (fz:=[]) (Q4v _ _ _ v38 hv38) (.cons (.preT (by simp [Cat.cells,Mnd.cells])) (.cons .val (.cons .val .nil))) ?_;simp [-Q0,-Q7,-Q1,-Q8,-Q2,unk,unA,unE,unT,unC,flat];(repeat refine sdQ ?_);refine hK _ ?_;clear hK K;refine tn ?_;refine Q9 (st':=⟨[(0,.rptr (Mnd.cells true m_)),(3,.rptr (Mnd.cells true m_)),(4,.own 0 0 s34.1.length),(5,iV s22.2),(7,iV (ix v26 s34.2)),(26,.own 1 0 v26.length),(27,iV (v26.length:Int)),(28,iV s34.2),(35,.val (.bool v38))],[(0,.mix 1 (Es Q4 s34.1)),(1,rI v26)],2⟩) (wkQ9 [(0,0),(1,1)]) ?_;refine Qd rfl (fun g=>?_) fun g=>?_
      ·have g39:v38=true:=gQ;clear g;replace h:=if_l g39 h;refine Qv [40,42] mo (by rw [hN];decide) fun K hK=>?_;replace h:=Q6 h;obtain ⟨a40,h⟩:=h;(try simp only [List.length_append,List.length_cons,List.length_nil] at a40);simp [-Q0,-Q7,-Q1,-Q8,-Q2,a40];(repeat refine sdQ ?_);refine hK _ ?_;clear hK K;refine bn ?_;exact jn (b:=s34.1++[(⟨s22.2,ix v26 s34.2⟩:XAlgebra)]) (Option.some.inj h) (wkQ9 [(3,0),(1,1)])
      have g39:¬ (v38=true):=gQ;clear g;replace h:=if_r g39 h;refine Qe ?_;refine bn ?_;exact jn (b:=s34.1) (Option.some.inj h) (wkQ9 [(0,0),(1,1)])
     intro b36 hb36;have h:=h36;(try rw [← hb36] at h);clear h36;(try dsimp only at h);refine Qv [] mo (by rw [hN];decide) fun K hK=>?_;replace h:=Q6 h;obtain ⟨a41,h⟩:=h;simp [-Q0,-Q7,-Q1,-Q8,-Q2,Qu a41];(repeat refine sdQ ?_);refine hK _ ?_;clear hK K;cases h;exact rn (s':=(b36,s34.2+1)) hk34 (wkQ9 [(0,0),(1,1)])
    have g35:¬ (s34.2<(v26.length:Int)):=gQ;clear g;replace h:=if_r g35 h;refine Qp ?_;refine tx ?_;refine lx ?_;refine bh ?_;refine bn ?_;cases h;have q:_=e34:=hk34;have h:=h34;rw [← q] at h;clear q;(try dsimp only at h);exact jn (b:=s34.1) (Option.some.inj h) (wkQ9 [(0,0)])
   intro b24 hb24;have h:=h24;(try rw [← hb24] at h);clear h24;(try dsimp only at h);refine Qv [] mo (by rw [hN];decide) fun K hK=>?_;replace h:=Q6 h;obtain ⟨a42,h⟩:=h;simp [-Q0,-Q7,-Q1,-Q8,-Q2,Qu a42];(repeat refine sdQ ?_);refine hK _ ?_;clear hK K;cases h;exact rn (s':=(b24,s22.2+1)) hk22 (wkQ9 [(0,0)])
  have g23:¬ (s22.2<m_.f.s.n):=gQ;clear g;replace h:=if_r g23 h;refine Qp ?_;refine tx ?_;refine lx ?_;refine bh ?_;cases h;exact jn (b:=s22.1) hk22 (wkQ9 [(0,0)])
 intro b1 hb1;have h:=h1;try rw [← hb1] at h
 clear h1;try dsimp only at h
 refine Q5 ?_;refine Qv [] mo (by rw [hN];decide) fun K hK=>?_;simp [-Q0,-Q7,-Q1,-Q8,-Q2];repeat refine sdQ ?_
 refine hK _ ?_;clear hK K;refine tn ?_;refine Q9 (st':=⟨[(2,.own 0 0 b1.length)],[(0,.mix 1 (Es Q4 b1))],1⟩) (wkQ9 [(0,0)]) ?_;refine Qi ?_;have hr:=Option.some.inj h;rw [← hr];exact (.two (.smix rfl (by simp) (Q9w (by simp [Cat.cells,Mnd.cells,QH,Q1v]))) .nil)
end Go.Vc.T
