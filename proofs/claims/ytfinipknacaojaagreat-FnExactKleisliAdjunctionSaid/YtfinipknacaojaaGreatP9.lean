/- A part of the proof: a verified generator of conditions, and what each function of the program does. -/
import Derived.Test.YtfinipknacaojaaGreatP8
set_option maxRecDepth 100000
set_option maxHeartbeats 4000000
set_option linter.unusedSimpArgs false
set_option linter.unusedVariables false

namespace Go.Vc.T
open Go Go.Vc Go.Proofs
noncomputable def Q1T (f_:Fn) (g_:Fn) (components_:List Int) (a_:Int):Option Bool :=
 ass (0≤a_∧a_<(f_.ar.length:Int)) <|
 ass (0≤a_∧a_<(f_.s.to.length:Int)) <|
 ass (0≤ix f_.s.to a_∧ix f_.s.to a_<(components_.length:Int)) <|
 (Qo f_.t (ix f_.ar a_) (ix components_ (ix f_.s.to a_))).bind fun v4 =>
 ass (0≤a_∧a_<(f_.s.fr.length:Int)) <|
 ass (0≤ix f_.s.fr a_∧ix f_.s.fr a_<(components_.length:Int)) <|
 ass (0≤a_∧a_<(g_.ar.length:Int)) <|
 (Qo f_.t (ix components_ (ix f_.s.fr a_)) (ix g_.ar a_)).bind fun v8 =>
 some (v4 == v8)
theorem Q7c (f_:Fn) (g_:Fn) (components_:List Int) (a_:Int) (r:Bool) (h:Q1T f_ g_ components_ a_=some r):Contract Tryz.prog 136 [.rptr (f_.cells true),.rptr (g_.cells true),.lst true 1 (Is components_),.val (.int .i64 a_)] (.val (.bool r)):=by
 refine Qi (rvs:=[.tmp 8]) (rs:=[.val (.bool r)]) Tryz.func136 rfl rfl rfl rfl (by simp [Tryz.f136]) fun F hN hP=>?_
 unfold Q1T at h
 refine Q6 ?_
 refine runQ hN fun K hK=>?_
 simp [-Q0,-Q8,-Q3,-Q9,-Q4,eL,eI,Q1,Q5,Qd,Cat.cells,Fn.cells]
 repeat with_reducible refine sdQ ?_
 refine hK _ ?_;clear hK K
 refine tn ?_
 refine Qa (st':=⟨[(0,.rptr (Fn.cells true f_)),(1,.rptr (Fn.cells true g_)),(2,.lst true 1 (Is components_)),(3,.val (.int .i64 a_))],[],0⟩) (Wk.r1 [] (by simp [hP,hhOk,back,Cat.cells,Fn.cells,UA,U1,IA,I1,LA,L1,BA,B1,EA,E1,E2,eB,eI,eL])) ?_
 refine Q6 ?_
 refine runQ hN fun K hK=>?_
 simp [-Q0,-Q8,-Q3,-Q9,-Q4,eL,eI,Q1,Q5,Qd,Cat.cells,Fn.cells]
 repeat with_reducible refine sdQ ?_
 refine hK _ ?_;clear hK K
 refine tn ?_
 refine Qa (st':=⟨[(0,.rptr (Fn.cells true f_)),(1,.rptr (Fn.cells true g_)),(2,.lst true 1 (Is components_)),(3,.val (.int .i64 a_)),(9,.rptr (Fn.cells true f_)),(10,.rptr [.val (.int .i64 f_.t.n),.lst true 1 (Is f_.t.fr),.lst true 1 (Is f_.t.to),.lst true 1 (Is f_.t.id),.lst true 1 (Ls f_.t.cs),.lst true 1 (Is f_.ob),.lst true 1 (Is f_.ar)])],[],0⟩) (Wk.r1 [] (by simp [hP,hhOk,back,Cat.cells,Fn.cells,UA,U1,IA,I1,LA,L1,BA,B1,EA,E1,E2,eB,eI,eL])) ?_
 refine Q6 ?_
 refine runQ hN fun K hK=>?_
 replace h:=Q7 h
 obtain ⟨a1,h⟩:=h
 replace h:=Q7 h
 obtain ⟨a2,h⟩:=h
 replace h:=Q7 h
 obtain ⟨a3,h⟩:=h
 simp [-Q0,-Q8,-Q3,-Q9,-Q4,eL,eI,Q1,Q5,Qd,Cat.cells,Fn.cells,at_I a1,at_I a2,at_I a3]
 repeat with_reducible refine sdQ ?_
 replace h:=bind_some h
 obtain ⟨v4,hv4,h⟩:=h
 refine Q2 (QB _ _ _ v4 hv4) (.cons (.preT (by simp [Cat.cells,Fn.cells])) (.cons .val (.cons .val .nil))) ?_
 replace h:=Q7 h
 obtain ⟨a5,h⟩:=h
 replace h:=Q7 h
 obtain ⟨a6,h⟩:=h
 replace h:=Q7 h
 obtain ⟨a7,h⟩:=h
 simp [-Q0,-Q8,-Q3,-Q9,-Q4,unk,unA,unE,unT,unC,flat,eL,eI,Q1,Q5,Qd,Cat.cells,Fn.cells,at_I a1,at_I a2,at_I a3,at_I a5,at_I a6,at_I a7]
 repeat with_reducible refine sdQ ?_
 replace h:=bind_some h
 obtain ⟨v8,hv8,h⟩:=h
 refine Q2 (QB _ _ _ v8 hv8) (.cons (.preT (by simp [Cat.cells,Fn.cells])) (.cons .val (.cons .val .nil))) ?_
 simp [-Q0,-Q8,-Q3,-Q9,-Q4,unk,unA,unE,unT,unC,flat,eL,eI,Q1,Q5,Qd,Cat.cells,Fn.cells,at_I a1,at_I a2,at_I a3,at_I a5,at_I a6,at_I a7]
 repeat with_reducible refine sdQ ?_
 refine hK _ ?_;clear hK K
 refine tn ?_
 refine Qa (st':=⟨[(8,.val (.bool (v4 == v8)))],[],0⟩) (Wk.r1 [] (by simp [hP,hhOk,back,Cat.cells,Fn.cells,UA,U1,IA,I1,LA,L1,BA,B1,EA,E1,E2,eB,eI,eL])) ?_
 refine Qk ?_
 have hr:=Option.some.inj h
 rw [← hr]
 refine ⟨_,(.tmp .nil),?_⟩
 refine ⟨(.one rfl rfl .nil),[.val (.bool (v4 == v8))],[],by simp [Cat.cells,Fn.cells,UA,U1,IA,I1,LA,L1,BA,B1,EA,E1,E2,eB,eI,eL],by simp,(UpL.refl _)⟩
end Go.Vc.T
namespace Go.Vc.T
open Go Go.Vc Go.Proofs
noncomputable def QA (t_:Tra):Option Int :=
 (QH (σ:=Int) (ε:=Unit ⊕ Int) (fun s6 =>
  if s6<(t_.s.ar.length:Int) then
   (Q1T t_.s t_.t t_.p s6).bind fun v8 =>
   if ¬ (v8=true) then
    some (Ctl.ret (Sum.inr s6))
   else
    ass (B64 (s6+1)) <|
    some (Ctl.next (s6+1))
  else
   some (Ctl.ret (Sum.inl ()))) fuel 0).bind fun e1 =>
 match e1 with
 | .inl b1 =>
  some (-1)
 | .inr p1 =>
  some p1
theorem Q2q (t_:Tra) (r:Int) (h:QA t_=some r):Contract Tryz.prog 135 [.rptr (t_.cells true),.fn 136 []] (.val (.int .i64 r)):=by
 refine Qi (rvs:=[.tmp 4]) (rs:=[.val (.int .i64 r)]) Tryz.func135 rfl rfl rfl rfl (by simp [Tryz.f135]) fun F hN hP=>?_
 unfold QA at h
 refine Q6 ?_
 refine runQ hN fun K hK=>?_
 simp [-Q0,-Q8,-Q3,-Q9,-Q4,eL,eI,Q1,Qd,Qu,Fn.cells,Tra.cells]
 repeat with_reducible refine sdQ ?_
 refine hK _ ?_;clear hK K
 refine tn ?_
 refine Qa (st':=⟨[(0,.rptr (Tra.cells true t_)),(1,.fn 136 [])],[],0⟩) (Wk.r1 [] (by simp [hP,hhOk,back,Fn.cells,Tra.cells,UA,U1,IA,I1,LA,L1,BA,B1,EA,E1,E2,eB,eI,eL])) ?_
 refine Q6 ?_
 refine Q6 ?_
 refine runQ hN fun K hK=>?_
 simp [-Q0,-Q8,-Q3,-Q9,-Q4,eL,eI,Q1,Qd,Qu,Fn.cells,Tra.cells]
 repeat with_reducible refine sdQ ?_
 refine hK _ ?_;clear hK K
 refine tn ?_
 refine Qa (st':=⟨[(0,.rptr (Tra.cells true t_)),(1,.fn 136 []),(11,.val (.int .i64 (t_.s.ar.length:Int))),(12,.val (.int .i64 0))],[],0⟩) (Wk.r1 [] (by simp [hP,hhOk,back,Fn.cells,Tra.cells,UA,U1,IA,I1,LA,L1,BA,B1,EA,E1,E2,eB,eI,eL])) ?_
 replace h:=bind_some h
 obtain ⟨e1,h,h1⟩:=h
 refine Qm (fun b1:Unit=>⟨[],[],0⟩) (fun b1=>Sum.inl b1=e1) ?_ ?_
 ·refine Qf ?_
  refine Qy h (fun s6:Int=>⟨[(0,.rptr (Tra.cells true t_)),(1,.fn 136 []),(11,.val (.int .i64 (t_.s.ar.length:Int))),(12,.val (.int .i64 s6))],[],0⟩) (Wk.r1 [] (by simp [hP,hhOk,back,Fn.cells,Tra.cells,UA,U1,IA,I1,LA,L1,BA,B1,EA,E1,E2,eB,eI,eL])) ?_
  clear h
  intro k6 s6 c6 h hk6
  refine Q6 ?_
  refine runQ hN fun K hK=>?_
  simp [-Q0,-Q8,-Q3,-Q9,-Q4,eL,eI,Q1,Qd,Qu,Fn.cells,Tra.cells]
  repeat with_reducible refine sdQ ?_
  refine hK _ ?_;clear hK K
  refine tn ?_
  refine Qa (st':=⟨[(0,.rptr (Tra.cells true t_)),(1,.fn 136 []),(11,.val (.int .i64 (t_.s.ar.length:Int))),(12,.val (.int .i64 s6)),(13,.val (.bool (decide (s6<(t_.s.ar.length:Int)))))],[],0⟩) (Wk.r1 [] (by simp [hP,hhOk,back,Fn.cells,Tra.cells,UA,U1,IA,I1,LA,L1,BA,B1,EA,E1,E2,eB,eI,eL])) ?_
  refine Q6 ?_
  refine Qg rfl (fun g=>?_) fun g=>?_
  ·have g7:s6<(t_.s.ar.length:Int):=gQ
   clear g
   replace h:=if_l g7 h
   refine Qh ?_
   refine tn ?_
   refine Q6 ?_
   refine Qf ?_
   refine Q6 ?_
   refine runQ hN fun K hK=>?_
   simp [-Q0,-Q8,-Q3,-Q9,-Q4,eL,eI,Q1,Qd,Qu,Fn.cells,Tra.cells]
   repeat with_reducible refine sdQ ?_
   refine hK _ ?_;clear hK K
   refine tn ?_
   refine Qa (st':=⟨[(0,.rptr (Tra.cells true t_)),(1,.fn 136 []),(5,.val (.int .i64 s6)),(11,.val (.int .i64 (t_.s.ar.length:Int))),(12,.val (.int .i64 s6))],[],0⟩) (Wk.r1 [] (by simp [hP,hhOk,back,Fn.cells,Tra.cells,UA,U1,IA,I1,LA,L1,BA,B1,EA,E1,E2,eB,eI,eL])) ?_
   refine Q6 ?_
   refine runQ hN fun K hK=>?_
   simp [-Q0,-Q8,-Q3,-Q9,-Q4,eL,eI,Q1,Qd,Qu,Fn.cells,Tra.cells]
   repeat with_reducible refine sdQ ?_
   replace h:=bind_some h
   obtain ⟨v8,hv8,h⟩:=h
   refine Q2 (Q7c _ _ _ _ v8 hv8) (.cons (.preT (by simp [Fn.cells,Tra.cells])) (.cons (.preT (by simp [Fn.cells,Tra.cells])) (.cons .lst (.cons .val .nil)))) ?_
   simp [-Q0,-Q8,-Q3,-Q9,-Q4,unk,unA,unE,unT,unC,flat,eL,eI,Q1,Qd,Qu,Fn.cells,Tra.cells]
   repeat with_reducible refine sdQ ?_
   refine hK _ ?_;clear hK K
   refine tn ?_
   refine Qa (st':=⟨[(0,.rptr (Tra.cells true t_)),(1,.fn 136 []),(5,.val (.int .i64 s6)),(11,.val (.int .i64 (t_.s.ar.length:Int))),(12,.val (.int .i64 s6)),(28,.val (.bool (!v8)))],[],0⟩) (Wk.r1 [] (by simp [hP,hhOk,back,Fn.cells,Tra.cells,UA,U1,IA,I1,LA,L1,BA,B1,EA,E1,E2,eB,eI,eL])) ?_
   refine Qg rfl (fun g=>?_) fun g=>?_
   ·have g9:¬ (v8=true):=gQ
    clear g
    replace h:=if_l g9 h
    refine Q6 ?_
    refine runQ hN fun K hK=>?_
    simp [-Q0,-Q8,-Q3,-Q9,-Q4,eL,eI,Q1,Qd,Qu,Fn.cells,Tra.cells]
    repeat with_reducible refine sdQ ?_
    refine hK _ ?_;clear hK K
    refine tn ?_
    refine Qa (st':=⟨[(4,.val (.int .i64 s6))],[],0⟩) (Wk.r1 [] (by simp [hP,hhOk,back,Fn.cells,Tra.cells,UA,U1,IA,I1,LA,L1,BA,B1,EA,E1,E2,eB,eI,eL])) ?_
    refine Qk ?_
    refine br ?_
    refine tr ?_
    refine lr ?_
    refine br ?_
    refine tr ?_
    cases h
    have q:_=e1:=hk6
    have h:=h1
    rw [← q] at h
    clear q
    try dsimp only at h
    have hr:=Option.some.inj h
    rw [← hr]
    refine ⟨_,(.tmp .nil),?_⟩
    refine ⟨(.one rfl rfl .nil),[.val (.int .i64 s6)],[],by simp [Fn.cells,Tra.cells,UA,U1,IA,I1,LA,L1,BA,B1,EA,E1,E2,eB,eI,eL],by simp,(UpL.refl _)⟩
   have g9:¬ (¬ (v8=true)):=gQ
   clear g
   replace h:=if_r g9 h
   refine Qh ?_
   refine bn ?_
   refine tn ?_
   refine runQ hN fun K hK=>?_
   replace h:=Q7 h
   obtain ⟨a10,h⟩:=h
   simp [-Q0,-Q8,-Q3,-Q9,-Q4,eL,eI,Q1,Qd,Qu,Fn.cells,Tra.cells,Qw a10]
   repeat with_reducible refine sdQ ?_
   refine hK _ ?_;clear hK K
   cases h
   exact rn (s':=s6+1) hk6 (Wk.r1 [] (by simp [hP,hhOk,back,Fn.cells,Tra.cells,UA,U1,IA,I1,LA,L1,BA,B1,EA,E1,E2,eB,eI,eL]))
  have g7:¬ (s6<(t_.s.ar.length:Int)):=gQ
  clear g
  replace h:=if_r g7 h
  refine Qp ?_
  refine tx ?_
  refine lx ?_
  refine bh ?_
  cases h
  exact jn (b:=()) hk6 (Wk.r1 [] (by simp [hP,hhOk,back,Fn.cells,Tra.cells,UA,U1,IA,I1,LA,L1,BA,B1,EA,E1,E2,eB,eI,eL]))
 intro b1 hb1
 have h:=h1
 rw [← hb1] at h
 clear h1
 try dsimp only at h
 refine Q6 ?_
 refine runQ hN fun K hK=>?_
 simp [-Q0,-Q8,-Q3,-Q9,-Q4,eL,eI,Q1,Qd,Qu,Fn.cells,Tra.cells]
 repeat with_reducible refine sdQ ?_
 refine hK _ ?_;clear hK K
 refine tn ?_
 refine Qa (st':=⟨[(4,.val (.int .i64 (-1)))],[],0⟩) (Wk.r1 [] (by simp [hP,hhOk,back,Fn.cells,Tra.cells,UA,U1,IA,I1,LA,L1,BA,B1,EA,E1,E2,eB,eI,eL])) ?_
 refine Qk ?_
 have hr:=Option.some.inj h
 rw [← hr]
 refine ⟨_,(.tmp .nil),?_⟩
 refine ⟨(.one rfl rfl .nil),[.val (.int .i64 (-1))],[],by simp [Fn.cells,Tra.cells,UA,U1,IA,I1,LA,L1,BA,B1,EA,E1,E2,eB,eI,eL],by simp,(UpL.refl _)⟩
end Go.Vc.T
namespace Go.Vc.T
open Go Go.Vc Go.Proofs
noncomputable def QC (t_:Tra):Option Bool :=
 (
  (QF t_).bind fun v2 =>
  if v2=true then
   (QA t_).bind fun v4 =>
   some (decide (v4<0))
  else
   some false:Option (Bool)).bind fun b1 =>
 some b1
theorem Q2p (t_:Tra) (r:Bool) (h:QC t_=some r):Contract Tryz.prog 100 [.rptr (t_.cells true)] (.val (.bool r)):=by
 refine Qi (rvs:=[.tmp 2]) (rs:=[.val (.bool r)]) Tryz.func100 rfl rfl rfl rfl (by simp [Tryz.f100]) fun F hN hP=>?_
 unfold QC at h
 refine Q6 ?_
 refine runQ hN fun K hK=>?_
 simp [-Q0,-Q8,-Q3,-Q9,-Q4,eL,eI,Q1,Qu,Tra.cells]
 repeat with_reducible refine sdQ ?_
 refine hK _ ?_;clear hK K
 refine tn ?_
 refine Qa (st':=⟨[(0,.rptr (Tra.cells true t_))],[],0⟩) (Wk.r1 [] (by simp [hP,hhOk,back,Tra.cells,UA,U1,IA,I1,LA,L1,BA,B1,EA,E1,E2,eB,eI,eL])) ?_
 refine Q6 ?_
 replace h:=bind_some h
 obtain ⟨e1,h,h1⟩:=h
 refine Qm (fun b1:Bool=>⟨[(2,.val (.bool b1))],[],0⟩) (fun b1=>b1=e1) ?_ ?_
 ·refine runQ hN fun K hK=>?_
  simp [-Q0,-Q8,-Q3,-Q9,-Q4,eL,eI,Q1,Qu,Tra.cells]
  repeat with_reducible refine sdQ ?_
  replace h:=bind_some h
  obtain ⟨v2,hv2,h⟩:=h
  refine Q2 (Q2H _ v2 hv2) (.cons (.preT (by simp [Tra.cells])) .nil) ?_
  simp [-Q0,-Q8,-Q3,-Q9,-Q4,unk,unA,unE,unT,unC,flat,eL,eI,Q1,Qu,Tra.cells]
  repeat with_reducible refine sdQ ?_
  refine Qq (fun g=>?_) (fun g=>?_)
  ·have g3:v2=true:=gQ
   clear g
   replace h:=if_l g3 h
   simp [-Q0,-Q8,-Q3,-Q9,-Q4,eL,eI,Q1,Qu,Tra.cells]
   repeat with_reducible refine sdQ ?_
   replace h:=bind_some h
   obtain ⟨v4,hv4,h⟩:=h
   refine Q2 (Q2q _ v4 hv4) (.cons (.preT (by simp [Tra.cells])) (.cons (.fnL (by simp) .nil) .nil)) ?_
   simp [-Q0,-Q8,-Q3,-Q9,-Q4,unk,unA,unE,unT,unC,flat,eL,eI,Q1,Qu,Tra.cells]
   repeat with_reducible refine sdQ ?_
   refine hK _ ?_
   exact jn (b:=decide (v4<0)) (Option.some.inj h) (Wk.r1 [] (by simp [hP,hhOk,back,Tra.cells,UA,U1,IA,I1,LA,L1,BA,B1,EA,E1,E2,eB,eI,eL]))
  have g3:¬ (v2=true):=gQ
  clear g
  replace h:=if_r g3 h
  simp [-Q0,-Q8,-Q3,-Q9,-Q4,eL,eI,Q1,Qu,Tra.cells]
  repeat with_reducible refine sdQ ?_
  refine hK _ ?_
  exact jn (b:=false) (Option.some.inj h) (Wk.r1 [] (by simp [hP,hhOk,back,Tra.cells,UA,U1,IA,I1,LA,L1,BA,B1,EA,E1,E2,eB,eI,eL]))
 intro b1 hb1
 have h:=h1
 rw [← hb1] at h
 clear h1
 try dsimp only at h
 refine Qk ?_
 have hr:=Option.some.inj h
 rw [← hr]
 refine ⟨_,(.tmp .nil),?_⟩
 refine ⟨(.one rfl rfl .nil),[.val (.bool b1)],[],by simp [Tra.cells,UA,U1,IA,I1,LA,L1,BA,B1,EA,E1,E2,eB,eI,eL],by simp,(UpL.refl _)⟩
end Go.Vc.T
namespace Go.Vc.T
open Go Go.Vc Go.Proofs
noncomputable def Q1H (list_:List Tra):Option Bool :=
 (QH (σ:=Int) (ε:=Unit ⊕ Bool) (fun s7 =>
  if s7<(list_.length:Int) then
   ass (0≤s7∧s7<(list_.length:Int)) <|
   (QC (gx list_ s7)).bind fun v10 =>
   if ¬ (v10=true) then
    some (Ctl.ret (Sum.inr false))
   else
    ass (B64 (s7+1)) <|
    some (Ctl.next (s7+1))
  else
   some (Ctl.ret (Sum.inl ()))) fuel 0).bind fun e1 =>
 match e1 with
 | .inl b1 =>
  some true
 | .inr p1 =>
  some p1
theorem Q5D (list_:List Tra) (r:Bool) (h:Q1H list_=some r):Contract Tryz.prog 116 [.lst true 1 (Es Qu list_)] (.val (.bool r)):=by
 refine Qi (rvs:=[.tmp 2]) (rs:=[.val (.bool r)]) Tryz.func116 rfl rfl rfl rfl (by simp [Tryz.f116]) fun F hN hP=>?_
 unfold Q1H at h
 refine Q6 ?_
 refine runQ hN fun K hK=>?_
 simp [-Q0,-Q8,-Q3,-Q9,-Q4,eL,eI,Q1,Qu,Tra.cells]
 repeat with_reducible refine sdQ ?_
 refine hK _ ?_;clear hK K
 refine tn ?_
 refine Qa (st':=⟨[(0,.lst true 1 (Es Qu list_))],[],0⟩) (Wk.r1 [] (by simp [hP,hhOk,back,Tra.cells,UA,U1,IA,I1,LA,L1,BA,B1,EA,E1,E2,eB,eI,eL])) ?_
 refine Q6 ?_
 refine Q6 ?_
 refine runQ hN fun K hK=>?_
 simp [-Q0,-Q8,-Q3,-Q9,-Q4,eL,eI,Q1,Qu,Tra.cells]
 repeat with_reducible refine sdQ ?_
 refine hK _ ?_;clear hK K
 refine tn ?_
 refine Qa (st':=⟨[(5,.lst true 1 (Es Qu list_)),(6,.val (.int .i64 (list_.length:Int))),(7,.val (.int .i64 0))],[],0⟩) (Wk.r1 [] (by simp [hP,hhOk,back,Tra.cells,UA,U1,IA,I1,LA,L1,BA,B1,EA,E1,E2,eB,eI,eL])) ?_
 replace h:=bind_some h
 obtain ⟨e1,h,h1⟩:=h
 refine Qm (fun b1:Unit=>⟨[],[],0⟩) (fun b1=>Sum.inl b1=e1) ?_ ?_
 ·refine Qf ?_
  refine Qy h (fun s7:Int=>⟨[(5,.lst true 1 (Es Qu list_)),(6,.val (.int .i64 (list_.length:Int))),(7,.val (.int .i64 s7))],[],0⟩) (Wk.r1 [] (by simp [hP,hhOk,back,Tra.cells,UA,U1,IA,I1,LA,L1,BA,B1,EA,E1,E2,eB,eI,eL])) ?_
  clear h
  intro k7 s7 c7 h hk7
  refine Q6 ?_
  refine runQ hN fun K hK=>?_
  simp [-Q0,-Q8,-Q3,-Q9,-Q4,eL,eI,Q1,Qu,Tra.cells]
  repeat with_reducible refine sdQ ?_
  refine hK _ ?_;clear hK K
  refine tn ?_
  refine Qa (st':=⟨[(5,.lst true 1 (Es Qu list_)),(6,.val (.int .i64 (list_.length:Int))),(7,.val (.int .i64 s7)),(8,.val (.bool (decide (s7<(list_.length:Int)))))],[],0⟩) (Wk.r1 [] (by simp [hP,hhOk,back,Tra.cells,UA,U1,IA,I1,LA,L1,BA,B1,EA,E1,E2,eB,eI,eL])) ?_
  refine Q6 ?_
  refine Qg rfl (fun g=>?_) fun g=>?_
  ·have g8:s7<(list_.length:Int):=gQ
   clear g
   replace h:=if_l g8 h
   refine Qh ?_
   refine tn ?_
   refine Q6 ?_
   refine Qf ?_
   refine Q6 ?_
   refine runQ hN fun K hK=>?_
   replace h:=Q7 h
   obtain ⟨a9,h⟩:=h
   simp [-Q0,-Q8,-Q3,-Q9,-Q4,eL,eI,Q1,Qu,Tra.cells,at_E (c:=Qu) a9]
   repeat with_reducible refine sdQ ?_
   refine hK _ ?_;clear hK K
   refine tn ?_
   refine Qa (st':=⟨[(4,.rptr (Tra.cells true (gx list_ s7))),(5,.lst true 1 (Es Qu list_)),(6,.val (.int .i64 (list_.length:Int))),(7,.val (.int .i64 s7))],[],0⟩) (Wk.r1 [] (by simp [hP,hhOk,back,Tra.cells,UA,U1,IA,I1,LA,L1,BA,B1,EA,E1,E2,eB,eI,eL])) ?_
   refine Q6 ?_
   refine runQ hN fun K hK=>?_
   simp [-Q0,-Q8,-Q3,-Q9,-Q4,eL,eI,Q1,Qu,Tra.cells]
   repeat with_reducible refine sdQ ?_
   replace h:=bind_some h
   obtain ⟨v10,hv10,h⟩:=h
   refine Q2 (Q2p _ v10 hv10) (.cons (.preT (by simp [Tra.cells])) .nil) ?_
   simp [-Q0,-Q8,-Q3,-Q9,-Q4,unk,unA,unE,unT,unC,flat,eL,eI,Q1,Qu,Tra.cells]
   repeat with_reducible refine sdQ ?_
   refine hK _ ?_;clear hK K
   refine tn ?_
   refine Qa (st':=⟨[(5,.lst true 1 (Es Qu list_)),(6,.val (.int .i64 (list_.length:Int))),(7,.val (.int .i64 s7)),(13,.val (.bool (!v10)))],[],0⟩) (Wk.r1 [] (by simp [hP,hhOk,back,Tra.cells,UA,U1,IA,I1,LA,L1,BA,B1,EA,E1,E2,eB,eI,eL])) ?_
   refine Qg rfl (fun g=>?_) fun g=>?_
   ·have g11:¬ (v10=true):=gQ
    clear g
    replace h:=if_l g11 h
    refine Q6 ?_
    refine runQ hN fun K hK=>?_
    simp [-Q0,-Q8,-Q3,-Q9,-Q4,eL,eI,Q1,Qu,Tra.cells]
    repeat with_reducible refine sdQ ?_
    refine hK _ ?_;clear hK K
    refine tn ?_
    refine Qa (st':=⟨[(2,.val (.bool false))],[],0⟩) (Wk.r1 [] (by simp [hP,hhOk,back,Tra.cells,UA,U1,IA,I1,LA,L1,BA,B1,EA,E1,E2,eB,eI,eL])) ?_
    refine Qk ?_
    refine br ?_
    refine tr ?_
    refine lr ?_
    refine br ?_
    refine tr ?_
    cases h
    have q:_=e1:=hk7
    have h:=h1
    rw [← q] at h
    clear q
    try dsimp only at h
    have hr:=Option.some.inj h
    rw [← hr]
    refine ⟨_,(.tmp .nil),?_⟩
    refine ⟨(.one rfl rfl .nil),[.val (.bool false)],[],by simp [Tra.cells,UA,U1,IA,I1,LA,L1,BA,B1,EA,E1,E2,eB,eI,eL],by simp,(UpL.refl _)⟩
   have g11:¬ (¬ (v10=true)):=gQ
   clear g
   replace h:=if_r g11 h
   refine Qh ?_
   refine bn ?_
   refine tn ?_
   refine runQ hN fun K hK=>?_
   replace h:=Q7 h
   obtain ⟨a12,h⟩:=h
   simp [-Q0,-Q8,-Q3,-Q9,-Q4,eL,eI,Q1,Qu,Tra.cells,Qw a12]
   repeat with_reducible refine sdQ ?_
   refine hK _ ?_;clear hK K
   cases h
   exact rn (s':=s7+1) hk7 (Wk.r1 [] (by simp [hP,hhOk,back,Tra.cells,UA,U1,IA,I1,LA,L1,BA,B1,EA,E1,E2,eB,eI,eL]))
  have g8:¬ (s7<(list_.length:Int)):=gQ
  clear g
  replace h:=if_r g8 h
  refine Qp ?_
  refine tx ?_
  refine lx ?_
  refine bh ?_
  cases h
  exact jn (b:=()) hk7 (Wk.r1 [] (by simp [hP,hhOk,back,Tra.cells,UA,U1,IA,I1,LA,L1,BA,B1,EA,E1,E2,eB,eI,eL]))
 intro b1 hb1
 have h:=h1
 rw [← hb1] at h
 clear h1
 try dsimp only at h
 refine Q6 ?_
 refine runQ hN fun K hK=>?_
 simp [-Q0,-Q8,-Q3,-Q9,-Q4,eL,eI,Q1,Qu,Tra.cells]
 repeat with_reducible refine sdQ ?_
 refine hK _ ?_;clear hK K
 refine tn ?_
 refine Qa (st':=⟨[(2,.val (.bool true))],[],0⟩) (Wk.r1 [] (by simp [hP,hhOk,back,Tra.cells,UA,U1,IA,I1,LA,L1,BA,B1,EA,E1,E2,eB,eI,eL])) ?_
 refine Qk ?_
 have hr:=Option.some.inj h
 rw [← hr]
 refine ⟨_,(.tmp .nil),?_⟩
 refine ⟨(.one rfl rfl .nil),[.val (.bool true)],[],by simp [Tra.cells,UA,U1,IA,I1,LA,L1,BA,B1,EA,E1,E2,eB,eI,eL],by simp,(UpL.refl _)⟩
end Go.Vc.T
namespace Go.Vc.T
open Go Go.Vc Go.Proofs
noncomputable def QG (c_:Cat) (f_:Int) (g_:Int):Option Int :=
 ass (0≤f_∧f_<(c_.cs.length:Int)) <|
 ass (0≤g_∧g_<((rx c_.cs f_).length:Int)) <|
 some (ix (rx c_.cs f_) g_)
theorem Q18 (c_:Cat) (f_:Int) (g_:Int) (r:Int) (h:QG c_ f_ g_=some r):Contract Tryz.prog 46 [.agg (c_.cells true),.val (.int .i64 f_),.val (.int .i64 g_)] (.val (.int .i64 r)):=by
 refine Qi (rvs:=[.tmp 6]) (rs:=[.val (.int .i64 r)]) Tryz.func46 rfl rfl rfl rfl (by simp [Tryz.f46]) fun F hN hP=>?_
 unfold QG at h
 refine Q6 ?_
 refine runQ hN fun K hK=>?_
 simp [-Q0,-Q8,-Q3,-Q9,-Q4,eL,eI,Q1,Q5,Cat.cells]
 repeat with_reducible refine sdQ ?_
 refine hK _ ?_;clear hK K
 refine tn ?_
 refine Qa (st':=⟨[(1,.val (.int .i64 f_)),(2,.val (.int .i64 g_)),(3,.adr 0 0 0)],[(0,.mix 5 [(Cat.cells true c_)])],1⟩) (Wk.r1 [(0,0)] (by simp [hP,hhOk,back,Cat.cells,UA,U1,IA,I1,LA,L1,BA,B1,EA,E1,E2,eB,eI,eL])) ?_
 refine Q6 ?_
 refine runQ hN fun K hK=>?_
 replace h:=Q7 h
 obtain ⟨a1,h⟩:=h
 replace h:=Q7 h
 obtain ⟨a2,h⟩:=h
 simp [-Q0,-Q8,-Q3,-Q9,-Q4,eL,eI,Q1,Q5,Cat.cells,at_L a1,at_I a2]
 repeat with_reducible refine sdQ ?_
 refine hK _ ?_;clear hK K
 refine tn ?_
 refine Qa (st':=⟨[(6,.val (.int .i64 (ix (rx c_.cs f_) g_)))],[],0⟩) (Wk.r1 [] (by simp [hP,hhOk,back,Cat.cells,UA,U1,IA,I1,LA,L1,BA,B1,EA,E1,E2,eB,eI,eL])) ?_
 refine Qk ?_
 have hr:=Option.some.inj h
 rw [← hr]
 refine ⟨_,(.tmp .nil),?_⟩
 refine ⟨(.one rfl rfl .nil),[.val (.int .i64 (ix (rx c_.cs f_) g_))],[],by simp [Cat.cells,UA,U1,IA,I1,LA,L1,BA,B1,EA,E1,E2,eB,eI,eL],by simp,(UpL.refl _)⟩
end Go.Vc.T
namespace Go.Vc.T
open Go Go.Vc Go.Proofs
noncomputable def Q1u (f_:Fn) (g_:Fn) (parts_:List Int):Option Bool :=
 (
  if ¬ ((parts_.length:Int)=(f_.ob.length:Int)) then
   some true
  else
   (Q1t (f_.t.fr.length:Int) parts_).bind fun v3 =>
   some (!v3):Option (Bool)).bind fun b1 =>
 if b1=true then
  some false
 else
  (QH (σ:=Int) (ε:=Unit ⊕ Bool) (fun s17 =>
   if s17<(parts_.length:Int) then
    (
     ass (0≤s17∧s17<(parts_.length:Int)) <|
     ass (0≤ix parts_ s17∧ix parts_ s17<(f_.t.fr.length:Int)) <|
     ass (0≤s17∧s17<(f_.ob.length:Int)) <|
     if ¬ ((ix f_.t.fr (ix parts_ s17))=(ix f_.ob s17)) then
      some true
     else
      ass (0≤s17∧s17<(parts_.length:Int)) <|
      ass (0≤ix parts_ s17∧ix parts_ s17<(f_.t.to.length:Int)) <|
      ass (0≤s17∧s17<(g_.ob.length:Int)) <|
      some ((ix f_.t.to (ix parts_ s17)) != (ix g_.ob s17)):Option (Bool)).bind fun b19 =>
    if b19=true then
     some (Ctl.ret (Sum.inr false))
    else
     ass (B64 (s17+1)) <|
     some (Ctl.next (s17+1))
   else
    some (Ctl.ret (Sum.inl ()))) fuel 0).bind fun e5 =>
  match e5 with
  | .inl b5 =>
   (QH (σ:=Int) (ε:=Unit ⊕ Bool) (fun s41 =>
    if s41<(f_.s.fr.length:Int) then
     ass (0≤s41∧s41<(f_.ar.length:Int)) <|
     ass (0≤s41∧s41<(f_.s.to.length:Int)) <|
     ass (0≤ix f_.s.to s41∧ix f_.s.to s41<(parts_.length:Int)) <|
     (QG f_.t (ix f_.ar s41) (ix parts_ (ix f_.s.to s41))).bind fun v46 =>
     ass (0≤s41∧s41<(f_.s.fr.length:Int)) <|
     ass (0≤ix f_.s.fr s41∧ix f_.s.fr s41<(parts_.length:Int)) <|
     ass (0≤s41∧s41<(g_.ar.length:Int)) <|
     (QG f_.t (ix parts_ (ix f_.s.fr s41)) (ix g_.ar s41)).bind fun v50 =>
     if ¬ (v46=v50) then
      some (Ctl.ret (Sum.inr false))
     else
      ass (B64 (s41+1)) <|
      some (Ctl.next (s41+1))
    else
     some (Ctl.ret (Sum.inl ()))) fuel 0).bind fun e29 =>
   match e29 with
   | .inl b29 =>
    some true
   | .inr p29 =>
    some p29
  | .inr p5 =>
   some p5
theorem Q3P (f_:Fn) (g_:Fn) (parts_:List Int) (r:Bool) (h:Q1u f_ g_ parts_=some r):Contract Tryz.prog 98 [.agg (f_.cells true),.agg (g_.cells true),.lst true 1 (Is parts_)] (.val (.bool r)):=by
 refine Qi (rvs:=[.tmp 6]) (rs:=[.val (.bool r)]) Tryz.func98 rfl rfl rfl rfl (by simp [Tryz.f98]) fun F hN hP=>?_
 unfold Q1u at h
 refine Q6 ?_
 refine runQ hN fun K hK=>?_
 simp [-Q0,-Q8,-Q3,-Q9,-Q4,eL,eI,Q1,Q5,Qd,Cat.cells,Fn.cells]
 repeat with_reducible refine sdQ ?_
 refine hK _ ?_;clear hK K
 refine tn ?_
 refine Qa (st':=⟨[(2,.lst true 1 (Is parts_)),(3,.adr 0 0 0),(4,.adr 1 0 0)],[(0,.mix 12 [(Fn.cells true f_)]),(1,.mix 12 [(Fn.cells true g_)])],2⟩) (Wk.r1 [(0,0),(1,1)] (by simp [hP,hhOk,back,Cat.cells,Fn.cells,UA,U1,IA,I1,LA,L1,BA,B1,EA,E1,E2,eB,eI,eL])) ?_
 refine Q6 ?_
 refine w_runS mo (by rw [hN];decide) fun K hK=>?_
 simp [-Q0,-Q8,-Q3,-Q9,-Q4,eL,eI,Q1,Q5,Qd,Cat.cells,Fn.cells]
 repeat with_reducible refine sdQ ?_
 refine hK _ ?_;clear hK K
 refine tn ?_
 refine Qa (st':=⟨[(2,.lst true 1 (Is parts_)),(3,.adr 0 0 0),(4,.adr 1 0 0),(7,.adr 2 0 0),(8,.adr 3 0 0)],[(0,.mix 12 [(Fn.cells true f_)]),(1,.mix 12 [(Fn.cells true g_)]),(2,.mix 5 [(Cat.cells true f_.s)]),(3,.mix 5 [(Cat.cells true f_.t)])],4⟩) (Wk.r1 [(0,0),(1,1),(2,2),(3,3)] (by simp [hP,hhOk,back,Cat.cells,Fn.cells,UA,U1,IA,I1,LA,L1,BA,B1,EA,E1,E2,eB,eI,eL])) ?_
 refine Q6 ?_
 refine Q6 ?_
 replace h:=bind_some h
 obtain ⟨e1,h,h1⟩:=h
 refine Qm (fun b1:Bool=>⟨[(2,.lst true 1 (Is parts_)),(3,.adr 0 0 0),(4,.adr 1 0 0),(7,.adr 2 0 0),(8,.adr 3 0 0),(28,.val (.bool b1))],[(0,.mix 12 [(Fn.cells true f_)]),(1,.mix 12 [(Fn.cells true g_)]),(2,.mix 5 [(Cat.cells true f_.s)]),(3,.mix 5 [(Cat.cells true f_.t)])],4⟩) (fun b1=>b1=e1) ?_ ?_
 ·refine runQ hN fun K hK=>?_
  simp [-Q0,-Q8,-Q3,-Q9,-Q4,eL,eI,Q1,Q5,Qd,Cat.cells,Fn.cells]
  repeat with_reducible refine sdQ ?_
  refine Qq (fun g=>?_) (fun g=>?_)
  ·have g2:¬ (¬ ((parts_.length:Int)=(f_.ob.length:Int))):=gQ
   clear g
   replace h:=if_r g2 h
   simp [-Q0,-Q8,-Q3,-Q9,-Q4,eL,eI,Q1,Q5,Qd,Cat.cells,Fn.cells]
   repeat with_reducible refine sdQ ?_
   replace h:=bind_some h
   obtain ⟨v3,hv3,h⟩:=h
   refine Q2 (Q4x _ _ v3 hv3) (.cons .val (.cons .lst .nil)) ?_
   simp [-Q0,-Q8,-Q3,-Q9,-Q4,unk,unA,unE,unT,unC,flat,eL,eI,Q1,Q5,Qd,Cat.cells,Fn.cells]
   repeat with_reducible refine sdQ ?_
   refine hK _ ?_
   exact jn (b:=!v3) (Option.some.inj h) (Wk.r1 [(0,0),(1,1),(2,2),(3,3)] (by simp [hP,hhOk,back,Cat.cells,Fn.cells,UA,U1,IA,I1,LA,L1,BA,B1,EA,E1,E2,eB,eI,eL]))
  have g2:¬ ((parts_.length:Int)=(f_.ob.length:Int)):=gQ
  clear g
  replace h:=if_l g2 h
  simp [-Q0,-Q8,-Q3,-Q9,-Q4,eL,eI,Q1,Q5,Qd,Cat.cells,Fn.cells]
  repeat with_reducible refine sdQ ?_
  refine hK _ ?_
  exact jn (b:=true) (Option.some.inj h) (Wk.r1 [(0,0),(1,1),(2,2),(3,3)] (by simp [hP,hhOk,back,Cat.cells,Fn.cells,UA,U1,IA,I1,LA,L1,BA,B1,EA,E1,E2,eB,eI,eL]))
 intro b1 hb1
 have h:=h1
 rw [← hb1] at h
 clear h1
 try dsimp only at h
 refine Qg rfl (fun g=>?_) fun g=>?_
 ·have g4:b1=true:=gQ
  clear g
  replace h:=if_l g4 h
  refine Q6 ?_
  refine runQ hN fun K hK=>?_
  simp [-Q0,-Q8,-Q3,-Q9,-Q4,eL,eI,Q1,Q5,Qd,Cat.cells,Fn.cells]
  repeat with_reducible refine sdQ ?_
  refine hK _ ?_;clear hK K
  refine tn ?_
  refine Qa (st':=⟨[(6,.val (.bool false))],[],0⟩) (Wk.r1 [] (by simp [hP,hhOk,back,Cat.cells,Fn.cells,UA,U1,IA,I1,LA,L1,BA,B1,EA,E1,E2,eB,eI,eL])) ?_
  refine Qk ?_
  refine tr ?_
  have hr:=Option.some.inj h
  rw [← hr]
  refine ⟨_,(.tmp .nil),?_⟩
  refine ⟨(.one rfl rfl .nil),[.val (.bool false)],[],by simp [Cat.cells,Fn.cells,UA,U1,IA,I1,LA,L1,BA,B1,EA,E1,E2,eB,eI,eL],by simp,(UpL.refl _)⟩
 have g4:¬ (b1=true):=gQ
 clear g
 replace h:=if_r g4 h
 refine Qh ?_
 refine tn ?_
 refine Q6 ?_
 refine Q6 ?_
 refine runQ hN fun K hK=>?_
 simp [-Q0,-Q8,-Q3,-Q9,-Q4,eL,eI,Q1,Q5,Qd,Cat.cells,Fn.cells]
 repeat with_reducible refine sdQ ?_
 refine hK _ ?_;clear hK K
 refine tn ?_
 refine Qa (st':=⟨[(2,.lst true 1 (Is parts_)),(3,.adr 0 0 0),(4,.adr 1 0 0),(7,.adr 2 0 0),(8,.adr 3 0 0),(9,.val (.int .i64 0))],[(0,.mix 12 [(Fn.cells true f_)]),(1,.mix 12 [(Fn.cells true g_)]),(2,.mix 5 [(Cat.cells true f_.s)]),(3,.mix 5 [(Cat.cells true f_.t)])],4⟩) (Wk.r1 [(0,0),(1,1),(2,2),(3,3)] (by simp [hP,hhOk,back,Cat.cells,Fn.cells,UA,U1,IA,I1,LA,L1,BA,B1,EA,E1,E2,eB,eI,eL])) ?_
 replace h:=bind_some h
 obtain ⟨e5,h,h5⟩:=h
 refine Qm (fun b5:Unit=>⟨[(2,.lst true 1 (Is parts_)),(3,.adr 0 0 0),(4,.adr 1 0 0),(7,.adr 2 0 0),(8,.adr 3 0 0)],[(0,.mix 12 [(Fn.cells true f_)]),(1,.mix 12 [(Fn.cells true g_)]),(2,.mix 5 [(Cat.cells true f_.s)]),(3,.mix 5 [(Cat.cells true f_.t)])],4⟩) (fun b5=>Sum.inl b5=e5) ?_ ?_
 ·refine Qf ?_
  refine Qy h (fun s17:Int=>⟨[(2,.lst true 1 (Is parts_)),(3,.adr 0 0 0),(4,.adr 1 0 0),(7,.adr 2 0 0),(8,.adr 3 0 0),(9,.val (.int .i64 s17))],[(0,.mix 12 [(Fn.cells true f_)]),(1,.mix 12 [(Fn.cells true g_)]),(2,.mix 5 [(Cat.cells true f_.s)]),(3,.mix 5 [(Cat.cells true f_.t)])],4⟩) (Wk.r1 [(0,0),(1,1),(2,2),(3,3)] (by simp [hP,hhOk,back,Cat.cells,Fn.cells,UA,U1,IA,I1,LA,L1,BA,B1,EA,E1,E2,eB,eI,eL])) ?_
  clear h
  intro k17 s17 c17 h hk17
  refine Q6 ?_
  refine Q6 ?_
  refine runQ hN fun K hK=>?_
  simp [-Q0,-Q8,-Q3,-Q9,-Q4,eL,eI,Q1,Q5,Qd,Cat.cells,Fn.cells]
  repeat with_reducible refine sdQ ?_
  refine hK _ ?_;clear hK K
  refine tn ?_
  refine Qa (st':=⟨[(2,.lst true 1 (Is parts_)),(3,.adr 0 0 0),(4,.adr 1 0 0),(7,.adr 2 0 0),(8,.adr 3 0 0),(9,.val (.int .i64 s17)),(32,.val (.bool (decide (s17<(parts_.length:Int)))))],[(0,.mix 12 [(Fn.cells true f_)]),(1,.mix 12 [(Fn.cells true g_)]),(2,.mix 5 [(Cat.cells true f_.s)]),(3,.mix 5 [(Cat.cells true f_.t)])],4⟩) (Wk.r1 [(0,0),(1,1),(2,2),(3,3)] (by simp [hP,hhOk,back,Cat.cells,Fn.cells,UA,U1,IA,I1,LA,L1,BA,B1,EA,E1,E2,eB,eI,eL])) ?_
  refine Qg rfl (fun g=>?_) fun g=>?_
  ·have g18:s17<(parts_.length:Int):=gQ
   clear g
   replace h:=if_l g18 h
   refine Qh ?_
   refine tn ?_
   refine Q6 ?_
   refine Qf ?_
   refine Q6 ?_
   replace h:=bind_some h
   obtain ⟨e19,h,h19⟩:=h
   refine Qm (fun b19:Bool=>⟨[(2,.lst true 1 (Is parts_)),(3,.adr 0 0 0),(4,.adr 1 0 0),(7,.adr 2 0 0),(8,.adr 3 0 0),(9,.val (.int .i64 s17)),(64,.val (.bool b19))],[(0,.mix 12 [(Fn.cells true f_)]),(1,.mix 12 [(Fn.cells true g_)]),(2,.mix 5 [(Cat.cells true f_.s)]),(3,.mix 5 [(Cat.cells true f_.t)])],4⟩) (fun b19=>b19=e19) ?_ ?_
   ·refine runQ hN fun K hK=>?_
    replace h:=Q7 h
    obtain ⟨a20,h⟩:=h
    replace h:=Q7 h
    obtain ⟨a21,h⟩:=h
    replace h:=Q7 h
    obtain ⟨a22,h⟩:=h
    simp [-Q0,-Q8,-Q3,-Q9,-Q4,eL,eI,Q1,Q5,Qd,Cat.cells,Fn.cells,at_I a20,at_I a21,at_I a22]
    repeat with_reducible refine sdQ ?_
    refine Qq (fun g=>?_) (fun g=>?_)
    ·have g23:¬ (¬ ((ix f_.t.fr (ix parts_ s17))=(ix f_.ob s17))):=gQ
     clear g
     replace h:=if_r g23 h
     replace h:=Q7 h
     obtain ⟨a24,h⟩:=h
     replace h:=Q7 h
     obtain ⟨a25,h⟩:=h
     replace h:=Q7 h
     obtain ⟨a26,h⟩:=h
     simp [-Q0,-Q8,-Q3,-Q9,-Q4,eL,eI,Q1,Q5,Qd,Cat.cells,Fn.cells,at_I a20,at_I a21,at_I a22,at_I a24,at_I a25,at_I a26]
     repeat with_reducible refine sdQ ?_
     refine hK _ ?_
     exact jn (b:=(ix f_.t.to (ix parts_ s17)) != (ix g_.ob s17)) (Option.some.inj h) (Wk.r1 [(0,0),(1,1),(2,2),(3,3)] (by simp [hP,hhOk,back,Cat.cells,Fn.cells,UA,U1,IA,I1,LA,L1,BA,B1,EA,E1,E2,eB,eI,eL]))
    have g23:¬ ((ix f_.t.fr (ix parts_ s17))=(ix f_.ob s17)):=gQ
    clear g
    replace h:=if_l g23 h
    simp [-Q0,-Q8,-Q3,-Q9,-Q4,eL,eI,Q1,Q5,Qd,Cat.cells,Fn.cells,at_I a20,at_I a21,at_I a22]
    repeat with_reducible refine sdQ ?_
    refine hK _ ?_
    exact jn (b:=true) (Option.some.inj h) (Wk.r1 [(0,0),(1,1),(2,2),(3,3)] (by simp [hP,hhOk,back,Cat.cells,Fn.cells,UA,U1,IA,I1,LA,L1,BA,B1,EA,E1,E2,eB,eI,eL]))
   intro b19 hb19
   have h:=h19
   rw [← hb19] at h
   clear h19
   try dsimp only at h
   refine Qg rfl (fun g=>?_) fun g=>?_
   ·have g27:b19=true:=gQ
    clear g
    replace h:=if_l g27 h
    refine Q6 ?_
    refine runQ hN fun K hK=>?_
    simp [-Q0,-Q8,-Q3,-Q9,-Q4,eL,eI,Q1,Q5,Qd,Cat.cells,Fn.cells]
    repeat with_reducible refine sdQ ?_
    refine hK _ ?_;clear hK K
    refine tn ?_
    refine Qa (st':=⟨[(6,.val (.bool false))],[],0⟩) (Wk.r1 [] (by simp [hP,hhOk,back,Cat.cells,Fn.cells,UA,U1,IA,I1,LA,L1,BA,B1,EA,E1,E2,eB,eI,eL])) ?_
    refine Qk ?_
    refine br ?_
    refine tr ?_
    refine lr ?_
    refine br ?_
    refine tr ?_
    cases h
    have q:_=e5:=hk17
    have h:=h5
    rw [← q] at h
    clear q
    try dsimp only at h
    have hr:=Option.some.inj h
    rw [← hr]
    refine ⟨_,(.tmp .nil),?_⟩
    refine ⟨(.one rfl rfl .nil),[.val (.bool false)],[],by simp [Cat.cells,Fn.cells,UA,U1,IA,I1,LA,L1,BA,B1,EA,E1,E2,eB,eI,eL],by simp,(UpL.refl _)⟩
   have g27:¬ (b19=true):=gQ
   clear g
   replace h:=if_r g27 h
   refine Qh ?_
   refine bn ?_
   refine tn ?_
   refine runQ hN fun K hK=>?_
   replace h:=Q7 h
   obtain ⟨a28,h⟩:=h
   simp [-Q0,-Q8,-Q3,-Q9,-Q4,eL,eI,Q1,Q5,Qd,Cat.cells,Fn.cells,Qw a28]
   repeat with_reducible refine sdQ ?_
   refine hK _ ?_;clear hK K
   cases h
   exact rn (s':=s17+1) hk17 (Wk.r1 [(0,0),(1,1),(2,2),(3,3)] (by simp [hP,hhOk,back,Cat.cells,Fn.cells,UA,U1,IA,I1,LA,L1,BA,B1,EA,E1,E2,eB,eI,eL]))
  have g18:¬ (s17<(parts_.length:Int)):=gQ
  clear g
  replace h:=if_r g18 h
  refine Qp ?_
  refine tx ?_
  refine lx ?_
  refine bh ?_
  cases h
  exact jn (b:=()) hk17 (Wk.r1 [(0,0),(1,1),(2,2),(3,3)] (by simp [hP,hhOk,back,Cat.cells,Fn.cells,UA,U1,IA,I1,LA,L1,BA,B1,EA,E1,E2,eB,eI,eL]))
 intro b5 hb5
 have h:=h5
 rw [← hb5] at h
 clear h5
 try dsimp only at h
 refine Q6 ?_
 refine Q6 ?_
 refine runQ hN fun K hK=>?_
 simp [-Q0,-Q8,-Q3,-Q9,-Q4,eL,eI,Q1,Q5,Qd,Cat.cells,Fn.cells]
 repeat with_reducible refine sdQ ?_
 refine hK _ ?_;clear hK K
 refine tn ?_
 refine Qa (st':=⟨[(2,.lst true 1 (Is parts_)),(3,.adr 0 0 0),(4,.adr 1 0 0),(7,.adr 2 0 0),(8,.adr 3 0 0),(10,.val (.int .i64 0))],[(0,.mix 12 [(Fn.cells true f_)]),(1,.mix 12 [(Fn.cells true g_)]),(2,.mix 5 [(Cat.cells true f_.s)]),(3,.mix 5 [(Cat.cells true f_.t)])],4⟩) (Wk.r1 [(0,0),(1,1),(2,2),(3,3)] (by simp [hP,hhOk,back,Cat.cells,Fn.cells,UA,U1,IA,I1,LA,L1,BA,B1,EA,E1,E2,eB,eI,eL])) ?_
 replace h:=bind_some h
 obtain ⟨e29,h,h29⟩:=h
 refine Qm (fun b29:Unit=>⟨[],[],0⟩) (fun b29=>Sum.inl b29=e29) ?_ ?_
 ·refine Qf ?_
  refine Qy h (fun s41:Int=>⟨[(2,.lst true 1 (Is parts_)),(3,.adr 0 0 0),(4,.adr 1 0 0),(7,.adr 2 0 0),(8,.adr 3 0 0),(10,.val (.int .i64 s41))],[(0,.mix 12 [(Fn.cells true f_)]),(1,.mix 12 [(Fn.cells true g_)]),(2,.mix 5 [(Cat.cells true f_.s)]),(3,.mix 5 [(Cat.cells true f_.t)])],4⟩) (Wk.r1 [(0,0),(1,1),(2,2),(3,3)] (by simp [hP,hhOk,back,Cat.cells,Fn.cells,UA,U1,IA,I1,LA,L1,BA,B1,EA,E1,E2,eB,eI,eL])) ?_
  clear h
  intro k41 s41 c41 h hk41
  refine Q6 ?_
  refine Q6 ?_
  refine runQ hN fun K hK=>?_
  simp [-Q0,-Q8,-Q3,-Q9,-Q4,eL,eI,Q1,Q5,Qd,Cat.cells,Fn.cells]
  repeat with_reducible refine sdQ ?_
  refine hK _ ?_;clear hK K
  refine tn ?_
  refine Qa (st':=⟨[(2,.lst true 1 (Is parts_)),(3,.adr 0 0 0),(4,.adr 1 0 0),(7,.adr 2 0 0),(8,.adr 3 0 0),(10,.val (.int .i64 s41)),(69,.val (.bool (decide (s41<(f_.s.fr.length:Int)))))],[(0,.mix 12 [(Fn.cells true f_)]),(1,.mix 12 [(Fn.cells true g_)]),(2,.mix 5 [(Cat.cells true f_.s)]),(3,.mix 5 [(Cat.cells true f_.t)])],4⟩) (Wk.r1 [(0,0),(1,1),(2,2),(3,3)] (by simp [hP,hhOk,back,Cat.cells,Fn.cells,UA,U1,IA,I1,LA,L1,BA,B1,EA,E1,E2,eB,eI,eL])) ?_
  refine Qg rfl (fun g=>?_) fun g=>?_
  ·have g42:s41<(f_.s.fr.length:Int):=gQ
   clear g
   replace h:=if_l g42 h
   refine Qh ?_
   refine tn ?_
   refine Q6 ?_
   refine Qf ?_
   refine Q6 ?_
   refine runQ hN fun K hK=>?_
   replace h:=Q7 h
   obtain ⟨a43,h⟩:=h
   replace h:=Q7 h
   obtain ⟨a44,h⟩:=h
   replace h:=Q7 h
   obtain ⟨a45,h⟩:=h
   simp [-Q0,-Q8,-Q3,-Q9,-Q4,eL,eI,Q1,Q5,Qd,Cat.cells,Fn.cells,at_I a43,at_I a44,at_I a45]
   repeat with_reducible refine sdQ ?_
   replace h:=bind_some h
   obtain ⟨v46,hv46,h⟩:=h
   refine Q2 (Q18 _ _ _ v46 hv46) (.cons (.aggL (.cons .val (.cons .lst (.cons .lst (.cons .lst (.cons .lst .nil)))))) (.cons .val (.cons .val .nil))) ?_
   replace h:=Q7 h
   obtain ⟨a47,h⟩:=h
   replace h:=Q7 h
   obtain ⟨a48,h⟩:=h
   replace h:=Q7 h
   obtain ⟨a49,h⟩:=h
   simp [-Q0,-Q8,-Q3,-Q9,-Q4,unk,unA,unE,unT,unC,flat,eL,eI,Q1,Q5,Qd,Cat.cells,Fn.cells,at_I a43,at_I a44,at_I a45,at_I a47,at_I a48,at_I a49]
   repeat with_reducible refine sdQ ?_
   replace h:=bind_some h
   obtain ⟨v50,hv50,h⟩:=h
   refine Q2 (Q18 _ _ _ v50 hv50) (.cons (.aggL (.cons .val (.cons .lst (.cons .lst (.cons .lst (.cons .lst .nil)))))) (.cons .val (.cons .val .nil))) ?_
   simp [-Q0,-Q8,-Q3,-Q9,-Q4,unk,unA,unE,unT,unC,flat,eL,eI,Q1,Q5,Qd,Cat.cells,Fn.cells,at_I a43,at_I a44,at_I a45,at_I a47,at_I a48,at_I a49]
   repeat with_reducible refine sdQ ?_
   refine hK _ ?_;clear hK K
   refine tn ?_
   refine Qa (st':=⟨[(2,.lst true 1 (Is parts_)),(3,.adr 0 0 0),(4,.adr 1 0 0),(7,.adr 2 0 0),(8,.adr 3 0 0),(10,.val (.int .i64 s41)),(102,.val (.bool (v46 != v50)))],[(0,.mix 12 [(Fn.cells true f_)]),(1,.mix 12 [(Fn.cells true g_)]),(2,.mix 5 [(Cat.cells true f_.s)]),(3,.mix 5 [(Cat.cells true f_.t)])],4⟩) (Wk.r1 [(0,0),(1,1),(2,2),(3,3)] (by simp [hP,hhOk,back,Cat.cells,Fn.cells,UA,U1,IA,I1,LA,L1,BA,B1,EA,E1,E2,eB,eI,eL])) ?_
   refine Qg rfl (fun g=>?_) fun g=>?_
   ·have g51:¬ (v46=v50):=gQ
    clear g
    replace h:=if_l g51 h
    refine Q6 ?_
    refine runQ hN fun K hK=>?_
    simp [-Q0,-Q8,-Q3,-Q9,-Q4,eL,eI,Q1,Q5,Qd,Cat.cells,Fn.cells]
    repeat with_reducible refine sdQ ?_
    refine hK _ ?_;clear hK K
    refine tn ?_
    refine Qa (st':=⟨[(6,.val (.bool false))],[],0⟩) (Wk.r1 [] (by simp [hP,hhOk,back,Cat.cells,Fn.cells,UA,U1,IA,I1,LA,L1,BA,B1,EA,E1,E2,eB,eI,eL])) ?_
    refine Qk ?_
    refine br ?_
    refine tr ?_
    refine lr ?_
    refine br ?_
    refine tr ?_
    cases h
    have q:_=e29:=hk41
    have h:=h29
    rw [← q] at h
    clear q
    try dsimp only at h
    have hr:=Option.some.inj h
    rw [← hr]
    refine ⟨_,(.tmp .nil),?_⟩
    refine ⟨(.one rfl rfl .nil),[.val (.bool false)],[],by simp [Cat.cells,Fn.cells,UA,U1,IA,I1,LA,L1,BA,B1,EA,E1,E2,eB,eI,eL],by simp,(UpL.refl _)⟩
   have g51:¬ (¬ (v46=v50)):=gQ
   clear g
   replace h:=if_r g51 h
   refine Qh ?_
   refine bn ?_
   refine tn ?_
   refine runQ hN fun K hK=>?_
   replace h:=Q7 h
   obtain ⟨a52,h⟩:=h
   simp [-Q0,-Q8,-Q3,-Q9,-Q4,eL,eI,Q1,Q5,Qd,Cat.cells,Fn.cells,Qw a52]
   repeat with_reducible refine sdQ ?_
   refine hK _ ?_;clear hK K
   cases h
   exact rn (s':=s41+1) hk41 (Wk.r1 [(0,0),(1,1),(2,2),(3,3)] (by simp [hP,hhOk,back,Cat.cells,Fn.cells,UA,U1,IA,I1,LA,L1,BA,B1,EA,E1,E2,eB,eI,eL]))
  have g42:¬ (s41<(f_.s.fr.length:Int)):=gQ
  clear g
  replace h:=if_r g42 h
  refine Qp ?_
  refine tx ?_
  refine lx ?_
  refine bh ?_
  cases h
  exact jn (b:=()) hk41 (Wk.r1 [] (by simp [hP,hhOk,back,Cat.cells,Fn.cells,UA,U1,IA,I1,LA,L1,BA,B1,EA,E1,E2,eB,eI,eL]))
 intro b29 hb29
 have h:=h29
 rw [← hb29] at h
 clear h29
 try dsimp only at h
 refine Q6 ?_
 refine runQ hN fun K hK=>?_
 simp [-Q0,-Q8,-Q3,-Q9,-Q4,eL,eI,Q1,Q5,Qd,Cat.cells,Fn.cells]
 repeat with_reducible refine sdQ ?_
 refine hK _ ?_;clear hK K
 refine tn ?_
 refine Qa (st':=⟨[(6,.val (.bool true))],[],0⟩) (Wk.r1 [] (by simp [hP,hhOk,back,Cat.cells,Fn.cells,UA,U1,IA,I1,LA,L1,BA,B1,EA,E1,E2,eB,eI,eL])) ?_
 refine Qk ?_
 have hr:=Option.some.inj h
 rw [← hr]
 refine ⟨_,(.tmp .nil),?_⟩
 refine ⟨(.one rfl rfl .nil),[.val (.bool true)],[],by simp [Cat.cells,Fn.cells,UA,U1,IA,I1,LA,L1,BA,B1,EA,E1,E2,eB,eI,eL],by simp,(UpL.refl _)⟩
end Go.Vc.T
namespace Go.Vc.T
open Go Go.Vc Go.Proofs
structure NatT (f g:Fn) (p:List Int):Prop where
 lp:p.length=f.ob.length
 bd:∀ j:Nat,j<p.length→0≤ix p j∧ix p j<f.t.fr.length
 ends:∀ x:Nat,x<p.length→ix f.t.fr (ix p x)=ix f.ob x∧ix f.t.to (ix p x)=ix g.ob x
 sq:∀ a:Nat,a<f.s.fr.length→ix (rx f.t.cs (ix f.ar a)) (ix p (ix f.s.to a))=ix (rx f.t.cs (ix p (ix f.s.fr a))) (ix g.ar a)
structure Para (f g:Fn):Prop where
 hf:f.Is
 hg:g.Is
 s:f.s=g.s
 t:f.t=g.t
theorem Para.fact {f g:Fn} (h:Para f g):f.ob.length=g.ob.length∧f.ar.length=g.ar.length∧f.ar.length=f.s.fr.length∧f.s.to.length=f.s.fr.length∧f.t.to.length=f.t.fr.length∧f.t.cs.length=f.t.fr.length∧f.ob.length=f.s.id.length∧f.ob.length≤8∧f.s.fr.length≤40∧f.t.fr.length≤40:=by
 have h1:=h.hf.lo
 have h2:=h.hg.lo
 have h3:=h.hf.la
 have h4:=h.hg.la
 rw [← h.s] at h2 h4
 have h5:=h.hf.s.1.li
 exact ⟨by omega,by omega,h3,h.hf.s.1.lt,h.hf.t.1.lt,h.hf.t.1.lc,by omega,h.hf.lob,h.hf.s.1.m40,h.hf.t.1.m40⟩
theorem Para.sqok {f g:Fn} (h:Para f g) {p:List Int} (lp:p.length=f.ob.length) (bd:∀ j:Nat,j<p.length→0≤ix p j∧ix p j<f.t.fr.length) {a:Nat} (ha:a<f.s.fr.length) :
  (0≤ix f.ar a∧ix f.ar a<f.t.fr.length)∧(0≤ix g.ar a∧ix g.ar a<f.t.fr.length)∧(0≤ix f.s.to a∧ix f.s.to a<p.length)∧(0≤ix f.s.fr a∧ix f.s.fr a<p.length) ∧
  (0≤ix p (ix f.s.to a)∧ix p (ix f.s.to a)<f.t.fr.length)∧(0≤ix p (ix f.s.fr a)∧ix p (ix f.s.fr a)<f.t.fr.length)∧(rx f.t.cs (ix f.ar a)).length=f.t.fr.length∧(rx f.t.cs (ix p (ix f.s.fr a))).length=f.t.fr.length:=by
 obtain ⟨k1,k2,k3,k4,k5,k6,k7,k8,k9,k10⟩:=h.fact
 have h1:=h.hf.ar a (by omega)
 have h2:=h.hg.ar a (by omega)
 rw [← h.t] at h2
 have h3:=h.hf.s.1.frn ha
 have h4:=Q6O bd (j:=ix f.s.to a) (by omega) (by omega)
 have h5:=Q6O bd (j:=ix f.s.fr a) (by omega) (by omega)
 exact ⟨h1,h2,by omega,by omega,h4,h5,h.hf.t.1.row' (by omega) (by omega),h.hf.t.1.row' (by omega) (by omega)⟩
theorem Q55 {c:Cat} {f g:Int} (h0:0≤f∧f<(c.cs.length:Int)) (h1:0≤g∧g<((rx c.cs f).length:Int)):QG c f g=some (ix (rx c.cs f) g):=by
 unfold QG
 rw [Qe h0,Qe h1]
theorem Q61 {c:Cat} {f g:Int} (h0:0≤f∧f<(c.cs.length:Int)) (h1:0≤g∧g<((rx c.cs f).length:Int)):Qo c f g=some (ix (rx c.cs f) g):=by
 unfold Qo
 rw [Qe h0.1,Qe h0.2,Qe h1.1,Qe h1.2]
theorem Q4A {f g:Fn} (h:Para f g) (p:List Int):Q1u f g p=some (bo (NatT f g p)):=by
 obtain ⟨k1,k2,k3,k4,k5,k6,k7,k8,k9,k10⟩:=h.fact
 unfold Q1u
 by_cases h1:(p.length:Int)=f.ob.length
 case neg=>rw [Qz (show ¬ NatT f g p from fun q=>h1 (by rw [q.lp]))];simp [h1]
 by_cases h2:p.all (inR f.t.fr.length)=true
 case neg=>rw [Qz (show ¬ NatT f g p from fun q=>h2 (all_inR.2 q.bd))];simp [Q1t,h1,h2]
 have bd:=all_inR.1 h2
 simp only [Q1t,h1,h2,not_true_eq_false,if_false,Option.bind_some,Bool.not_true,Bool.false_eq_true]
 refine Q19 p.length (fun x:Nat=>ix f.t.fr (ix p x)=ix f.ob x∧ix f.t.to (ix p x)=ix g.ob x) (eb:=Sum.inr false) (eg:=Sum.inl ()) (by omega) (fun a hi hp=>?_) (fun a hi hp=>?_) (by simp;omega) (fun hx=>?_) fun q1=>?_
 ·have:=bd a hi
  simp (disch:=omega) [Qe,B64,hp.1,hp.2];omega
 ·have:=bd a hi
  by_cases hp1:ix f.t.fr (ix p a)=ix f.ob a
  ·have hp2:¬ ix f.t.to (ix p a)=ix g.ob a:=fun q=>hp ⟨hp1,q⟩
   simp (disch:=omega) [Qe,B64,hp1,hp2];omega
  simp (disch:=omega) [Qe,B64,hp1];omega
 ·rw [Qz (show ¬ NatT f g p from fun q=>hx q.ends)]
 simp only
 refine Q19 f.s.fr.length (fun a:Nat=>ix (rx f.t.cs (ix f.ar a)) (ix p (ix f.s.to a))=ix (rx f.t.cs (ix p (ix f.s.fr a))) (ix g.ar a)) (eb:=Sum.inr false) (eg:=Sum.inl ()) (by omega) (fun a hi hp=>?_) (fun a hi hp=>?_) (by simp) (fun hx=>?_) fun q2=>?_
 ·obtain ⟨m1,m2,m3,m4,m5,m6,m7,m8⟩:=h.sqok (by omega) bd hi
  simp (disch:=omega) [Qe,B64,Q55,hp,hi]
 ·obtain ⟨m1,m2,m3,m4,m5,m6,m7,m8⟩:=h.sqok (by omega) bd hi
  simp (disch:=omega) [Qe,B64,Q55,hp,hi]
 ·rw [Qz (show ¬ NatT f g p from fun q=>hx q.sq)]
 rw [QN (show NatT f g p from ⟨by omega,bd,q1,q2⟩)]
structure Tra.Is (t:Tra):Prop where
 p:Para t.s t.t
 n:NatT t.s t.t t.p
theorem e_fits {f:Fn} (h1:f.s.Is) (h2:f.t.Is):Q1l f=some (bo f.Is):=by
 have hs:=h1.1
 have ht:=h2.1
 have k0:=hs.n0
 have k1:=hs.n8
 have k2:=hs.m40
 have k3:=hs.li
 have k4:=hs.lt
 have k5:=hs.lc
 have k6:=ht.li
 have k7:=ht.lt
 have k8:=ht.lc
 have k9:=ht.m40
 have k10:=ht.n0
 have k11:=ht.n8
 have b1:B64 (f.t.n - 1):=⟨by omega,by omega⟩
 have b2:B64 ((f.t.fr.length:Int) - 1):=⟨by omega,by omega⟩
 unfold Q1l
 by_cases h3:(f.ob.length:Int)=f.s.n
 case neg=>rw [Qz (show ¬ f.Is from fun q=>h3 q.lo)];simp [h3]
 by_cases h4:(f.ar.length:Int)=f.s.fr.length
 case neg=>rw [Qz (show ¬ f.Is from fun q=>h4 (by rw [q.la]))];simp [Qn,h3,h4]
 by_cases h5:f.ob.all (inR f.t.n)=true
 case neg=>rw [Qz (show ¬ f.Is from fun q=>h5 (all_inR.2 q.ob))];simp [Qn,Q1s,Qe b1,h3,h4,h5]
 by_cases h6:f.ar.all (inR f.t.fr.length)=true
 case neg=>rw [Qz (show ¬ f.Is from fun q=>h6 (all_inR.2 q.ar))];simp [Qn,Q1s,Qe b1,Qe b2,h3,h4,h5,h6]
 have ho:=all_inR.1 h5
 have ha:=all_inR.1 h6
 simp only [Qn,Q1s,Qe b1,Qe b2,h3,h4,h5,h6,Option.bind_some,if_true,if_false,not_true_eq_false,Bool.not_true,Bool.false_eq_true]
 refine Q19 f.s.fr.length (fun a:Nat=>ix f.t.fr (ix f.ar a)=ix f.ob (ix f.s.fr a)∧ix f.t.to (ix f.ar a)=ix f.ob (ix f.s.to a)) (eb:=Sum.inr false) (eg:=Sum.inl ()) (by omega) (fun a hi hp=>?_) (fun a hi hp=>?_) (by simp) (fun hx=>?_) fun q1=>?_
 ·have:=hs.frn hi
  have:=ha a (by omega)
  simp (disch:=omega) [Qe,B64,hp.1,hp.2,hi]
 ·have:=hs.frn hi
  have:=ha a (by omega)
  by_cases hp1:ix f.t.fr (ix f.ar a)=ix f.ob (ix f.s.fr a)
  ·have hp2:¬ ix f.t.to (ix f.ar a)=ix f.ob (ix f.s.to a):=fun h=>hp ⟨hp1,h⟩
   simp (disch:=omega) [Qe,B64,hp1,hp2,hi]
  simp (disch:=omega) [Qe,B64,hp1,hi]
 ·rw [Qz (show ¬ f.Is from fun q=>hx q.ends)]
 simp only
 refine Q19 f.s.id.length (fun x:Nat=>ix f.ar (ix f.s.id x)=ix f.t.id (ix f.ob x)) (eb:=Sum.inr false) (eg:=Sum.inl ()) (by omega) (fun a hi hp=>?_) (fun a hi hp=>?_) (by simp) (fun hx=>?_) fun q2=>?_
 ·have:=hs.idn hi
  have:=ho a (by omega)
  simp (disch:=omega) [Qe,B64,hp,hi]
 ·have:=hs.idn hi
  have:=ho a (by omega)
  simp (disch:=omega) [Qe,B64,hp,hi]
 ·rw [Qz (show ¬ f.Is from fun q=>hx q.ids)]
 simp only
 refine Q19 f.s.fr.length (fun a:Nat=>∀ b:Nat,b<f.s.fr.length→ix f.s.to a=ix f.s.fr b→ix f.ar (ix (rx f.s.cs a) b)=ix (rx f.t.cs (ix f.ar a)) (ix f.ar b)) (eb:=Sum.inr false) (eg:=Sum.inl ()) (by omega) (fun a hi hp=>?_) (fun a hi hp=>?_) (by simp;omega) (fun hx=>?_) fun q3=>?_
 rotate_left 2
 ·rw [Qz (show ¬ f.Is from fun q=>hx q.comp)]
 ·rw [QN (show f.Is from ⟨h1,h2,h3,by omega,ho,ha,q1,q2,q3⟩)]
 all_goals
  have h8:=ha a (by omega)
  have h11:=hs.row' (j:=a) (by omega) (by omega)
  have h12:=ht.row' (j:=ix f.ar a) (by omega) (by omega)
  rw [if_pos (by omega),Qe (by omega),Option.bind_assoc]
  refine Q19 f.s.fr.length (fun b:Nat=>ix f.s.to a=ix f.s.fr b→ix f.ar (ix (rx f.s.cs a) b)=ix (rx f.t.cs (ix f.ar a)) (ix f.ar b)) (eb:=Sum.inl false) (eg:=Sum.inr ()) (by omega) (fun b hb hq=>?_) (fun b hb hq=>?_) ?_ (fun hn=>?_) fun hn=>?_
 all_goals first
  | exact absurd hp hn
  | exact absurd hn hp
  | (simp (disch:=omega) [Qe,B64,h11];done)
  | skip
 all_goals
  have h13:=ha b (by omega)
  have h16:=hs.cell' (f:=a) (g:=b) (by omega) (by omega) (by omega) (by omega)
  by_cases h14:ix f.s.to a=ix f.s.fr b
  ·have h15:=hs.cmp (f:=a) (g:=b) (by omega) (by omega) (by omega) (by omega) h14
   have h17:ix (rx f.s.cs a) b ≥ 0:=h15.1
   first
    | (have hq1:=hq h14;simp (disch:=omega) [Qe,B64,Q61,h14,hq1,hb,h11,h17];done)
    | (have hq1:=fun e=>hq (fun _=>e);simp (disch:=omega) [Qe,B64,Q61,h14,hq1,hb,h11,h17];exact hq1)
  have h17:=h16.1 h14
  first
   | (simp (disch:=omega) [Qe,B64,h14,hb,h11,h17];done)
   | exact absurd (fun e=>absurd e h14) hq
theorem Q5J {α:Type} [Inhabited α] (xs:List α) {i:Nat} (h:i<xs.length):gx xs i=xs[i]:=by simp [gx,List.getD_eq_getElem?_getD,h]
theorem e_areCats (cs:List Cat) (hl:cs.length≤1048576):Q1g cs=some (bo (∀ c∈cs,c.Is)):=by
 unfold Q1g
 refine Q19 cs.length (fun i:Nat=>(gx cs i).Is) (eb:=Sum.inr false) (eg:=Sum.inl ()) (by omega) (fun a hi hp=>?_) (fun a hi hp=>?_) (by simp) (fun hx=>?_) fun q1=>?_
 ·simp (disch:=omega) [Qe,B64,QK,QN hp,hi]
 ·simp (disch:=omega) [Qe,B64,QK,Qz hp,hi]
 ·rw [Qz (show ¬ ∀ c∈cs,c.Is from fun q=>hx fun i hi=>q _ (by rw [Q5J _ hi];exact List.getElem_mem hi))]
 rw [QN (show ∀ c∈cs,c.Is from fun c hc=>by obtain ⟨i,hi,rfl⟩:=List.getElem_of_mem hc;have:=q1 i hi;rwa [Q5J _ hi] at this)]
theorem Q3S (f:Fn):QJ f=some (bo f.Is):=by
 unfold QJ
 rw [e_areCats _ (by simp)]
 by_cases h:f.s.Is∧f.t.Is
 ·rw [QN (show ∀ c∈[f.s,f.t],c.Is by simpa using h)]
  simp [e_fits h.1 h.2]
 rw [Qz (show ¬ ∀ c∈[f.s,f.t],c.Is by simpa using h),Qz (show ¬ f.Is from fun q=>h ⟨q.s,q.t⟩)]
 simp
theorem Q62 (fs:List Fn) (hl:fs.length≤1048576):Q1w fs=some (bo (∀ f∈fs,f.Is)):=by
 unfold Q1w
 refine Q19 fs.length (fun i:Nat=>(gx fs i).Is) (eb:=Sum.inr false) (eg:=Sum.inl ()) (by omega) (fun a hi hp=>?_) (fun a hi hp=>?_) (by simp) (fun hx=>?_) fun q1=>?_
 ·simp (disch:=omega) [Qe,B64,Q3S,QN hp,hi]
 ·simp (disch:=omega) [Qe,B64,Q3S,Qz hp,hi]
 ·rw [Qz (show ¬ ∀ c∈fs,c.Is from fun q=>hx fun i hi=>q _ (by rw [Q5J _ hi];exact List.getElem_mem hi))]
 rw [QN (show ∀ c∈fs,c.Is from fun c hc=>by obtain ⟨i,hi,rfl⟩:=List.getElem_of_mem hc;have:=q1 i hi;rwa [Q5J _ hi] at this)]
theorem Cat.Is.lcs {c:Cat} (h:c.Is):c.cs.length≤1048576:=by have:=h.1.lc;have:=h.1.m40;omega
theorem Q56 {c d:Cat} (h:c.Is):QS c d=some (bo (c=d)):=by
 unfold QS
 rw [Qe h.lcs]
theorem Q8F {f g:Fn} (hf:f.Is):QU f g=some (bo (f.s=g.s∧f.t=g.t)):=by
 unfold QU
 rw [Q56 hf.s,Q56 hf.t]
 by_cases h1:f.s=g.s<;>by_cases h2:f.t=g.t<;>simp [bo,h1,h2]
theorem Q5I {f g:Fn} (h:Para f g) {p:List Int} (lp:p.length=f.ob.length) (bd:∀ j:Nat,j<p.length→0≤ix p j∧ix p j<f.t.fr.length) {a:Nat} (ha:a<f.s.fr.length) :
  Q1T f g p a=some (bo (ix (rx f.t.cs (ix f.ar a)) (ix p (ix f.s.to a))=ix (rx f.t.cs (ix p (ix f.s.fr a))) (ix g.ar a))):=by
 obtain ⟨k1,k2,k3,k4,k5,k6,k7,k8,k9,k10⟩:=h.fact
 obtain ⟨m1,m2,m3,m4,m5,m6,m7,m8⟩:=h.sqok lp bd ha
 unfold Q1T
 by_cases hq:ix (rx f.t.cs (ix f.ar a)) (ix p (ix f.s.to a))=ix (rx f.t.cs (ix p (ix f.s.fr a))) (ix g.ar a)<;>simp (disch:=omega) [Qe,Q61,hq,bo]
theorem Q7o {f g:Fn} (h:Para f g) {p:List Int} (lp:p.length=f.ob.length) (bd:∀ j:Nat,j<p.length→0≤ix p j∧ix p j<f.t.fr.length) :
  ∃ v,QA ⟨f,g,p⟩=some v∧(v<0↔∀ a:Nat,a<f.s.fr.length→ix (rx f.t.cs (ix f.ar a)) (ix p (ix f.s.to a))=ix (rx f.t.cs (ix p (ix f.s.fr a))) (ix g.ar a)):=by
 obtain ⟨k1,k2,k3,k4,k5,k6,k7,k8,k9,k10⟩:=h.fact
 unfold QA
 rcases Q8i (body:=fun s6:Int=>if s6<(f.ar.length:Int) then (Q1T f g p s6).bind fun v8=>if ¬ (v8=true) then some (Ctl.ret (Sum.inr s6)) else ass (B64 (s6+1)) <| some (Ctl.next (s6+1)) else some (Ctl.ret (Sum.inl ()))) (ε:=Unit ⊕ Int)
   f.s.fr.length (fun a:Nat=>ix (rx f.t.cs (ix f.ar a)) (ix p (ix f.s.to a))=ix (rx f.t.cs (ix p (ix f.s.fr a))) (ix g.ar a)) (eb:=fun i=>Sum.inr (i:Int)) (eg:=Sum.inl ()) (by omega)
   (fun a hi hp=>by simp (disch:=omega) [Qe,B64,Q5I h lp bd hi,hp,bo];omega) (fun a hi hp=>by simp (disch:=omega) [Qe,B64,Q5I h lp bd hi,hp,bo];omega) (by simp;omega) with ⟨h1,h2⟩|⟨m,h1,h2,h3,h4⟩
 ·refine ⟨-1,?_,by simpa using h1⟩
  simp only
  rw [h2];rfl
 refine ⟨m,?_,⟨fun q=>by omega,fun q=>absurd (q m h1) h2⟩⟩
 simp only
 rw [h4];rfl
theorem e_Tshape (t:Tra):QF t=some (bo (Para t.s t.t∧t.p.length=t.s.ob.length∧(∀ j:Nat,j<t.p.length→0≤ix t.p j∧ix t.p j<t.s.t.fr.length)∧∀ x:Nat,x<t.p.length→ix t.s.t.fr (ix t.p x)=ix t.s.ob x∧ix t.s.t.to (ix t.p x)=ix t.t.ob x)):=by
 unfold QF
 rw [Q62 _ (by simp)]
 by_cases h:t.s.Is∧t.t.Is
 case neg=>rw [Qz (show ¬ ∀ c∈[t.s,t.t],c.Is by simpa using h),Qz (fun q=>h ⟨q.1.hf,q.1.hg⟩)];simp
 rw [QN (show ∀ c∈[t.s,t.t],c.Is by simpa using h)]
 obtain ⟨hf,hg⟩:=h
 rw [Q8F hf]
 by_cases h:t.s.s=t.t.s∧t.s.t=t.t.t
 case neg=>rw [Qz h,Qz (fun q=>h ⟨q.1.s,q.1.t⟩)];simp
 rw [QN h]
 have hP:Para t.s t.t:=⟨hf,hg,h.1,h.2⟩
 obtain ⟨k1,k2,k3,k4,k5,k6,k7,k8,k9,k10⟩:=hP.fact
 have lo:=hf.lo
 have b2:B64 ((t.s.t.fr.length:Int) - 1):=⟨by omega,by omega⟩
 by_cases h1:(t.p.length:Int)=t.s.s.n
 case neg=>rw [Qz (fun q=>h1 (by rw [q.2.1,lo]))];simp [h1]
 by_cases h2:t.p.all (inR t.s.t.fr.length)=true
 case neg=>rw [Qz (fun q=>h2 (all_inR.2 q.2.2.1))];simp [Qn,Q1s,Qe b2,h1,h2]
 have bd:=all_inR.1 h2
 simp only [Qn,Q1s,Qe b2,h1,h2,not_true_eq_false,if_false,Option.bind_some,Bool.not_true,Bool.false_eq_true]
 refine Q19 t.p.length (fun x:Nat=>ix t.s.t.fr (ix t.p x)=ix t.s.ob x∧ix t.s.t.to (ix t.p x)=ix t.t.ob x) (eb:=Sum.inr false) (eg:=Sum.inl ()) (by omega) (fun a hi hp=>?_) (fun a hi hp=>?_) (by simp;try omega) (fun hx=>?_) fun q1=>?_
 ·have:=bd a hi
  simp (disch:=omega) [Qe,B64,QW,hp.1,hp.2];omega
 ·have:=bd a hi
  by_cases hp1:ix t.s.t.fr (ix t.p a)=ix t.s.ob a
  ·have hp2:¬ ix t.s.t.to (ix t.p a)=ix t.t.ob a:=fun q=>hp ⟨hp1,q⟩
   simp (disch:=omega) [Qe,B64,QW,hp1,hp2];try omega
  simp (disch:=omega) [Qe,B64,QW,hp1];try omega
 ·rw [Qz (fun q=>hx q.2.2.2)]
 rw [QN ⟨hP,by omega,bd,q1⟩]
theorem Q54 (t:Tra):QC t=some (bo t.Is):=by
 unfold QC
 rw [e_Tshape]
 by_cases h:Para t.s t.t∧t.p.length=t.s.ob.length∧(∀ j:Nat,j<t.p.length→0≤ix t.p j∧ix t.p j<t.s.t.fr.length)∧∀ x:Nat,x<t.p.length→ix t.s.t.fr (ix t.p x)=ix t.s.ob x∧ix t.s.t.to (ix t.p x)=ix t.t.ob x
 case neg=>rw [Qz h,Qz (show ¬ t.Is from fun q=>h ⟨q.p,q.n.lp,q.n.bd,q.n.ends⟩)];simp
 rw [QN h]
 obtain ⟨hP,lp,bd,en⟩:=h
 obtain ⟨v,hv,hiff⟩:=Q7o hP lp bd
 have hv':QA t=some v:=hv
 by_cases hn:v<0
 ·rw [QN (show t.Is from ⟨hP,lp,bd,en,hiff.1 hn⟩)];simp [hv',hn]
 rw [Qz (show ¬ t.Is from fun q=>hn (hiff.2 q.n.sq))];simp [hv',hn]
theorem Q6z (ts:List Tra) (hl:ts.length≤1048576):Q1H ts=some (bo (∀ t∈ts,t.Is)):=by
 unfold Q1H
 refine Q19 ts.length (fun i:Nat=>(gx ts i).Is) (eb:=Sum.inr false) (eg:=Sum.inl ()) (by omega) (fun a hi hp=>?_) (fun a hi hp=>?_) (by simp) (fun hx=>?_) fun q1=>?_
 ·simp (disch:=omega) [Qe,B64,Q54,QN hp,hi]
 ·simp (disch:=omega) [Qe,B64,Q54,Qz hp,hi]
 ·rw [Qz (show ¬ ∀ c∈ts,c.Is from fun q=>hx fun i hi=>q _ (by rw [Q5J _ hi];exact List.getElem_mem hi))]
 rw [QN (show ∀ c∈ts,c.Is from fun c hc=>by obtain ⟨i,hi,rfl⟩:=List.getElem_of_mem hc;have:=q1 i hi;rwa [Q5J _ hi] at this)]
end Go.Vc.T
namespace Go.Vc.T
open Go Go.Vc Go.Proofs
noncomputable def Q1Q (c_:Cat) (f_:Int):Option Bool :=
 ass (0≤f_∧f_<(c_.fr.length:Int)) <|
 ass (0≤ix c_.fr f_∧ix c_.fr f_<(c_.id.length:Int)) <|
 some ((ix c_.id (ix c_.fr f_)) == f_)
theorem Q5v (c_:Cat) (f_:Int) (r:Bool) (h:Q1Q c_ f_=some r):Contract Tryz.prog 126 [.agg (c_.cells true),.val (.int .i64 f_)] (.val (.bool r)):=by
 refine Qi (rvs:=[.tmp 4]) (rs:=[.val (.bool r)]) Tryz.func126 rfl rfl rfl rfl (by simp [Tryz.f126]) fun F hN hP=>?_
 unfold Q1Q at h
 refine Q6 ?_
 refine runQ hN fun K hK=>?_
 simp [-Q0,-Q8,-Q3,-Q9,-Q4,eL,eI,Q1,Q5,Cat.cells]
 repeat with_reducible refine sdQ ?_
 refine hK _ ?_;clear hK K
 refine tn ?_
 refine Qa (st':=⟨[(1,.val (.int .i64 f_)),(2,.adr 0 0 0)],[(0,.mix 5 [(Cat.cells true c_)])],1⟩) (Wk.r1 [(0,0)] (by simp [hP,hhOk,back,Cat.cells,UA,U1,IA,I1,LA,L1,BA,B1,EA,E1,E2,eB,eI,eL])) ?_
 refine Q6 ?_
 refine runQ hN fun K hK=>?_
 replace h:=Q7 h
 obtain ⟨a1,h⟩:=h
 replace h:=Q7 h
 obtain ⟨a2,h⟩:=h
 simp [-Q0,-Q8,-Q3,-Q9,-Q4,eL,eI,Q1,Q5,Cat.cells,at_I a1,at_I a2]
 repeat with_reducible refine sdQ ?_
 refine hK _ ?_;clear hK K
 refine tn ?_
 refine Qa (st':=⟨[(4,.val (.bool ((ix c_.id (ix c_.fr f_)) == f_)))],[],0⟩) (Wk.r1 [] (by simp [hP,hhOk,back,Cat.cells,UA,U1,IA,I1,LA,L1,BA,B1,EA,E1,E2,eB,eI,eL])) ?_
 refine Qk ?_
 have hr:=Option.some.inj h
 rw [← hr]
 refine ⟨_,(.tmp .nil),?_⟩
 refine ⟨(.one rfl rfl .nil),[.val (.bool ((ix c_.id (ix c_.fr f_)) == f_))],[],by simp [Cat.cells,UA,U1,IA,I1,LA,L1,BA,B1,EA,E1,E2,eB,eI,eL],by simp,(UpL.refl _)⟩
end Go.Vc.T
namespace Go.Vc.T
open Go Go.Vc Go.Proofs
structure Adj.Pre (a:Adj):Prop where
 hl:a.l.Is
 hr:a.r.Is
 e1:a.l.t=a.r.s
 e2:a.r.t=a.l.s
 n1:NatT (Q2D a.l.s) (Q2T a.l a.r) a.u
 n2:NatT (Q2T a.r a.l) (Q2D a.l.t) a.k
structure Adj.Is (a:Adj):Prop where
 pre:a.Pre
 t1:∀ x:Nat,x<a.l.ob.length→ix (rx a.l.t.cs (ix a.l.ar (ix a.u x))) (ix a.k (ix a.l.ob x))=ix a.l.t.id (ix a.l.ob x)
 t2:∀ y:Nat,y<a.r.ob.length→ix (rx a.l.s.cs (ix a.u (ix a.r.ob y))) (ix a.r.ar (ix a.k y))=ix a.l.s.id (ix a.r.ob y)
theorem e_l02Unit {c:Cat} (hc:c.Is) {f:Int} (h0:0≤f) (h1:f<c.fr.length):Q1Q c f=some (bo (f=ix c.id (ix c.fr f))):=by
 have:=hc.1.fr' h0 h1
 unfold Q1Q
 rw [Qe ⟨h0,h1⟩,Qe this]
 by_cases h:ix c.id (ix c.fr f)=f
 ·rw [QN h.symm];simp [h]
 rw [Qz (fun q=>h q.symm)];simp [h]
theorem Q8y {f g:Fn} {p:List Int} (h:Para f g):(⟨f,g,p⟩:Tra).Is↔NatT f g p:=⟨fun q=>q.n,fun q=>⟨h,q⟩⟩
end Go.Vc.T
namespace Go.Vc.T
open Go Go.Vc Go.Proofs
noncomputable def Q2a (f_:Fn) (g_:Fn) (unit_:List Int) (counit_:List Int):Option Adj :=
 (Q1k f_).bind fun v1 =>
 (Q1k g_).bind fun v2 =>
 (Q2e unit_).bind fun v3 =>
 (Q2e counit_).bind fun v4 =>
 some (⟨v1,v2,v3,v4⟩:Adj)
theorem Q5C (f_:Fn) (g_:Fn) (unit_:List Int) (counit_:List Int) (r:Adj) (h:Q2a f_ g_ unit_ counit_=some r):Contract Tryz.prog 58 [.rptr (f_.cells true),.rptr (g_.cells true),.lst true 1 (Is unit_),.lst true 1 (Is counit_)] (.agg (r.cells true)):=by
 refine Qi (rvs:=[.cell 8 35]) (rs:=[.agg (r.cells true)]) Tryz.func58 rfl rfl rfl rfl (by simp [Tryz.f58]) fun F hN hP=>?_
 unfold Q2a at h
 refine Q6 ?_
 refine runQ hN fun K hK=>?_
 simp [-Q0,-Q8,-Q3,-Q9,-Q4,eL,eI,Q1,Qt,Qd,Adj.cells,Fn.cells]
 repeat with_reducible refine sdQ ?_
 refine hK _ ?_;clear hK K
 refine tn ?_
 refine Qa (st':=⟨[(0,.rptr (Fn.cells true f_)),(1,.rptr (Fn.cells true g_)),(2,.lst true 1 (Is unit_)),(3,.lst true 1 (Is counit_)),(8,.adr 0 0 0)],[(0,.mix 26 [[.val (.int .i64 0),.val (.slice none 0 0),.val (.slice none 0 0),.val (.slice none 0 0),.val (.slice none 0 0),.val (.int .i64 0),.val (.slice none 0 0),.val (.slice none 0 0),.val (.slice none 0 0),.val (.slice none 0 0),.val (.slice none 0 0),.val (.slice none 0 0),.val (.int .i64 0),.val (.slice none 0 0),.val (.slice none 0 0),.val (.slice none 0 0),.val (.slice none 0 0),.val (.int .i64 0),.val (.slice none 0 0),.val (.slice none 0 0),.val (.slice none 0 0),.val (.slice none 0 0),.val (.slice none 0 0),.val (.slice none 0 0),.val (.slice none 0 0),.val (.slice none 0 0)]])],1⟩) (Wk.r1 [(0,0)] (by simp [hP,hhOk,back,Adj.cells,Fn.cells,UA,U1,IA,I1,LA,L1,BA,B1,EA,E1,E2,eB,eI,eL])) ?_
 refine Q6 ?_
 refine runQ hN fun K hK=>?_
 simp [-Q0,-Q8,-Q3,-Q9,-Q4,eL,eI,Q1,Qt,Qd,Adj.cells,Fn.cells]
 repeat with_reducible refine sdQ ?_
 replace h:=bind_some h
 obtain ⟨v1,hv1,h⟩:=h
 refine Q2 (Q3k _ v1 hv1) (.cons (.preT (by simp [Fn.cells])) .nil) ?_
 simp [-Q0,-Q8,-Q3,-Q9,-Q4,unk,unA,unE,unT,unC,flat,eL,eI,Q1,Qt,Qd,Adj.cells,Fn.cells]
 repeat with_reducible refine sdQ ?_
 replace h:=bind_some h
 obtain ⟨v2,hv2,h⟩:=h
 refine Q2 (Q3k _ v2 hv2) (.cons (.preT (by simp [Fn.cells])) .nil) ?_
 simp [-Q0,-Q8,-Q3,-Q9,-Q4,unk,unA,unE,unT,unC,flat,eL,eI,Q1,Qt,Qd,Adj.cells,Fn.cells]
 repeat with_reducible refine sdQ ?_
 replace h:=bind_some h
 obtain ⟨v3,hv3,h⟩:=h
 refine Q2 (Q4j _ v3 hv3) (.cons .lst .nil) ?_
 simp [-Q0,-Q8,-Q3,-Q9,-Q4,unk,unA,unE,unT,unC,flat,eL,eI,Q1,Qt,Qd,Adj.cells,Fn.cells]
 repeat with_reducible refine sdQ ?_
 replace h:=bind_some h
 obtain ⟨v4,hv4,h⟩:=h
 refine Q2 (Q4j _ v4 hv4) (.cons .lst .nil) ?_
 simp [-Q0,-Q8,-Q3,-Q9,-Q4,unk,unA,unE,unT,unC,flat,eL,eI,Q1,Qt,Qd,Adj.cells,Fn.cells]
 repeat with_reducible refine sdQ ?_
 refine hK _ ?_;clear hK K
 refine tn ?_
 refine Qa (st':=⟨[(8,.adr 0 0 0)],[(0,.mix 26 [[.val (.int .i64 v1.s.n),.own 1 0 v1.s.fr.length,.own 2 0 v1.s.to.length,.own 3 0 v1.s.id.length,.own 4 0 v1.s.cs.length,.val (.int .i64 v1.t.n),.own 5 0 v1.t.fr.length,.own 6 0 v1.t.to.length,.own 7 0 v1.t.id.length,.own 8 0 v1.t.cs.length,.own 9 0 v1.ob.length,.own 10 0 v1.ar.length,.val (.int .i64 v2.s.n),.own 11 0 v2.s.fr.length,.own 12 0 v2.s.to.length,.own 13 0 v2.s.id.length,.own 14 0 v2.s.cs.length,.val (.int .i64 v2.t.n),.own 15 0 v2.t.fr.length,.own 16 0 v2.t.to.length,.own 17 0 v2.t.id.length,.own 18 0 v2.t.cs.length,.own 19 0 v2.ob.length,.own 20 0 v2.ar.length,.own 21 0 v3.length,.own 22 0 v4.length]]),(1,.row 1 (Is v1.s.fr)),(2,.row 1 (Is v1.s.to)),(3,.row 1 (Is v1.s.id)),(4,.row 1 (Ls v1.s.cs)),(5,.row 1 (Is v1.t.fr)),(6,.row 1 (Is v1.t.to)),(7,.row 1 (Is v1.t.id)),(8,.row 1 (Ls v1.t.cs)),(9,.row 1 (Is v1.ob)),(10,.row 1 (Is v1.ar)),(11,.row 1 (Is v2.s.fr)),(12,.row 1 (Is v2.s.to)),(13,.row 1 (Is v2.s.id)),(14,.row 1 (Ls v2.s.cs)),(15,.row 1 (Is v2.t.fr)),(16,.row 1 (Is v2.t.to)),(17,.row 1 (Is v2.t.id)),(18,.row 1 (Ls v2.t.cs)),(19,.row 1 (Is v2.ob)),(20,.row 1 (Is v2.ar)),(21,.row 1 (Is v3)),(22,.row 1 (Is v4))],23⟩) (Wk.r1 [(0,0),(2,1),(3,2),(4,3),(5,4),(7,5),(8,6),(9,7),(10,8),(11,9),(12,10),(14,11),(15,12),(16,13),(17,14),(19,15),(20,16),(21,17),(22,18),(23,19),(24,20),(25,21),(26,22)] (by simp [hP,hhOk,back,Adj.cells,Fn.cells,UA,U1,IA,I1,LA,L1,BA,B1,EA,E1,E2,eB,eI,eL])) ?_
 refine Qk ?_
 have hr:=Option.some.inj h
 rw [← hr]
 refine ⟨_,(.cell tf_35 rfl rfl rfl (by simp) (by simp) .nil),?_⟩
 refine ⟨(.agg rfl .nil),[.val (.int .i64 v1.s.n),.lst true 1 (Is v1.s.fr),.lst true 1 (Is v1.s.to),.lst true 1 (Is v1.s.id),.lst true 1 (Ls v1.s.cs),.val (.int .i64 v1.t.n),.lst true 1 (Is v1.t.fr),.lst true 1 (Is v1.t.to),.lst true 1 (Is v1.t.id),.lst true 1 (Ls v1.t.cs),.lst true 1 (Is v1.ob),.lst true 1 (Is v1.ar),.val (.int .i64 v2.s.n),.lst true 1 (Is v2.s.fr),.lst true 1 (Is v2.s.to),.lst true 1 (Is v2.s.id),.lst true 1 (Ls v2.s.cs),.val (.int .i64 v2.t.n),.lst true 1 (Is v2.t.fr),.lst true 1 (Is v2.t.to),.lst true 1 (Is v2.t.id),.lst true 1 (Ls v2.t.cs),.lst true 1 (Is v2.ob),.lst true 1 (Is v2.ar),.lst true 1 (Is v3),.lst true 1 (Is v4)],[1,2,3,4,5,6,7,8,9,10,11,12,13,14,15,16,17,18,19,20,21,22],by simp [Adj.cells,Fn.cells,UA,U1,IA,I1,LA,L1,BA,B1,EA,E1,E2,eB,eI,eL],by simp,(UpL.refl _)⟩
end Go.Vc.T
namespace Go.Vc.T
open Go Go.Vc Go.Proofs
def tab {α:Type} (n:Nat) (g:Nat→α):List α:=(List.range n).map g
@[simp] theorem Q99 {α:Type} (n:Nat) (g:Nat→α):(tab n g).length=n:=by simp [tab]
theorem Q4g {α:Type} (n:Nat) (g:Nat→α):tab (n+1) g=tab n g++[g n]:=by simp [tab,List.range_succ]
def zeroF:Fn:=⟨⟨0,[],[],[],[]⟩,⟨0,[],[],[],[]⟩,[],[]⟩
structure Adj.Two (a b:Adj):Prop where
 ha:a.Is
 hb:b.Is
 e:a.l.t=b.l.s
end Go.Vc.T
namespace Go.Vc.T
open Go Go.Vc Go.Proofs
noncomputable def QR (c_:Cat) (x_:Int) (y_:Int):Option (List Int) :=
 (QH (σ:=List Int × Int) (ε:=List Int) (fun s11 =>
  if s11.2<(c_.fr.length:Int) then
   (
    (
     ass (0≤s11.2∧s11.2<(c_.fr.length:Int)) <|
     if (ix c_.fr s11.2)=x_ then
      ass (0≤s11.2∧s11.2<(c_.to.length:Int)) <|
      some ((ix c_.to s11.2) == y_)
     else
      some false:Option (Bool)).bind fun b14 =>
    if b14=true then
     ass ((s11.1++[s11.2]).length≤1073741824) <|
     some (s11.1++[s11.2])
    else
     some s11.1:Option (List Int)).bind fun b13 =>
   ass (B64 (s11.2+1)) <|
   some (Ctl.next (b13,s11.2+1))
  else
   some (Ctl.ret s11.1)) fuel ([],0)).bind fun b1 =>
 some b1
theorem Q4T (c_:Cat) (x_:Int) (y_:Int) (r:List Int) (h:QR c_ x_ y_=some r):Contract Tryz.prog 137 [.rptr (c_.cells true),.val (.int .i64 x_),.val (.int .i64 y_)] (.lst true 1 (Is r)):=by
 refine Qi (rvs:=[.tmp 6]) (rs:=[.lst true 1 (Is r)]) Tryz.func137 rfl rfl rfl rfl (by simp [Tryz.f137]) fun F hN hP=>?_
 unfold QR at h
 refine Q6 ?_
 refine runQ hN fun K hK=>?_
 simp [-Q0,-Q8,-Q3,-Q9,-Q4,eL,eI,Q1,Q5,Cat.cells]
 repeat with_reducible refine sdQ ?_
 refine hK _ ?_;clear hK K
 refine tn ?_
 refine Qa (st':=⟨[(0,.rptr (Cat.cells true c_)),(1,.val (.int .i64 x_)),(2,.val (.int .i64 y_))],[],0⟩) (Wk.r1 [] (by simp [hP,hhOk,back,Cat.cells,UA,U1,IA,I1,LA,L1,BA,B1,EA,E1,E2,eB,eI,eL])) ?_
 refine Q6 ?_
 refine runQ hN fun K hK=>?_
 simp [-Q0,-Q8,-Q3,-Q9,-Q4,eL,eI,Q1,Q5,Cat.cells]
 repeat with_reducible refine sdQ ?_
 refine hK _ ?_;clear hK K
 refine tn ?_
 refine Qa (st':=⟨[(0,.rptr (Cat.cells true c_)),(1,.val (.int .i64 x_)),(2,.val (.int .i64 y_)),(7,.own 0 0 0)],[(0,.mix 1 [])],1⟩) (Wk.r1 [(0,0)] (by simp [hP,hhOk,back,Cat.cells,UA,U1,IA,I1,LA,L1,BA,B1,EA,E1,E2,eB,eI,eL])) ?_
 refine Q6 ?_
 refine Q6 ?_
 refine runQ hN fun K hK=>?_
 simp [-Q0,-Q8,-Q3,-Q9,-Q4,eL,eI,Q1,Q5,Cat.cells]
 repeat with_reducible refine sdQ ?_
 refine hK _ ?_;clear hK K
 refine tn ?_
 refine Qa (st':=⟨[(0,.rptr (Cat.cells true c_)),(1,.val (.int .i64 x_)),(2,.val (.int .i64 y_)),(7,.own 0 0 0),(14,.val (.int .i64 (c_.fr.length:Int))),(15,.val (.int .i64 0))],[(0,.mix 1 [])],1⟩) (Wk.r1 [(0,0)] (by simp [hP,hhOk,back,Cat.cells,UA,U1,IA,I1,LA,L1,BA,B1,EA,E1,E2,eB,eI,eL])) ?_
 replace h:=bind_some h
 obtain ⟨e1,h,h1⟩:=h
 refine Qm (fun b1:List Int=>⟨[(7,.own 0 0 b1.length)],[(0,.row 1 (Is b1))],1⟩) (fun b1=>b1=e1) ?_ ?_
 ·refine Qf ?_
  refine Qy h (fun s11:List Int × Int=>⟨[(0,.rptr (Cat.cells true c_)),(1,.val (.int .i64 x_)),(2,.val (.int .i64 y_)),(7,.own 0 0 s11.1.length),(14,.val (.int .i64 (c_.fr.length:Int))),(15,.val (.int .i64 s11.2))],[(0,.row 1 (Is s11.1))],1⟩) (Q3h ⟨[(0,.rptr (Cat.cells true c_)),(1,.val (.int .i64 x_)),(2,.val (.int .i64 y_)),(7,.own 0 0 0),(14,.val (.int .i64 (c_.fr.length:Int))),(15,.val (.int .i64 0))],[(0,.row 1 (Is []))],1⟩ (Wk.nils [] (by simp) (by simp) (by simp [nlA]) (by simp [entN,nlL,nlA,Cat.cells,UA,U1,IA,I1,LA,L1,BA,B1,EA,E1,E2,eB,eI,eL]) (by simp)) (Wk.r1 [(0,0)] (by simp [hP,hhOk,back,Cat.cells,UA,U1,IA,I1,LA,L1,BA,B1,EA,E1,E2,eB,eI,eL]))) ?_
  clear h
  intro k11 s11 c11 h hk11
  refine Q6 ?_
  refine runQ hN fun K hK=>?_
  simp [-Q0,-Q8,-Q3,-Q9,-Q4,eL,eI,Q1,Q5,Cat.cells]
  repeat with_reducible refine sdQ ?_
  refine hK _ ?_;clear hK K
  refine tn ?_
  refine Qa (st':=⟨[(0,.rptr (Cat.cells true c_)),(1,.val (.int .i64 x_)),(2,.val (.int .i64 y_)),(7,.own 0 0 s11.1.length),(14,.val (.int .i64 (c_.fr.length:Int))),(15,.val (.int .i64 s11.2)),(16,.val (.bool (decide (s11.2<(c_.fr.length:Int)))))],[(0,.row 1 (Is s11.1))],1⟩) (Wk.r1 [(0,0)] (by simp [hP,hhOk,back,Cat.cells,UA,U1,IA,I1,LA,L1,BA,B1,EA,E1,E2,eB,eI,eL])) ?_
  refine Q6 ?_
  refine Qg rfl (fun g=>?_) fun g=>?_
  ·have g12:s11.2<(c_.fr.length:Int):=gQ
   clear g
   replace h:=if_l g12 h
   refine Qh ?_
   refine tn ?_
   refine Q6 ?_
   replace h:=bind_some h
   obtain ⟨e13,h,h13⟩:=h
   refine Qm (fun b13:List Int=>⟨[(0,.rptr (Cat.cells true c_)),(1,.val (.int .i64 x_)),(2,.val (.int .i64 y_)),(7,.own 0 0 b13.length),(14,.val (.int .i64 (c_.fr.length:Int))),(15,.val (.int .i64 s11.2))],[(0,.row 1 (Is b13))],1⟩) (fun b13=>b13=e13) ?_ ?_
   ·refine Qf ?_
    refine Q6 ?_
    refine runQ hN fun K hK=>?_
    simp [-Q0,-Q8,-Q3,-Q9,-Q4,eL,eI,Q1,Q5,Cat.cells]
    repeat with_reducible refine sdQ ?_
    refine hK _ ?_;clear hK K
    refine tn ?_
    refine Qa (st':=⟨[(0,.rptr (Cat.cells true c_)),(1,.val (.int .i64 x_)),(2,.val (.int .i64 y_)),(7,.own 0 0 s11.1.length),(8,.val (.int .i64 s11.2)),(14,.val (.int .i64 (c_.fr.length:Int))),(15,.val (.int .i64 s11.2))],[(0,.row 1 (Is s11.1))],1⟩) (Wk.r1 [(0,0)] (by simp [hP,hhOk,back,Cat.cells,UA,U1,IA,I1,LA,L1,BA,B1,EA,E1,E2,eB,eI,eL])) ?_
    refine Q6 ?_
    replace h:=bind_some h
    obtain ⟨e14,h,h14⟩:=h
    refine Qm (fun b14:Bool=>⟨[(0,.rptr (Cat.cells true c_)),(1,.val (.int .i64 x_)),(2,.val (.int .i64 y_)),(7,.own 0 0 s11.1.length),(8,.val (.int .i64 s11.2)),(14,.val (.int .i64 (c_.fr.length:Int))),(15,.val (.int .i64 s11.2)),(37,.val (.bool b14))],[(0,.row 1 (Is s11.1))],1⟩) (fun b14=>b14=e14) ?_ ?_
    ·refine runQ hN fun K hK=>?_
     replace h:=Q7 h
     obtain ⟨a15,h⟩:=h
     simp [-Q0,-Q8,-Q3,-Q9,-Q4,eL,eI,Q1,Q5,Cat.cells,at_I a15]
     repeat with_reducible refine sdQ ?_
     refine Qq (fun g=>?_) (fun g=>?_)
     ·have g16:(ix c_.fr s11.2)=x_:=gQ
      clear g
      replace h:=if_l g16 h
      replace h:=Q7 h
      obtain ⟨a17,h⟩:=h
      simp [-Q0,-Q8,-Q3,-Q9,-Q4,eL,eI,Q1,Q5,Cat.cells,at_I a15,at_I a17]
      repeat with_reducible refine sdQ ?_
      refine hK _ ?_
      exact jn (b:=(ix c_.to s11.2) == y_) (Option.some.inj h) (Wk.r1 [(0,0)] (by simp [hP,hhOk,back,Cat.cells,UA,U1,IA,I1,LA,L1,BA,B1,EA,E1,E2,eB,eI,eL]))
     have g16:¬ ((ix c_.fr s11.2)=x_):=gQ
     clear g
     replace h:=if_r g16 h
     simp [-Q0,-Q8,-Q3,-Q9,-Q4,eL,eI,Q1,Q5,Cat.cells,at_I a15]
     repeat with_reducible refine sdQ ?_
     refine hK _ ?_
     exact jn (b:=false) (Option.some.inj h) (Wk.r1 [(0,0)] (by simp [hP,hhOk,back,Cat.cells,UA,U1,IA,I1,LA,L1,BA,B1,EA,E1,E2,eB,eI,eL]))
    intro b14 hb14
    have h:=h14
    rw [← hb14] at h
    clear h14
    try dsimp only at h
    refine Qg rfl (fun g=>?_) fun g=>?_
    ·have g18:b14=true:=gQ
     clear g
     replace h:=if_l g18 h
     refine runQ hN fun K hK=>?_
     replace h:=Q7 h
     obtain ⟨a19,h⟩:=h
     try simp only [List.length_append,List.length_cons,List.length_nil] at a19
     simp [-Q0,-Q8,-Q3,-Q9,-Q4,eL,eI,Q1,Q5,Cat.cells,a19]
     repeat with_reducible refine sdQ ?_
     refine hK _ ?_;clear hK K
     refine bn ?_
     exact jn (b:=s11.1++[s11.2]) (Option.some.inj h) (Wk.r1 [(2,0)] (by simp [hP,hhOk,back,Cat.cells,UA,U1,IA,I1,LA,L1,BA,B1,EA,E1,E2,eB,eI,eL]))
    have g18:¬ (b14=true):=gQ
    clear g
    replace h:=if_r g18 h
    refine Qh ?_
    refine bn ?_
    exact jn (b:=s11.1) (Option.some.inj h) (Wk.r1 [(0,0)] (by simp [hP,hhOk,back,Cat.cells,UA,U1,IA,I1,LA,L1,BA,B1,EA,E1,E2,eB,eI,eL]))
   intro b13 hb13
   have h:=h13
   rw [← hb13] at h
   clear h13
   try dsimp only at h
   refine runQ hN fun K hK=>?_
   replace h:=Q7 h
   obtain ⟨a20,h⟩:=h
   simp [-Q0,-Q8,-Q3,-Q9,-Q4,eL,eI,Q1,Q5,Cat.cells,Qw a20]
   repeat with_reducible refine sdQ ?_
   refine hK _ ?_;clear hK K
   cases h
   exact rn (s':=(b13,s11.2+1)) hk11 (Wk.r1 [(0,0)] (by simp [hP,hhOk,back,Cat.cells,UA,U1,IA,I1,LA,L1,BA,B1,EA,E1,E2,eB,eI,eL]))
  have g12:¬ (s11.2<(c_.fr.length:Int)):=gQ
  clear g
  replace h:=if_r g12 h
  refine Qp ?_
  refine tx ?_
  refine lx ?_
  refine bh ?_
  cases h
  exact jn (b:=s11.1) hk11 (Wk.r1 [(0,0)] (by simp [hP,hhOk,back,Cat.cells,UA,U1,IA,I1,LA,L1,BA,B1,EA,E1,E2,eB,eI,eL]))
 intro b1 hb1
 have h:=h1
 rw [← hb1] at h
 clear h1
 try dsimp only at h
 refine Q6 ?_
 refine runQ hN fun K hK=>?_
 simp [-Q0,-Q8,-Q3,-Q9,-Q4,eL,eI,Q1,Q5,Cat.cells]
 repeat with_reducible refine sdQ ?_
 refine hK _ ?_;clear hK K
 refine tn ?_
 refine Qa (st':=⟨[(6,.own 0 0 b1.length)],[(0,.row 1 (Is b1))],1⟩) (Wk.r1 [(0,0)] (by simp [hP,hhOk,back,Cat.cells,UA,U1,IA,I1,LA,L1,BA,B1,EA,E1,E2,eB,eI,eL])) ?_
 refine Qk ?_
 have hr:=Option.some.inj h
 rw [← hr]
 refine ⟨_,(.tmp .nil),?_⟩
 refine ⟨(.one rfl rfl .nil),[.lst true 1 (Is b1)],[0],by simp [Cat.cells,UA,U1,IA,I1,LA,L1,BA,B1,EA,E1,E2,eB,eI,eL],by simp,(UpL.refl _)⟩
end Go.Vc.T
namespace Go.Vc.T
open Go Go.Vc Go.Proofs
noncomputable def Q30 (c_:Cat) (x_:Int) (y_:Int):Option (List Int) :=
 (QH (σ:=List Int × Int) (ε:=List Int) (fun s11 =>
  if s11.2<(c_.fr.length:Int) then
   (
    (
     ass (0≤s11.2∧s11.2<(c_.fr.length:Int)) <|
     if (ix c_.fr s11.2)=x_ then
      ass (0≤s11.2∧s11.2<(c_.to.length:Int)) <|
      some ((ix c_.to s11.2) == y_)
     else
      some false:Option (Bool)).bind fun b14 =>
    if b14=true then
     ass ((s11.1++[s11.2]).length≤1073741824) <|
     some (s11.1++[s11.2])
    else
     some s11.1:Option (List Int)).bind fun b13 =>
   ass (B64 (s11.2+1)) <|
   some (Ctl.next (b13,s11.2+1))
  else
   some (Ctl.ret s11.1)) fuel ([],0)).bind fun b1 =>
 some b1
theorem Q9b (c_:Cat) (x_:Int) (y_:Int) (r:List Int) (h:Q30 c_ x_ y_=some r):Contract Tryz.prog 109 [.agg (c_.cells true),.val (.int .i64 x_),.val (.int .i64 y_)] (.lst true 1 (Is r)):=by
 refine Qi (rvs:=[.tmp 6]) (rs:=[.lst true 1 (Is r)]) Tryz.func109 rfl rfl rfl rfl (by simp [Tryz.f109]) fun F hN hP=>?_
 unfold Q30 at h
 refine Q6 ?_
 refine runQ hN fun K hK=>?_
 simp [-Q0,-Q8,-Q3,-Q9,-Q4,eL,eI,Q1,Q5,Cat.cells]
 repeat with_reducible refine sdQ ?_
 refine hK _ ?_;clear hK K
 refine tn ?_
 refine Qa (st':=⟨[(1,.val (.int .i64 x_)),(2,.val (.int .i64 y_)),(3,.adr 0 0 0)],[(0,.mix 5 [(Cat.cells true c_)])],1⟩) (Wk.r1 [(0,0)] (by simp [hP,hhOk,back,Cat.cells,UA,U1,IA,I1,LA,L1,BA,B1,EA,E1,E2,eB,eI,eL])) ?_
 refine Q6 ?_
 refine runQ hN fun K hK=>?_
 simp [-Q0,-Q8,-Q3,-Q9,-Q4,eL,eI,Q1,Q5,Cat.cells]
 repeat with_reducible refine sdQ ?_
 refine hK _ ?_;clear hK K
 refine tn ?_
 refine Qa (st':=⟨[(1,.val (.int .i64 x_)),(2,.val (.int .i64 y_)),(3,.adr 0 0 0),(7,.own 1 0 0)],[(0,.mix 5 [(Cat.cells true c_)]),(1,.mix 1 [])],2⟩) (Wk.r1 [(0,0),(1,1)] (by simp [hP,hhOk,back,Cat.cells,UA,U1,IA,I1,LA,L1,BA,B1,EA,E1,E2,eB,eI,eL])) ?_
 refine Q6 ?_
 refine Q6 ?_
 refine runQ hN fun K hK=>?_
 simp [-Q0,-Q8,-Q3,-Q9,-Q4,eL,eI,Q1,Q5,Cat.cells]
 repeat with_reducible refine sdQ ?_
 refine hK _ ?_;clear hK K
 refine tn ?_
 refine Qa (st':=⟨[(1,.val (.int .i64 x_)),(2,.val (.int .i64 y_)),(3,.adr 0 0 0),(7,.own 1 0 0),(8,.val (.int .i64 0))],[(0,.mix 5 [(Cat.cells true c_)]),(1,.mix 1 [])],2⟩) (Wk.r1 [(0,0),(1,1)] (by simp [hP,hhOk,back,Cat.cells,UA,U1,IA,I1,LA,L1,BA,B1,EA,E1,E2,eB,eI,eL])) ?_
 replace h:=bind_some h
 obtain ⟨e1,h,h1⟩:=h
 refine Qm (fun b1:List Int=>⟨[(7,.own 0 0 b1.length)],[(0,.row 1 (Is b1))],1⟩) (fun b1=>b1=e1) ?_ ?_
 ·refine Qf ?_
  refine Qy h (fun s11:List Int × Int=>⟨[(1,.val (.int .i64 x_)),(2,.val (.int .i64 y_)),(3,.adr 0 0 0),(7,.own 1 0 s11.1.length),(8,.val (.int .i64 s11.2))],[(0,.mix 5 [(Cat.cells true c_)]),(1,.row 1 (Is s11.1))],2⟩) (Q3h ⟨[(1,.val (.int .i64 x_)),(2,.val (.int .i64 y_)),(3,.adr 0 0 0),(7,.own 1 0 0),(8,.val (.int .i64 0))],[(0,.mix 5 [(Cat.cells true c_)]),(1,.row 1 (Is []))],2⟩ (Wk.nils [] (by simp) (by simp) (by simp [nlA]) (by simp [entN,nlL,nlA,Cat.cells,UA,U1,IA,I1,LA,L1,BA,B1,EA,E1,E2,eB,eI,eL]) (by simp)) (Wk.r1 [(0,0),(1,1)] (by simp [hP,hhOk,back,Cat.cells,UA,U1,IA,I1,LA,L1,BA,B1,EA,E1,E2,eB,eI,eL]))) ?_
  clear h
  intro k11 s11 c11 h hk11
  refine Q6 ?_
  refine Q6 ?_
  refine runQ hN fun K hK=>?_
  simp [-Q0,-Q8,-Q3,-Q9,-Q4,eL,eI,Q1,Q5,Cat.cells]
  repeat with_reducible refine sdQ ?_
  refine hK _ ?_;clear hK K
  refine tn ?_
  refine Qa (st':=⟨[(1,.val (.int .i64 x_)),(2,.val (.int .i64 y_)),(3,.adr 0 0 0),(7,.own 1 0 s11.1.length),(8,.val (.int .i64 s11.2)),(14,.val (.bool (decide (s11.2<(c_.fr.length:Int)))))],[(0,.mix 5 [(Cat.cells true c_)]),(1,.row 1 (Is s11.1))],2⟩) (Wk.r1 [(0,0),(1,1)] (by simp [hP,hhOk,back,Cat.cells,UA,U1,IA,I1,LA,L1,BA,B1,EA,E1,E2,eB,eI,eL])) ?_
  refine Qg rfl (fun g=>?_) fun g=>?_
  ·have g12:s11.2<(c_.fr.length:Int):=gQ
   clear g
   replace h:=if_l g12 h
   refine Qh ?_
   refine tn ?_
   refine Q6 ?_
   replace h:=bind_some h
   obtain ⟨e13,h,h13⟩:=h
   refine Qm (fun b13:List Int=>⟨[(1,.val (.int .i64 x_)),(2,.val (.int .i64 y_)),(3,.adr 0 0 0),(7,.own 1 0 b13.length),(8,.val (.int .i64 s11.2))],[(0,.mix 5 [(Cat.cells true c_)]),(1,.row 1 (Is b13))],2⟩) (fun b13=>b13=e13) ?_ ?_
   ·refine Qf ?_
    refine Q6 ?_
    replace h:=bind_some h
    obtain ⟨e14,h,h14⟩:=h
    refine Qm (fun b14:Bool=>⟨[(1,.val (.int .i64 x_)),(2,.val (.int .i64 y_)),(3,.adr 0 0 0),(7,.own 1 0 s11.1.length),(8,.val (.int .i64 s11.2)),(32,.val (.bool b14))],[(0,.mix 5 [(Cat.cells true c_)]),(1,.row 1 (Is s11.1))],2⟩) (fun b14=>b14=e14) ?_ ?_
    ·refine runQ hN fun K hK=>?_
     replace h:=Q7 h
     obtain ⟨a15,h⟩:=h
     simp [-Q0,-Q8,-Q3,-Q9,-Q4,eL,eI,Q1,Q5,Cat.cells,at_I a15]
     repeat with_reducible refine sdQ ?_
     refine Qq (fun g=>?_) (fun g=>?_)
     ·have g16:(ix c_.fr s11.2)=x_:=gQ
      clear g
      replace h:=if_l g16 h
      replace h:=Q7 h
      obtain ⟨a17,h⟩:=h
      simp [-Q0,-Q8,-Q3,-Q9,-Q4,eL,eI,Q1,Q5,Cat.cells,at_I a15,at_I a17]
      repeat with_reducible refine sdQ ?_
      refine hK _ ?_
      exact jn (b:=(ix c_.to s11.2) == y_) (Option.some.inj h) (Wk.r1 [(0,0),(1,1)] (by simp [hP,hhOk,back,Cat.cells,UA,U1,IA,I1,LA,L1,BA,B1,EA,E1,E2,eB,eI,eL]))
     have g16:¬ ((ix c_.fr s11.2)=x_):=gQ
     clear g
     replace h:=if_r g16 h
     simp [-Q0,-Q8,-Q3,-Q9,-Q4,eL,eI,Q1,Q5,Cat.cells,at_I a15]
     repeat with_reducible refine sdQ ?_
     refine hK _ ?_
     exact jn (b:=false) (Option.some.inj h) (Wk.r1 [(0,0),(1,1)] (by simp [hP,hhOk,back,Cat.cells,UA,U1,IA,I1,LA,L1,BA,B1,EA,E1,E2,eB,eI,eL]))
    intro b14 hb14
    have h:=h14
    rw [← hb14] at h
    clear h14
    try dsimp only at h
    refine Qg rfl (fun g=>?_) fun g=>?_
    ·have g18:b14=true:=gQ
     clear g
     replace h:=if_l g18 h
     refine runQ hN fun K hK=>?_
     replace h:=Q7 h
     obtain ⟨a19,h⟩:=h
     try simp only [List.length_append,List.length_cons,List.length_nil] at a19
     simp [-Q0,-Q8,-Q3,-Q9,-Q4,eL,eI,Q1,Q5,Cat.cells,a19]
     repeat with_reducible refine sdQ ?_
     refine hK _ ?_;clear hK K
     refine bn ?_
     exact jn (b:=s11.1++[s11.2]) (Option.some.inj h) (Wk.r1 [(0,0),(3,1)] (by simp [hP,hhOk,back,Cat.cells,UA,U1,IA,I1,LA,L1,BA,B1,EA,E1,E2,eB,eI,eL]))
    have g18:¬ (b14=true):=gQ
    clear g
    replace h:=if_r g18 h
    refine Qh ?_
    refine bn ?_
    exact jn (b:=s11.1) (Option.some.inj h) (Wk.r1 [(0,0),(1,1)] (by simp [hP,hhOk,back,Cat.cells,UA,U1,IA,I1,LA,L1,BA,B1,EA,E1,E2,eB,eI,eL]))
   intro b13 hb13
   have h:=h13
   rw [← hb13] at h
   clear h13
   try dsimp only at h
   refine runQ hN fun K hK=>?_
   replace h:=Q7 h
   obtain ⟨a20,h⟩:=h
   simp [-Q0,-Q8,-Q3,-Q9,-Q4,eL,eI,Q1,Q5,Cat.cells,Qw a20]
   repeat with_reducible refine sdQ ?_
   refine hK _ ?_;clear hK K
   cases h
   exact rn (s':=(b13,s11.2+1)) hk11 (Wk.r1 [(0,0),(1,1)] (by simp [hP,hhOk,back,Cat.cells,UA,U1,IA,I1,LA,L1,BA,B1,EA,E1,E2,eB,eI,eL]))
  have g12:¬ (s11.2<(c_.fr.length:Int)):=gQ
  clear g
  replace h:=if_r g12 h
  refine Qp ?_
  refine tx ?_
  refine lx ?_
  refine bh ?_
  cases h
  exact jn (b:=s11.1) hk11 (Wk.r1 [(1,0)] (by simp [hP,hhOk,back,Cat.cells,UA,U1,IA,I1,LA,L1,BA,B1,EA,E1,E2,eB,eI,eL]))
 intro b1 hb1
 have h:=h1
 rw [← hb1] at h
 clear h1
 try dsimp only at h
 refine Q6 ?_
 refine runQ hN fun K hK=>?_
 simp [-Q0,-Q8,-Q3,-Q9,-Q4,eL,eI,Q1,Q5,Cat.cells]
 repeat with_reducible refine sdQ ?_
 refine hK _ ?_;clear hK K
 refine tn ?_
 refine Qa (st':=⟨[(6,.own 0 0 b1.length)],[(0,.row 1 (Is b1))],1⟩) (Wk.r1 [(0,0)] (by simp [hP,hhOk,back,Cat.cells,UA,U1,IA,I1,LA,L1,BA,B1,EA,E1,E2,eB,eI,eL])) ?_
 refine Qk ?_
 have hr:=Option.some.inj h
 rw [← hr]
 refine ⟨_,(.tmp .nil),?_⟩
 refine ⟨(.one rfl rfl .nil),[.lst true 1 (Is b1)],[0],by simp [Cat.cells,UA,U1,IA,I1,LA,L1,BA,B1,EA,E1,E2,eB,eI,eL],by simp,(UpL.refl _)⟩
end Go.Vc.T
namespace Go.Vc.T
open Go Go.Vc Go.Proofs
noncomputable def flt (n:Nat) (p:Nat→Prop):List Int:=((List.range n).filter fun i=>bo (p i)).map Int.ofNat
noncomputable def fstN (n:Nat) (p:Nat→Prop):Int:=(((List.range n).find? fun i=>bo (p i)).map Int.ofNat).getD (-1)
theorem flt_pos {n:Nat} {p:Nat→Prop} (h:p n):flt (n+1) p=flt n p++[(n:Int)]:=by simp [flt,List.range_succ,QN h]
theorem flt_neg {n:Nat} {p:Nat→Prop} (h:¬ p n):flt (n+1) p=flt n p:=by simp [flt,List.range_succ,Qz h]
theorem flt_len (n:Nat) (p:Nat→Prop):(flt n p).length≤n:=by
 unfold flt
 rw [List.length_map]
 exact Nat.le_trans (List.length_filter_le _ _) (by simp)
theorem mem_flt {n:Nat} {p:Nat→Prop} {x:Int}:x∈flt n p↔∃ i:Nat,i<n∧p i∧x=(i:Int):=by
 simp only [flt,List.mem_map,List.mem_filter,List.mem_range,bo_tt]
 constructor
 ·rintro ⟨i,⟨h1,h2⟩,rfl⟩;exact ⟨i,h1,h2,rfl⟩
 rintro ⟨i,h1,h2,rfl⟩;exact ⟨i,⟨h1,h2⟩,rfl⟩
theorem Q8c (n:Nat) (p:Nat→Prop):(fstN n p = -1∧∀ i,i<n→¬ p i)∨∃ k:Nat,k<n∧p k∧fstN n p=(k:Int):=by
 unfold fstN
 cases h:(List.range n).find? fun i=>bo (p i) with
 | none =>
  refine .inl ⟨rfl,fun i hi=>?_⟩
  have:=List.find?_eq_none.1 h i (by simpa using hi)
  simpa [bo_tt] using this
 | some k =>
  have h1:=List.find?_some h
  have h2:=List.mem_of_find?_eq_some h
  exact .inr ⟨k,by simpa using h2,by simpa [bo_tt] using h1,rfl⟩
theorem e_hom {c:Cat} (h:c.Is) (x y:Int):QR c x y=some (flt c.fr.length fun a=>ix c.fr a=x∧ix c.to a=y):=by
 have k1:=h.1.lt
 have k2:=h.1.m40
 unfold QR
 refine QM c.fr.length (fun i=>flt i fun a=>ix c.fr a=x∧ix c.to a=y) (e:=flt c.fr.length fun a=>ix c.fr a=x∧ix c.to a=y) rfl (by omega) (fun i hi=>?_) (by simp) rfl
 have hl:=flt_len i fun a=>ix c.fr a=x∧ix c.to a=y
 by_cases h1:ix c.fr i=x
 ·by_cases h2:ix c.to i=y
  ·rw [flt_pos ⟨h1,h2⟩];simp (disch:=omega) [Qe,B64,h1,h2];try omega
  rw [flt_neg fun q=>h2 q.2];simp (disch:=omega) [Qe,B64,h1,h2];try omega
 rw [flt_neg fun q=>h1 q.1];simp (disch:=omega) [Qe,B64,h1];try omega
theorem e_l02Hom (c:Cat) (x y:Int):Q30 c x y=QR c x y:=rfl
end Go.Vc.T
namespace Go.Vc.T
open Go Go.Vc Go.Proofs
noncomputable def QX (m_:Mnd) (f_:Int):Option Int :=
 ass (0≤f_∧f_<(m_.f.ar.length:Int)) <|
 some (ix m_.f.ar f_)
theorem Q2E (m_:Mnd) (f_:Int) (r:Int) (h:QX m_ f_=some r):Contract Tryz.prog 55 [.rptr (m_.cells true),.val (.int .i64 f_)] (.val (.int .i64 r)):=by
 refine Qi (rvs:=[.tmp 4]) (rs:=[.val (.int .i64 r)]) Tryz.func55 rfl rfl rfl rfl (by simp [Tryz.f55]) fun F hN hP=>?_
 unfold QX at h
 refine Q6 ?_
 refine runQ hN fun K hK=>?_
 simp [-Q0,-Q8,-Q3,-Q9,-Q4,eL,eI,Q1,Qc,Mnd.cells]
 repeat with_reducible refine sdQ ?_
 refine hK _ ?_;clear hK K
 refine tn ?_
 refine Qa (st':=⟨[(0,.rptr (Mnd.cells true m_)),(1,.val (.int .i64 f_))],[],0⟩) (Wk.r1 [] (by simp [hP,hhOk,back,Mnd.cells,UA,U1,IA,I1,LA,L1,BA,B1,EA,E1,E2,eB,eI,eL])) ?_
 refine Q6 ?_
 refine runQ hN fun K hK=>?_
 replace h:=Q7 h
 obtain ⟨a1,h⟩:=h
 simp [-Q0,-Q8,-Q3,-Q9,-Q4,eL,eI,Q1,Qc,Mnd.cells,at_I a1]
 repeat with_reducible refine sdQ ?_
 refine hK _ ?_;clear hK K
 refine tn ?_
 refine Qa (st':=⟨[(4,.val (.int .i64 (ix m_.f.ar f_)))],[],0⟩) (Wk.r1 [] (by simp [hP,hhOk,back,Mnd.cells,UA,U1,IA,I1,LA,L1,BA,B1,EA,E1,E2,eB,eI,eL])) ?_
 refine Qk ?_
 have hr:=Option.some.inj h
 rw [← hr]
 refine ⟨_,(.tmp .nil),?_⟩
 refine ⟨(.one rfl rfl .nil),[.val (.int .i64 (ix m_.f.ar f_))],[],by simp [Mnd.cells,UA,U1,IA,I1,LA,L1,BA,B1,EA,E1,E2,eB,eI,eL],by simp,(UpL.refl _)⟩
end Go.Vc.T
namespace Go.Vc.T
open Go Go.Vc Go.Proofs
noncomputable def Q12 (m_:Mnd) (x_:Int):Option Int :=
 ass (0≤x_∧x_<(m_.f.ob.length:Int)) <|
 some (ix m_.f.ob x_)
theorem Q3l (m_:Mnd) (x_:Int) (r:Int) (h:Q12 m_ x_=some r):Contract Tryz.prog 90 [.rptr (m_.cells true),.val (.int .i64 x_)] (.val (.int .i64 r)):=by
 refine Qi (rvs:=[.tmp 4]) (rs:=[.val (.int .i64 r)]) Tryz.func90 rfl rfl rfl rfl (by simp [Tryz.f90]) fun F hN hP=>?_
 unfold Q12 at h
 refine Q6 ?_
 refine runQ hN fun K hK=>?_
 simp [-Q0,-Q8,-Q3,-Q9,-Q4,eL,eI,Q1,Qc,Mnd.cells]
 repeat with_reducible refine sdQ ?_
 refine hK _ ?_;clear hK K
 refine tn ?_
 refine Qa (st':=⟨[(0,.rptr (Mnd.cells true m_)),(1,.val (.int .i64 x_))],[],0⟩) (Wk.r1 [] (by simp [hP,hhOk,back,Mnd.cells,UA,U1,IA,I1,LA,L1,BA,B1,EA,E1,E2,eB,eI,eL])) ?_
 refine Q6 ?_
 refine runQ hN fun K hK=>?_
 replace h:=Q7 h
 obtain ⟨a1,h⟩:=h
 simp [-Q0,-Q8,-Q3,-Q9,-Q4,eL,eI,Q1,Qc,Mnd.cells,at_I a1]
 repeat with_reducible refine sdQ ?_
 refine hK _ ?_;clear hK K
 refine tn ?_
 refine Qa (st':=⟨[(4,.val (.int .i64 (ix m_.f.ob x_)))],[],0⟩) (Wk.r1 [] (by simp [hP,hhOk,back,Mnd.cells,UA,U1,IA,I1,LA,L1,BA,B1,EA,E1,E2,eB,eI,eL])) ?_
 refine Qk ?_
 have hr:=Option.some.inj h
 rw [← hr]
 refine ⟨_,(.tmp .nil),?_⟩
 refine ⟨(.one rfl rfl .nil),[.val (.int .i64 (ix m_.f.ob x_))],[],by simp [Mnd.cells,UA,U1,IA,I1,LA,L1,BA,B1,EA,E1,E2,eB,eI,eL],by simp,(UpL.refl _)⟩
end Go.Vc.T
namespace Go.Vc.T
open Go Go.Vc Go.Proofs
noncomputable def Q16 (m_:Mnd):Option Bool :=
 (QH (σ:=Int) (ε:=Unit ⊕ Bool) (fun s25 =>
  if s25<m_.f.s.n then
   (Q12 m_ s25).bind fun v27 =>
   (
    ass (0≤s25∧s25<(m_.u.length:Int)) <|
    (QX m_ (ix m_.u s25)).bind fun v30 =>
    ass (0≤s25∧s25<(m_.j.length:Int)) <|
    (Qo m_.f.s v30 (ix m_.j s25)).bind fun v32 =>
    ass (0≤v27∧v27<(m_.f.s.id.length:Int)) <|
    if ¬ (v32=(ix m_.f.s.id v27)) then
     some true
    else
     ass (0≤v27∧v27<(m_.u.length:Int)) <|
     ass (0≤s25∧s25<(m_.j.length:Int)) <|
     (Qo m_.f.s (ix m_.u v27) (ix m_.j s25)).bind fun v37 =>
     ass (0≤v27∧v27<(m_.f.s.id.length:Int)) <|
     some (v37 != (ix m_.f.s.id v27)):Option (Bool)).bind fun b28 =>
   if b28=true then
    some (Ctl.ret (Sum.inr false))
   else
    ass (0≤s25∧s25<(m_.j.length:Int)) <|
    (QX m_ (ix m_.j s25)).bind fun v41 =>
    ass (0≤s25∧s25<(m_.j.length:Int)) <|
    (Qo m_.f.s v41 (ix m_.j s25)).bind fun v43 =>
    ass (0≤v27∧v27<(m_.j.length:Int)) <|
    ass (0≤s25∧s25<(m_.j.length:Int)) <|
    (Qo m_.f.s (ix m_.j v27) (ix m_.j s25)).bind fun v46 =>
    if ¬ (v43=v46) then
     some (Ctl.ret (Sum.inr false))
    else
     ass (B64 (s25+1)) <|
     some (Ctl.next (s25+1))
  else
   some (Ctl.ret (Sum.inl ()))) fuel 0).bind fun e1 =>
 match e1 with
 | .inl b1 =>
  some true
 | .inr p1 =>
  some p1
theorem Q4i (m_:Mnd) (r:Bool) (h:Q16 m_=some r):Contract Tryz.prog 117 [.rptr (m_.cells true)] (.val (.bool r)):=by
 refine Qi (rvs:=[.tmp 2]) (rs:=[.val (.bool r)]) Tryz.func117 rfl rfl rfl rfl (by simp [Tryz.f117]) fun F hN hP=>?_
 unfold Q16 at h
 refine Q6 ?_
 refine runQ hN fun K hK=>?_
 simp [-Q0,-Q8,-Q3,-Q9,-Q4,eL,eI,Q1,Q5,Qc,Cat.cells,Mnd.cells]
 repeat with_reducible refine sdQ ?_
 refine hK _ ?_;clear hK K
 refine tn ?_
 refine Qa (st':=⟨[(0,.rptr (Mnd.cells true m_))],[],0⟩) (Wk.r1 [] (by simp [hP,hhOk,back,Cat.cells,Mnd.cells,UA,U1,IA,I1,LA,L1,BA,B1,EA,E1,E2,eB,eI,eL])) ?_
 refine Q6 ?_
 refine runQ hN fun K hK=>?_
 simp [-Q0,-Q8,-Q3,-Q9,-Q4,eL,eI,Q1,Q5,Qc,Cat.cells,Mnd.cells]
 repeat with_reducible refine sdQ ?_
 refine hK _ ?_;clear hK K
 refine tn ?_
 refine Qa (st':=⟨[(0,.rptr (Mnd.cells true m_)),(3,.rptr (Mnd.cells true m_))],[],0⟩) (Wk.r1 [] (by simp [hP,hhOk,back,Cat.cells,Mnd.cells,UA,U1,IA,I1,LA,L1,BA,B1,EA,E1,E2,eB,eI,eL])) ?_
 refine Q6 ?_
 refine Q6 ?_
 refine runQ hN fun K hK=>?_
 simp [-Q0,-Q8,-Q3,-Q9,-Q4,eL,eI,Q1,Q5,Qc,Cat.cells,Mnd.cells]
 repeat with_reducible refine sdQ ?_
 refine hK _ ?_;clear hK K
 refine tn ?_
 refine Qa (st':=⟨[(0,.rptr (Mnd.cells true m_)),(3,.rptr (Mnd.cells true m_)),(4,.val (.int .i64 0))],[],0⟩) (Wk.r1 [] (by simp [hP,hhOk,back,Cat.cells,Mnd.cells,UA,U1,IA,I1,LA,L1,BA,B1,EA,E1,E2,eB,eI,eL])) ?_
 replace h:=bind_some h
 obtain ⟨e1,h,h1⟩:=h
 refine Qm (fun b1:Unit=>⟨[],[],0⟩) (fun b1=>Sum.inl b1=e1) ?_ ?_
 ·refine Qf ?_
  refine Qy h (fun s25:Int=>⟨[(0,.rptr (Mnd.cells true m_)),(3,.rptr (Mnd.cells true m_)),(4,.val (.int .i64 s25))],[],0⟩) (Wk.r1 [] (by simp [hP,hhOk,back,Cat.cells,Mnd.cells,UA,U1,IA,I1,LA,L1,BA,B1,EA,E1,E2,eB,eI,eL])) ?_
  clear h
  intro k25 s25 c25 h hk25
  refine Q6 ?_
  refine Q6 ?_
  refine runQ hN fun K hK=>?_
  simp [-Q0,-Q8,-Q3,-Q9,-Q4,eL,eI,Q1,Q5,Qc,Cat.cells,Mnd.cells]
  repeat with_reducible refine sdQ ?_
  refine hK _ ?_;clear hK K
  refine tn ?_
  refine Qa (st':=⟨[(0,.rptr (Mnd.cells true m_)),(3,.rptr (Mnd.cells true m_)),(4,.val (.int .i64 s25)),(15,.val (.bool (decide (s25<m_.f.s.n))))],[],0⟩) (Wk.r1 [] (by simp [hP,hhOk,back,Cat.cells,Mnd.cells,UA,U1,IA,I1,LA,L1,BA,B1,EA,E1,E2,eB,eI,eL])) ?_
  refine Qg rfl (fun g=>?_) fun g=>?_
  ·have g26:s25<m_.f.s.n:=gQ
   clear g
   replace h:=if_l g26 h
   refine Qh ?_
   refine tn ?_
   refine Q6 ?_
   refine Qf ?_
   refine Q6 ?_
   refine runQ hN fun K hK=>?_
   simp [-Q0,-Q8,-Q3,-Q9,-Q4,eL,eI,Q1,Q5,Qc,Cat.cells,Mnd.cells]
   repeat with_reducible refine sdQ ?_
   replace h:=bind_some h
   obtain ⟨v27,hv27,h⟩:=h
   refine Q2 (Q3l _ _ v27 hv27) (.cons (.preT (by simp [Cat.cells,Mnd.cells])) (.cons .val .nil)) ?_
   simp [-Q0,-Q8,-Q3,-Q9,-Q4,unk,unA,unE,unT,unC,flat,eL,eI,Q1,Q5,Qc,Cat.cells,Mnd.cells]
   repeat with_reducible refine sdQ ?_
   refine hK _ ?_;clear hK K
   refine tn ?_
   refine Qa (st':=⟨[(0,.rptr (Mnd.cells true m_)),(3,.rptr (Mnd.cells true m_)),(4,.val (.int .i64 s25)),(5,.val (.int .i64 v27))],[],0⟩) (Wk.r1 [] (by simp [hP,hhOk,back,Cat.cells,Mnd.cells,UA,U1,IA,I1,LA,L1,BA,B1,EA,E1,E2,eB,eI,eL])) ?_
   refine Q6 ?_
   refine Q6 ?_
   replace h:=bind_some h
   obtain ⟨e28,h,h28⟩:=h
   refine Qm (fun b28:Bool=>⟨[(0,.rptr (Mnd.cells true m_)),(3,.rptr (Mnd.cells true m_)),(4,.val (.int .i64 s25)),(5,.val (.int .i64 v27)),(72,.val (.bool b28))],[],0⟩) (fun b28=>b28=e28) ?_ ?_
   ·refine runQ hN fun K hK=>?_
    replace h:=Q7 h
    obtain ⟨a29,h⟩:=h
    simp [-Q0,-Q8,-Q3,-Q9,-Q4,eL,eI,Q1,Q5,Qc,Cat.cells,Mnd.cells,at_I a29]
    repeat with_reducible refine sdQ ?_
    replace h:=bind_some h
    obtain ⟨v30,hv30,h⟩:=h
    refine Q2 (Q2E _ _ v30 hv30) (.cons (.preT (by simp [Cat.cells,Mnd.cells])) (.cons .val .nil)) ?_
    replace h:=Q7 h
    obtain ⟨a31,h⟩:=h
    simp [-Q0,-Q8,-Q3,-Q9,-Q4,unk,unA,unE,unT,unC,flat,eL,eI,Q1,Q5,Qc,Cat.cells,Mnd.cells,at_I a29,at_I a31]
    repeat with_reducible refine sdQ ?_
    replace h:=bind_some h
    obtain ⟨v32,hv32,h⟩:=h
    refine Q2 (QB _ _ _ v32 hv32) (.cons (.preT (by simp [Cat.cells,Mnd.cells])) (.cons .val (.cons .val .nil))) ?_
    replace h:=Q7 h
    obtain ⟨a33,h⟩:=h
    simp [-Q0,-Q8,-Q3,-Q9,-Q4,unk,unA,unE,unT,unC,flat,eL,eI,Q1,Q5,Qc,Cat.cells,Mnd.cells,at_I a29,at_I a31,at_I a33]
    repeat with_reducible refine sdQ ?_
    refine Qq (fun g=>?_) (fun g=>?_)
    ·have g34:¬ (¬ (v32=(ix m_.f.s.id v27))):=gQ
     clear g
     replace h:=if_r g34 h
     replace h:=Q7 h
     obtain ⟨a35,h⟩:=h
     replace h:=Q7 h
     obtain ⟨a36,h⟩:=h
     simp [-Q0,-Q8,-Q3,-Q9,-Q4,eL,eI,Q1,Q5,Qc,Cat.cells,Mnd.cells,at_I a29,at_I a31,at_I a33,at_I a35,at_I a36]
     repeat with_reducible refine sdQ ?_
     replace h:=bind_some h
     obtain ⟨v37,hv37,h⟩:=h
     refine Q2 (QB _ _ _ v37 hv37) (.cons (.preT (by simp [Cat.cells,Mnd.cells])) (.cons .val (.cons .val .nil))) ?_
     replace h:=Q7 h
     obtain ⟨a38,h⟩:=h
     simp [-Q0,-Q8,-Q3,-Q9,-Q4,unk,unA,unE,unT,unC,flat,eL,eI,Q1,Q5,Qc,Cat.cells,Mnd.cells,at_I a29,at_I a31,at_I a33,at_I a35,at_I a36,at_I a38]
     repeat with_reducible refine sdQ ?_
     refine hK _ ?_
     exact jn (b:=v37 != (ix m_.f.s.id v27)) (Option.some.inj h) (Wk.r1 [] (by simp [hP,hhOk,back,Cat.cells,Mnd.cells,UA,U1,IA,I1,LA,L1,BA,B1,EA,E1,E2,eB,eI,eL]))
    have g34:¬ (v32=(ix m_.f.s.id v27)):=gQ
    clear g
    replace h:=if_l g34 h
    simp [-Q0,-Q8,-Q3,-Q9,-Q4,eL,eI,Q1,Q5,Qc,Cat.cells,Mnd.cells,at_I a29,at_I a31,at_I a33]
    repeat with_reducible refine sdQ ?_
    refine hK _ ?_
    exact jn (b:=true) (Option.some.inj h) (Wk.r1 [] (by simp [hP,hhOk,back,Cat.cells,Mnd.cells,UA,U1,IA,I1,LA,L1,BA,B1,EA,E1,E2,eB,eI,eL]))
   intro b28 hb28
   have h:=h28
   rw [← hb28] at h
   clear h28
   try dsimp only at h
   refine Qg rfl (fun g=>?_) fun g=>?_
   ·have g39:b28=true:=gQ
    clear g
    replace h:=if_l g39 h
    refine Q6 ?_
    refine runQ hN fun K hK=>?_
    simp [-Q0,-Q8,-Q3,-Q9,-Q4,eL,eI,Q1,Q5,Qc,Cat.cells,Mnd.cells]
    repeat with_reducible refine sdQ ?_
    refine hK _ ?_;clear hK K
    refine tn ?_
    refine Qa (st':=⟨[(2,.val (.bool false))],[],0⟩) (Wk.r1 [] (by simp [hP,hhOk,back,Cat.cells,Mnd.cells,UA,U1,IA,I1,LA,L1,BA,B1,EA,E1,E2,eB,eI,eL])) ?_
    refine Qk ?_
    refine tr ?_
    refine br ?_
    refine tr ?_
    refine lr ?_
    refine br ?_
    refine tr ?_
    cases h
    have q:_=e1:=hk25
    have h:=h1
    rw [← q] at h
    clear q
    try dsimp only at h
    have hr:=Option.some.inj h
    rw [← hr]
    refine ⟨_,(.tmp .nil),?_⟩
    refine ⟨(.one rfl rfl .nil),[.val (.bool false)],[],by simp [Cat.cells,Mnd.cells,UA,U1,IA,I1,LA,L1,BA,B1,EA,E1,E2,eB,eI,eL],by simp,(UpL.refl _)⟩
   have g39:¬ (b28=true):=gQ
   clear g
   replace h:=if_r g39 h
   refine Qh ?_
   refine tn ?_
   refine Q6 ?_
   refine runQ hN fun K hK=>?_
   replace h:=Q7 h
   obtain ⟨a40,h⟩:=h
   simp [-Q0,-Q8,-Q3,-Q9,-Q4,eL,eI,Q1,Q5,Qc,Cat.cells,Mnd.cells,at_I a40]
   repeat with_reducible refine sdQ ?_
   replace h:=bind_some h
   obtain ⟨v41,hv41,h⟩:=h
   refine Q2 (Q2E _ _ v41 hv41) (.cons (.preT (by simp [Cat.cells,Mnd.cells])) (.cons .val .nil)) ?_
   replace h:=Q7 h
   obtain ⟨a42,h⟩:=h
   simp [-Q0,-Q8,-Q3,-Q9,-Q4,unk,unA,unE,unT,unC,flat,eL,eI,Q1,Q5,Qc,Cat.cells,Mnd.cells,at_I a40,at_I a42]
   repeat with_reducible refine sdQ ?_
   replace h:=bind_some h
   obtain ⟨v43,hv43,h⟩:=h
   refine Q2 (QB _ _ _ v43 hv43) (.cons (.preT (by simp [Cat.cells,Mnd.cells])) (.cons .val (.cons .val .nil))) ?_
   replace h:=Q7 h
   obtain ⟨a44,h⟩:=h
   replace h:=Q7 h
   obtain ⟨a45,h⟩:=h
   simp [-Q0,-Q8,-Q3,-Q9,-Q4,unk,unA,unE,unT,unC,flat,eL,eI,Q1,Q5,Qc,Cat.cells,Mnd.cells,at_I a40,at_I a42,at_I a44,at_I a45]
   repeat with_reducible refine sdQ ?_
   replace h:=bind_some h
   obtain ⟨v46,hv46,h⟩:=h
   refine Q2 (QB _ _ _ v46 hv46) (.cons (.preT (by simp [Cat.cells,Mnd.cells])) (.cons .val (.cons .val .nil))) ?_
   simp [-Q0,-Q8,-Q3,-Q9,-Q4,unk,unA,unE,unT,unC,flat,eL,eI,Q1,Q5,Qc,Cat.cells,Mnd.cells,at_I a40,at_I a42,at_I a44,at_I a45]
   repeat with_reducible refine sdQ ?_
   refine hK _ ?_;clear hK K
   refine tn ?_
   refine Qa (st':=⟨[(0,.rptr (Mnd.cells true m_)),(3,.rptr (Mnd.cells true m_)),(4,.val (.int .i64 s25)),(107,.val (.bool (v43 != v46)))],[],0⟩) (Wk.r1 [] (by simp [hP,hhOk,back,Cat.cells,Mnd.cells,UA,U1,IA,I1,LA,L1,BA,B1,EA,E1,E2,eB,eI,eL])) ?_
   refine Qg rfl (fun g=>?_) fun g=>?_
   ·have g47:¬ (v43=v46):=gQ
    clear g
    replace h:=if_l g47 h
    refine Q6 ?_
    refine runQ hN fun K hK=>?_
    simp [-Q0,-Q8,-Q3,-Q9,-Q4,eL,eI,Q1,Q5,Qc,Cat.cells,Mnd.cells]
    repeat with_reducible refine sdQ ?_
    refine hK _ ?_;clear hK K
    refine tn ?_
    refine Qa (st':=⟨[(2,.val (.bool false))],[],0⟩) (Wk.r1 [] (by simp [hP,hhOk,back,Cat.cells,Mnd.cells,UA,U1,IA,I1,LA,L1,BA,B1,EA,E1,E2,eB,eI,eL])) ?_
    refine Qk ?_
    refine br ?_
    refine tr ?_
    refine lr ?_
    refine br ?_
    refine tr ?_
    cases h
    have q:_=e1:=hk25
    have h:=h1
    rw [← q] at h
    clear q
    try dsimp only at h
    have hr:=Option.some.inj h
    rw [← hr]
    refine ⟨_,(.tmp .nil),?_⟩
    refine ⟨(.one rfl rfl .nil),[.val (.bool false)],[],by simp [Cat.cells,Mnd.cells,UA,U1,IA,I1,LA,L1,BA,B1,EA,E1,E2,eB,eI,eL],by simp,(UpL.refl _)⟩
   have g47:¬ (¬ (v43=v46)):=gQ
   clear g
   replace h:=if_r g47 h
   refine Qh ?_
   refine bn ?_
   refine tn ?_
   refine runQ hN fun K hK=>?_
   replace h:=Q7 h
   obtain ⟨a48,h⟩:=h
   simp [-Q0,-Q8,-Q3,-Q9,-Q4,eL,eI,Q1,Q5,Qc,Cat.cells,Mnd.cells,Qw a48]
   repeat with_reducible refine sdQ ?_
   refine hK _ ?_;clear hK K
   cases h
   exact rn (s':=s25+1) hk25 (Wk.r1 [] (by simp [hP,hhOk,back,Cat.cells,Mnd.cells,UA,U1,IA,I1,LA,L1,BA,B1,EA,E1,E2,eB,eI,eL]))
  have g26:¬ (s25<m_.f.s.n):=gQ
  clear g
  replace h:=if_r g26 h
  refine Qp ?_
  refine tx ?_
  refine lx ?_
  refine bh ?_
  cases h
  exact jn (b:=()) hk25 (Wk.r1 [] (by simp [hP,hhOk,back,Cat.cells,Mnd.cells,UA,U1,IA,I1,LA,L1,BA,B1,EA,E1,E2,eB,eI,eL]))
 intro b1 hb1
 have h:=h1
 rw [← hb1] at h
 clear h1
 try dsimp only at h
 refine Q6 ?_
 refine runQ hN fun K hK=>?_
 simp [-Q0,-Q8,-Q3,-Q9,-Q4,eL,eI,Q1,Q5,Qc,Cat.cells,Mnd.cells]
 repeat with_reducible refine sdQ ?_
 refine hK _ ?_;clear hK K
 refine tn ?_
 refine Qa (st':=⟨[(2,.val (.bool true))],[],0⟩) (Wk.r1 [] (by simp [hP,hhOk,back,Cat.cells,Mnd.cells,UA,U1,IA,I1,LA,L1,BA,B1,EA,E1,E2,eB,eI,eL])) ?_
 refine Qk ?_
 have hr:=Option.some.inj h
 rw [← hr]
 refine ⟨_,(.tmp .nil),?_⟩
 refine ⟨(.one rfl rfl .nil),[.val (.bool true)],[],by simp [Cat.cells,Mnd.cells,UA,U1,IA,I1,LA,L1,BA,B1,EA,E1,E2,eB,eI,eL],by simp,(UpL.refl _)⟩
end Go.Vc.T
namespace Go.Vc.T
open Go Go.Vc Go.Proofs
noncomputable def Q1e (m_:Mnd):Option Bool :=
 (
  (QJ m_.f).bind fun v2 =>
  if ¬ (v2=true) then
   some true
  else
   (QS m_.f.s m_.f.t).bind fun v4 =>
   some (!v4):Option (Bool)).bind fun b1 =>
 if b1=true then
  some false
 else
  (Q2f m_.f.s).bind fun v6 =>
  (Q1m m_.f m_.f).bind fun v7 =>
  (
   (Q1H [(⟨v6,m_.f,m_.u⟩:Tra),(⟨v7,m_.f,m_.j⟩:Tra)]).bind fun v9 =>
   if v9=true then
    (Q16 m_).bind fun v11 =>
    some v11
   else
    some false:Option (Bool)).bind fun b8 =>
  some b8
theorem Q4t (m_:Mnd) (r:Bool) (h:Q1e m_=some r):Contract Tryz.prog 83 [.rptr (m_.cells true)] (.val (.bool r)):=by
 refine Qi (rvs:=[.tmp 2]) (rs:=[.val (.bool r)]) Tryz.func83 rfl rfl rfl rfl (by simp [Tryz.f83]) fun F hN hP=>?_
 unfold Q1e at h
 refine Q6 ?_
 refine runQ hN fun K hK=>?_
 simp [-Q0,-Q8,-Q3,-Q9,-Q4,eL,eI,Q1,Q5,Qd,Qc,Qu,Cat.cells,Fn.cells,Mnd.cells,Tra.cells]
 repeat with_reducible refine sdQ ?_
 refine hK _ ?_;clear hK K
 refine tn ?_
 refine Qa (st':=⟨[(0,.rptr (Mnd.cells true m_))],[],0⟩) (Wk.r1 [] (by simp [hP,hhOk,back,Cat.cells,Fn.cells,Mnd.cells,Tra.cells,UA,U1,IA,I1,LA,L1,BA,B1,EA,E1,E2,eB,eI,eL])) ?_
 refine Q6 ?_
 refine Q6 ?_
 replace h:=bind_some h
 obtain ⟨e1,h,h1⟩:=h
 refine Qm (fun b1:Bool=>⟨[(0,.rptr (Mnd.cells true m_)),(23,.val (.bool b1))],[],0⟩) (fun b1=>b1=e1) ?_ ?_
 ·refine runQ hN fun K hK=>?_
  simp [-Q0,-Q8,-Q3,-Q9,-Q4,eL,eI,Q1,Q5,Qd,Qc,Qu,Cat.cells,Fn.cells,Mnd.cells,Tra.cells]
  repeat with_reducible refine sdQ ?_
  replace h:=bind_some h
  obtain ⟨v2,hv2,h⟩:=h
  refine Q2 (Q2g _ v2 hv2) (.cons (.preT (by simp [Fn.cells,Mnd.cells])) .nil) ?_
  simp [-Q0,-Q8,-Q3,-Q9,-Q4,unk,unA,unE,unT,unC,flat,eL,eI,Q1,Q5,Qd,Qc,Qu,Cat.cells,Fn.cells,Mnd.cells,Tra.cells]
  repeat with_reducible refine sdQ ?_
  refine Qq (fun g=>?_) (fun g=>?_)
  ·have g3:¬ (¬ (v2=true)):=gQ
   clear g
   replace h:=if_r g3 h
   simp [-Q0,-Q8,-Q3,-Q9,-Q4,eL,eI,Q1,Q5,Qd,Qc,Qu,Cat.cells,Fn.cells,Mnd.cells,Tra.cells]
   repeat with_reducible refine sdQ ?_
   replace h:=bind_some h
   obtain ⟨v4,hv4,h⟩:=h
   refine Q2 (Q2l _ _ v4 hv4) (.cons (.preT (by simp [Cat.cells,Fn.cells,Mnd.cells])) (.cons (.preT (by simp [Cat.cells,Fn.cells,Mnd.cells])) .nil)) ?_
   simp [-Q0,-Q8,-Q3,-Q9,-Q4,unk,unA,unE,unT,unC,flat,eL,eI,Q1,Q5,Qd,Qc,Qu,Cat.cells,Fn.cells,Mnd.cells,Tra.cells]
   repeat with_reducible refine sdQ ?_
   refine hK _ ?_
   exact jn (b:=!v4) (Option.some.inj h) (Wk.r1 [] (by simp [hP,hhOk,back,Cat.cells,Fn.cells,Mnd.cells,Tra.cells,UA,U1,IA,I1,LA,L1,BA,B1,EA,E1,E2,eB,eI,eL]))
  have g3:¬ (v2=true):=gQ
  clear g
  replace h:=if_l g3 h
  simp [-Q0,-Q8,-Q3,-Q9,-Q4,eL,eI,Q1,Q5,Qd,Qc,Qu,Cat.cells,Fn.cells,Mnd.cells,Tra.cells]
  repeat with_reducible refine sdQ ?_
  refine hK _ ?_
  exact jn (b:=true) (Option.some.inj h) (Wk.r1 [] (by simp [hP,hhOk,back,Cat.cells,Fn.cells,Mnd.cells,Tra.cells,UA,U1,IA,I1,LA,L1,BA,B1,EA,E1,E2,eB,eI,eL]))
 intro b1 hb1
 have h:=h1
 rw [← hb1] at h
 clear h1
 try dsimp only at h
 refine Qg rfl (fun g=>?_) fun g=>?_
 ·have g5:b1=true:=gQ
  clear g
  replace h:=if_l g5 h
  refine Q6 ?_
  refine runQ hN fun K hK=>?_
  simp [-Q0,-Q8,-Q3,-Q9,-Q4,eL,eI,Q1,Q5,Qd,Qc,Qu,Cat.cells,Fn.cells,Mnd.cells,Tra.cells]
  repeat with_reducible refine sdQ ?_
  refine hK _ ?_;clear hK K
  refine tn ?_
  refine Qa (st':=⟨[(2,.val (.bool false))],[],0⟩) (Wk.r1 [] (by simp [hP,hhOk,back,Cat.cells,Fn.cells,Mnd.cells,Tra.cells,UA,U1,IA,I1,LA,L1,BA,B1,EA,E1,E2,eB,eI,eL])) ?_
  refine Qk ?_
  refine tr ?_
  have hr:=Option.some.inj h
  rw [← hr]
  refine ⟨_,(.tmp .nil),?_⟩
  refine ⟨(.one rfl rfl .nil),[.val (.bool false)],[],by simp [Cat.cells,Fn.cells,Mnd.cells,Tra.cells,UA,U1,IA,I1,LA,L1,BA,B1,EA,E1,E2,eB,eI,eL],by simp,(UpL.refl _)⟩
 have g5:¬ (b1=true):=gQ
 clear g
 replace h:=if_r g5 h
 refine Qh ?_
 refine tn ?_
 refine Q6 ?_
 refine runQ hN fun K hK=>?_
 simp [-Q0,-Q8,-Q3,-Q9,-Q4,eL,eI,Q1,Q5,Qd,Qc,Qu,Cat.cells,Fn.cells,Mnd.cells,Tra.cells]
 repeat with_reducible refine sdQ ?_
 replace h:=bind_some h
 obtain ⟨v6,hv6,h⟩:=h
 refine Q2 (Q7d _ v6 hv6) (.cons (.preT (by simp [Cat.cells,Fn.cells,Mnd.cells])) .nil) ?_
 simp [-Q0,-Q8,-Q3,-Q9,-Q4,unk,unA,unE,unT,unC,flat,eL,eI,Q1,Q5,Qd,Qc,Qu,Cat.cells,Fn.cells,Mnd.cells,Tra.cells]
 repeat with_reducible refine sdQ ?_
 replace h:=bind_some h
 obtain ⟨v7,hv7,h⟩:=h
 refine Q2 (Q4V _ _ v7 hv7) (.cons (.preT (by simp [Cat.cells,Fn.cells,Mnd.cells])) (.cons (.preT (by simp [Cat.cells,Fn.cells,Mnd.cells])) .nil)) ?_
 simp [-Q0,-Q8,-Q3,-Q9,-Q4,unk,unA,unE,unT,unC,flat,eL,eI,Q1,Q5,Qd,Qc,Qu,Cat.cells,Fn.cells,Mnd.cells,Tra.cells]
 repeat with_reducible refine sdQ ?_
 refine hK _ ?_;clear hK K
 refine tn ?_
 refine Qa (st':=⟨[(0,.rptr (Mnd.cells true m_)),(3,.adr 0 0 0),(4,.adr 11 0 0)],[(0,.mix 12 [[.val (.int .i64 v6.s.n),.own 1 0 v6.s.fr.length,.own 2 0 v6.s.to.length,.own 3 0 v6.s.id.length,.own 4 0 v6.s.cs.length,.val (.int .i64 v6.t.n),.own 5 0 v6.t.fr.length,.own 6 0 v6.t.to.length,.own 7 0 v6.t.id.length,.own 8 0 v6.t.cs.length,.own 9 0 v6.ob.length,.own 10 0 v6.ar.length]]),(1,.row 1 (Is v6.s.fr)),(2,.row 1 (Is v6.s.to)),(3,.row 1 (Is v6.s.id)),(4,.row 1 (Ls v6.s.cs)),(5,.row 1 (Is v6.t.fr)),(6,.row 1 (Is v6.t.to)),(7,.row 1 (Is v6.t.id)),(8,.row 1 (Ls v6.t.cs)),(9,.row 1 (Is v6.ob)),(10,.row 1 (Is v6.ar)),(11,.mix 12 [[.val (.int .i64 v7.s.n),.own 12 0 v7.s.fr.length,.own 13 0 v7.s.to.length,.own 14 0 v7.s.id.length,.own 15 0 v7.s.cs.length,.val (.int .i64 v7.t.n),.own 16 0 v7.t.fr.length,.own 17 0 v7.t.to.length,.own 18 0 v7.t.id.length,.own 19 0 v7.t.cs.length,.own 20 0 v7.ob.length,.own 21 0 v7.ar.length]]),(12,.row 1 (Is v7.s.fr)),(13,.row 1 (Is v7.s.to)),(14,.row 1 (Is v7.s.id)),(15,.row 1 (Ls v7.s.cs)),(16,.row 1 (Is v7.t.fr)),(17,.row 1 (Is v7.t.to)),(18,.row 1 (Is v7.t.id)),(19,.row 1 (Ls v7.t.cs)),(20,.row 1 (Is v7.ob)),(21,.row 1 (Is v7.ar))],22⟩) (Wk.r1 [(24,0),(1,1),(2,2),(3,3),(4,4),(6,5),(7,6),(8,7),(9,8),(10,9),(11,10),(25,11),(13,12),(14,13),(15,14),(16,15),(18,16),(19,17),(20,18),(21,19),(22,20),(23,21)] (by simp [hP,hhOk,back,Cat.cells,Fn.cells,Mnd.cells,Tra.cells,UA,U1,IA,I1,LA,L1,BA,B1,EA,E1,E2,eB,eI,eL])) ?_
 refine Q6 ?_
 refine runQ hN fun K hK=>?_
 simp [-Q0,-Q8,-Q3,-Q9,-Q4,eL,eI,Q1,Q5,Qd,Qc,Qu,Cat.cells,Fn.cells,Mnd.cells,Tra.cells]
 repeat with_reducible refine sdQ ?_
 refine hK _ ?_;clear hK K
 refine tn ?_
 refine Qa (st':=⟨[(0,.rptr (Mnd.cells true m_)),(4,.adr 0 0 0),(5,.adr 11 0 0)],[(0,.mix 12 [[.val (.int .i64 v7.s.n),.own 1 0 v7.s.fr.length,.own 2 0 v7.s.to.length,.own 3 0 v7.s.id.length,.own 4 0 v7.s.cs.length,.val (.int .i64 v7.t.n),.own 5 0 v7.t.fr.length,.own 6 0 v7.t.to.length,.own 7 0 v7.t.id.length,.own 8 0 v7.t.cs.length,.own 9 0 v7.ob.length,.own 10 0 v7.ar.length]]),(1,.row 1 (Is v7.s.fr)),(2,.row 1 (Is v7.s.to)),(3,.row 1 (Is v7.s.id)),(4,.row 1 (Ls v7.s.cs)),(5,.row 1 (Is v7.t.fr)),(6,.row 1 (Is v7.t.to)),(7,.row 1 (Is v7.t.id)),(8,.row 1 (Ls v7.t.cs)),(9,.row 1 (Is v7.ob)),(10,.row 1 (Is v7.ar)),(11,.mix 25 [[.val (.int .i64 v6.s.n),.own 12 0 v6.s.fr.length,.own 13 0 v6.s.to.length,.own 14 0 v6.s.id.length,.own 15 0 v6.s.cs.length,.val (.int .i64 v6.t.n),.own 16 0 v6.t.fr.length,.own 17 0 v6.t.to.length,.own 18 0 v6.t.id.length,.own 19 0 v6.t.cs.length,.own 20 0 v6.ob.length,.own 21 0 v6.ar.length,.val (.int .i64 m_.f.s.n),.lst true 1 (Is m_.f.s.fr),.lst true 1 (Is m_.f.s.to),.lst true 1 (Is m_.f.s.id),.lst true 1 (Ls m_.f.s.cs),.val (.int .i64 m_.f.t.n),.lst true 1 (Is m_.f.t.fr),.lst true 1 (Is m_.f.t.to),.lst true 1 (Is m_.f.t.id),.lst true 1 (Ls m_.f.t.cs),.lst true 1 (Is m_.f.ob),.lst true 1 (Is m_.f.ar),.lst true 1 (Is m_.u)]]),(12,.row 1 (Is v6.s.fr)),(13,.row 1 (Is v6.s.to)),(14,.row 1 (Is v6.s.id)),(15,.row 1 (Ls v6.s.cs)),(16,.row 1 (Is v6.t.fr)),(17,.row 1 (Is v6.t.to)),(18,.row 1 (Is v6.t.id)),(19,.row 1 (Ls v6.t.cs)),(20,.row 1 (Is v6.ob)),(21,.row 1 (Is v6.ar))],22⟩) (Wk.r1 [(11,0),(12,1),(13,2),(14,3),(15,4),(16,5),(17,6),(18,7),(19,8),(20,9),(21,10),(22,11),(1,12),(2,13),(3,14),(4,15),(5,16),(6,17),(7,18),(8,19),(9,20),(10,21)] (by simp [hP,hhOk,back,Cat.cells,Fn.cells,Mnd.cells,Tra.cells,UA,U1,IA,I1,LA,L1,BA,B1,EA,E1,E2,eB,eI,eL])) ?_
 refine Q6 ?_
 refine runQ hN fun K hK=>?_
 simp [-Q0,-Q8,-Q3,-Q9,-Q4,eL,eI,Q1,Q5,Qd,Qc,Qu,Cat.cells,Fn.cells,Mnd.cells,Tra.cells]
 repeat with_reducible refine sdQ ?_
 refine hK _ ?_;clear hK K
 refine tn ?_
 refine Qa (st':=⟨[(0,.rptr (Mnd.cells true m_)),(5,.adr 0 0 0),(6,.adr 11 0 0)],[(0,.mix 25 [[.val (.int .i64 v6.s.n),.own 1 0 v6.s.fr.length,.own 2 0 v6.s.to.length,.own 3 0 v6.s.id.length,.own 4 0 v6.s.cs.length,.val (.int .i64 v6.t.n),.own 5 0 v6.t.fr.length,.own 6 0 v6.t.to.length,.own 7 0 v6.t.id.length,.own 8 0 v6.t.cs.length,.own 9 0 v6.ob.length,.own 10 0 v6.ar.length,.val (.int .i64 m_.f.s.n),.lst true 1 (Is m_.f.s.fr),.lst true 1 (Is m_.f.s.to),.lst true 1 (Is m_.f.s.id),.lst true 1 (Ls m_.f.s.cs),.val (.int .i64 m_.f.t.n),.lst true 1 (Is m_.f.t.fr),.lst true 1 (Is m_.f.t.to),.lst true 1 (Is m_.f.t.id),.lst true 1 (Ls m_.f.t.cs),.lst true 1 (Is m_.f.ob),.lst true 1 (Is m_.f.ar),.lst true 1 (Is m_.u)]]),(1,.row 1 (Is v6.s.fr)),(2,.row 1 (Is v6.s.to)),(3,.row 1 (Is v6.s.id)),(4,.row 1 (Ls v6.s.cs)),(5,.row 1 (Is v6.t.fr)),(6,.row 1 (Is v6.t.to)),(7,.row 1 (Is v6.t.id)),(8,.row 1 (Ls v6.t.cs)),(9,.row 1 (Is v6.ob)),(10,.row 1 (Is v6.ar)),(11,.mix 25 [[.val (.int .i64 v7.s.n),.own 12 0 v7.s.fr.length,.own 13 0 v7.s.to.length,.own 14 0 v7.s.id.length,.own 15 0 v7.s.cs.length,.val (.int .i64 v7.t.n),.own 16 0 v7.t.fr.length,.own 17 0 v7.t.to.length,.own 18 0 v7.t.id.length,.own 19 0 v7.t.cs.length,.own 20 0 v7.ob.length,.own 21 0 v7.ar.length,.val (.int .i64 m_.f.s.n),.lst true 1 (Is m_.f.s.fr),.lst true 1 (Is m_.f.s.to),.lst true 1 (Is m_.f.s.id),.lst true 1 (Ls m_.f.s.cs),.val (.int .i64 m_.f.t.n),.lst true 1 (Is m_.f.t.fr),.lst true 1 (Is m_.f.t.to),.lst true 1 (Is m_.f.t.id),.lst true 1 (Ls m_.f.t.cs),.lst true 1 (Is m_.f.ob),.lst true 1 (Is m_.f.ar),.lst true 1 (Is m_.j)]]),(12,.row 1 (Is v7.s.fr)),(13,.row 1 (Is v7.s.to)),(14,.row 1 (Is v7.s.id)),(15,.row 1 (Ls v7.s.cs)),(16,.row 1 (Is v7.t.fr)),(17,.row 1 (Is v7.t.to)),(18,.row 1 (Is v7.t.id)),(19,.row 1 (Ls v7.t.cs)),(20,.row 1 (Is v7.ob)),(21,.row 1 (Is v7.ar))],22⟩) (Wk.r1 [(11,0),(12,1),(13,2),(14,3),(15,4),(16,5),(17,6),(18,7),(19,8),(20,9),(21,10),(22,11),(1,12),(2,13),(3,14),(4,15),(5,16),(6,17),(7,18),(8,19),(9,20),(10,21)] (by simp [hP,hhOk,back,Cat.cells,Fn.cells,Mnd.cells,Tra.cells,UA,U1,IA,I1,LA,L1,BA,B1,EA,E1,E2,eB,eI,eL])) ?_
 refine Q6 ?_
 replace h:=bind_some h
 obtain ⟨e8,h,h8⟩:=h
 refine Qm (fun b8:Bool=>⟨[(2,.val (.bool b8))],[],0⟩) (fun b8=>b8=e8) ?_ ?_
 ·refine runQ hN fun K hK=>?_
  simp [-Q0,-Q8,-Q3,-Q9,-Q4,eL,eI,Q1,Q5,Qd,Qc,Qu,Cat.cells,Fn.cells,Mnd.cells,Tra.cells]
  repeat with_reducible refine sdQ ?_
  replace h:=bind_some h
  obtain ⟨v9,hv9,h⟩:=h
  refine Q2 (Q5D _ v9 hv9) (.cons (.lits (es:=_) rfl (.cons rfl (.cons (.field rfl (by simp [Cat.cells,Fn.cells,Mnd.cells,Tra.cells]) (.cons .val (.cons (.whole (by simp) (by simp) (by simp)) (.cons (.whole (by simp) (by simp) (by simp)) (.cons (.whole (by simp) (by simp) (by simp)) (.cons (.whole (by simp) (by simp) (by simp)) (.cons .val (.cons (.whole (by simp) (by simp) (by simp)) (.cons (.whole (by simp) (by simp) (by simp)) (.cons (.whole (by simp) (by simp) (by simp)) (.cons (.whole (by simp) (by simp) (by simp)) (.cons (.whole (by simp) (by simp) (by simp)) (.cons (.whole (by simp) (by simp) (by simp)) (.cons .val (.cons .lst (.cons .lst (.cons .lst (.cons .lst (.cons .val (.cons .lst (.cons .lst (.cons .lst (.cons .lst (.cons .lst (.cons .lst (.cons .lst .nil)))))))))))))))))))))))))) .nil) (.cons rfl (.cons (.field rfl (by simp [Cat.cells,Fn.cells,Mnd.cells,Tra.cells]) (.cons .val (.cons (.whole (by simp) (by simp) (by simp)) (.cons (.whole (by simp) (by simp) (by simp)) (.cons (.whole (by simp) (by simp) (by simp)) (.cons (.whole (by simp) (by simp) (by simp)) (.cons .val (.cons (.whole (by simp) (by simp) (by simp)) (.cons (.whole (by simp) (by simp) (by simp)) (.cons (.whole (by simp) (by simp) (by simp)) (.cons (.whole (by simp) (by simp) (by simp)) (.cons (.whole (by simp) (by simp) (by simp)) (.cons (.whole (by simp) (by simp) (by simp)) (.cons .val (.cons .lst (.cons .lst (.cons .lst (.cons .lst (.cons .val (.cons .lst (.cons .lst (.cons .lst (.cons .lst (.cons .lst (.cons .lst (.cons .lst .nil)))))))))))))))))))))))))) .nil) .nil)) rfl) .nil) ?_
  simp [-Q0,-Q8,-Q3,-Q9,-Q4,unk,unA,unE,unT,unC,flat,eL,eI,Q1,Q5,Qd,Qc,Qu,Cat.cells,Fn.cells,Mnd.cells,Tra.cells]
  repeat with_reducible refine sdQ ?_
  refine Qq (fun g=>?_) (fun g=>?_)
  ·have g10:v9=true:=gQ
   clear g
   replace h:=if_l g10 h
   simp [-Q0,-Q8,-Q3,-Q9,-Q4,eL,eI,Q1,Q5,Qd,Qc,Qu,Cat.cells,Fn.cells,Mnd.cells,Tra.cells]
   repeat with_reducible refine sdQ ?_
   replace h:=bind_some h
   obtain ⟨v11,hv11,h⟩:=h
   refine Q2 (Q4i _ v11 hv11) (.cons (.preT (by simp [Cat.cells,Fn.cells,Mnd.cells,Tra.cells])) .nil) ?_
   simp [-Q0,-Q8,-Q3,-Q9,-Q4,unk,unA,unE,unT,unC,flat,eL,eI,Q1,Q5,Qd,Qc,Qu,Cat.cells,Fn.cells,Mnd.cells,Tra.cells]
   repeat with_reducible refine sdQ ?_
   refine hK _ ?_
   exact jn (b:=v11) (Option.some.inj h) (Wk.r1 [] (by simp [hP,hhOk,back,Cat.cells,Fn.cells,Mnd.cells,Tra.cells,UA,U1,IA,I1,LA,L1,BA,B1,EA,E1,E2,eB,eI,eL]))
  have g10:¬ (v9=true):=gQ
  clear g
  replace h:=if_r g10 h
  simp [-Q0,-Q8,-Q3,-Q9,-Q4,eL,eI,Q1,Q5,Qd,Qc,Qu,Cat.cells,Fn.cells,Mnd.cells,Tra.cells]
  repeat with_reducible refine sdQ ?_
  refine hK _ ?_
  exact jn (b:=false) (Option.some.inj h) (Wk.r1 [] (by simp [hP,hhOk,back,Cat.cells,Fn.cells,Mnd.cells,Tra.cells,UA,U1,IA,I1,LA,L1,BA,B1,EA,E1,E2,eB,eI,eL]))
 intro b8 hb8
 have h:=h8
 rw [← hb8] at h
 clear h8
 try dsimp only at h
 refine Qk ?_
 have hr:=Option.some.inj h
 rw [← hr]
 refine ⟨_,(.tmp .nil),?_⟩
 refine ⟨(.one rfl rfl .nil),[.val (.bool b8)],[],by simp [Cat.cells,Fn.cells,Mnd.cells,Tra.cells,UA,U1,IA,I1,LA,L1,BA,B1,EA,E1,E2,eB,eI,eL],by simp,(UpL.refl _)⟩
end Go.Vc.T
namespace Go.Vc.T
open Go Go.Vc Go.Proofs
noncomputable def Q2C (t_:Fn) (unit_:List Int) (join_:List Int):Option Bool :=
 (QH (σ:=Int) (ε:=Unit ⊕ Bool) (fun s25 =>
  if s25<t_.s.n then
   ass (0≤s25∧s25<(t_.ob.length:Int)) <|
   (
    ass (0≤s25∧s25<(unit_.length:Int)) <|
    ass (0≤ix unit_ s25∧ix unit_ s25<(t_.ar.length:Int)) <|
    ass (0≤s25∧s25<(join_.length:Int)) <|
    (QG t_.s (ix t_.ar (ix unit_ s25)) (ix join_ s25)).bind fun v32 =>
    (Q1Q t_.s v32).bind fun v33 =>
    if ¬ (v33=true) then
     some true
    else
     ass (0≤ix t_.ob s25∧ix t_.ob s25<(unit_.length:Int)) <|
     ass (0≤s25∧s25<(join_.length:Int)) <|
     (QG t_.s (ix unit_ (ix t_.ob s25)) (ix join_ s25)).bind fun v37 =>
     (Q1Q t_.s v37).bind fun v38 =>
     some (!v38):Option (Bool)).bind fun b28 =>
   if b28=true then
    some (Ctl.ret (Sum.inr false))
   else
    ass (0≤s25∧s25<(join_.length:Int)) <|
    ass (0≤ix join_ s25∧ix join_ s25<(t_.ar.length:Int)) <|
    ass (0≤s25∧s25<(join_.length:Int)) <|
    (QG t_.s (ix t_.ar (ix join_ s25)) (ix join_ s25)).bind fun v43 =>
    ass (0≤ix t_.ob s25∧ix t_.ob s25<(join_.length:Int)) <|
    ass (0≤s25∧s25<(join_.length:Int)) <|
    (QG t_.s (ix join_ (ix t_.ob s25)) (ix join_ s25)).bind fun v46 =>
    if ¬ (v43=v46) then
     some (Ctl.ret (Sum.inr false))
    else
     ass (B64 (s25+1)) <|
     some (Ctl.next (s25+1))
  else
   some (Ctl.ret (Sum.inl ()))) fuel 0).bind fun e1 =>
 match e1 with
 | .inl b1 =>
  some true
 | .inr p1 =>
  some p1
theorem Q7Y (t_:Fn) (unit_:List Int) (join_:List Int) (r:Bool) (h:Q2C t_ unit_ join_=some r):Contract Tryz.prog 108 [.agg (t_.cells true),.lst true 1 (Is unit_),.lst true 1 (Is join_)] (.val (.bool r)):=by
 refine Qi (rvs:=[.tmp 6]) (rs:=[.val (.bool r)]) Tryz.func108 rfl rfl rfl rfl (by simp [Tryz.f108]) fun F hN hP=>?_
 unfold Q2C at h
 refine Q6 ?_
 refine runQ hN fun K hK=>?_
 simp [-Q0,-Q8,-Q3,-Q9,-Q4,eL,eI,Q1,Q5,Qd,Cat.cells,Fn.cells]
 repeat with_reducible refine sdQ ?_
 refine hK _ ?_;clear hK K
 refine tn ?_
 refine Qa (st':=⟨[(1,.lst true 1 (Is unit_)),(2,.lst true 1 (Is join_)),(3,.adr 0 0 0)],[(0,.mix 12 [(Fn.cells true t_)])],1⟩) (Wk.r1 [(0,0)] (by simp [hP,hhOk,back,Cat.cells,Fn.cells,UA,U1,IA,I1,LA,L1,BA,B1,EA,E1,E2,eB,eI,eL])) ?_
 refine Q6 ?_
 refine runQ hN fun K hK=>?_
 simp [-Q0,-Q8,-Q3,-Q9,-Q4,eL,eI,Q1,Q5,Qd,Cat.cells,Fn.cells]
 repeat with_reducible refine sdQ ?_
 refine hK _ ?_;clear hK K
 refine tn ?_
 refine Qa (st':=⟨[(1,.lst true 1 (Is unit_)),(2,.lst true 1 (Is join_)),(3,.adr 0 0 0),(7,.adr 1 0 0)],[(0,.mix 12 [(Fn.cells true t_)]),(1,.mix 5 [(Cat.cells true t_.s)])],2⟩) (Wk.r1 [(0,0),(1,1)] (by simp [hP,hhOk,back,Cat.cells,Fn.cells,UA,U1,IA,I1,LA,L1,BA,B1,EA,E1,E2,eB,eI,eL])) ?_
 refine Q6 ?_
 refine Q6 ?_
 refine runQ hN fun K hK=>?_
 simp [-Q0,-Q8,-Q3,-Q9,-Q4,eL,eI,Q1,Q5,Qd,Cat.cells,Fn.cells]
 repeat with_reducible refine sdQ ?_
 refine hK _ ?_;clear hK K
 refine tn ?_
 refine Qa (st':=⟨[(1,.lst true 1 (Is unit_)),(2,.lst true 1 (Is join_)),(3,.adr 0 0 0),(7,.adr 1 0 0),(8,.val (.int .i64 0))],[(0,.mix 12 [(Fn.cells true t_)]),(1,.mix 5 [(Cat.cells true t_.s)])],2⟩) (Wk.r1 [(0,0),(1,1)] (by simp [hP,hhOk,back,Cat.cells,Fn.cells,UA,U1,IA,I1,LA,L1,BA,B1,EA,E1,E2,eB,eI,eL])) ?_
 replace h:=bind_some h
 obtain ⟨e1,h,h1⟩:=h
 refine Qm (fun b1:Unit=>⟨[],[],0⟩) (fun b1=>Sum.inl b1=e1) ?_ ?_
 ·refine Qf ?_
  refine Qy h (fun s25:Int=>⟨[(1,.lst true 1 (Is unit_)),(2,.lst true 1 (Is join_)),(3,.adr 0 0 0),(7,.adr 1 0 0),(8,.val (.int .i64 s25))],[(0,.mix 12 [(Fn.cells true t_)]),(1,.mix 5 [(Cat.cells true t_.s)])],2⟩) (Wk.r1 [(0,0),(1,1)] (by simp [hP,hhOk,back,Cat.cells,Fn.cells,UA,U1,IA,I1,LA,L1,BA,B1,EA,E1,E2,eB,eI,eL])) ?_
  clear h
  intro k25 s25 c25 h hk25
  refine Q6 ?_
  refine Q6 ?_
  refine runQ hN fun K hK=>?_
  simp [-Q0,-Q8,-Q3,-Q9,-Q4,eL,eI,Q1,Q5,Qd,Cat.cells,Fn.cells]
  repeat with_reducible refine sdQ ?_
  refine hK _ ?_;clear hK K
  refine tn ?_
  refine Qa (st':=⟨[(1,.lst true 1 (Is unit_)),(2,.lst true 1 (Is join_)),(3,.adr 0 0 0),(7,.adr 1 0 0),(8,.val (.int .i64 s25)),(15,.val (.bool (decide (s25<t_.s.n))))],[(0,.mix 12 [(Fn.cells true t_)]),(1,.mix 5 [(Cat.cells true t_.s)])],2⟩) (Wk.r1 [(0,0),(1,1)] (by simp [hP,hhOk,back,Cat.cells,Fn.cells,UA,U1,IA,I1,LA,L1,BA,B1,EA,E1,E2,eB,eI,eL])) ?_
  refine Qg rfl (fun g=>?_) fun g=>?_
  ·have g26:s25<t_.s.n:=gQ
   clear g
   replace h:=if_l g26 h
   refine Qh ?_
   refine tn ?_
   refine Q6 ?_
   refine Qf ?_
   refine Q6 ?_
   refine runQ hN fun K hK=>?_
   replace h:=Q7 h
   obtain ⟨a27,h⟩:=h
   simp [-Q0,-Q8,-Q3,-Q9,-Q4,eL,eI,Q1,Q5,Qd,Cat.cells,Fn.cells,at_I a27]
   repeat with_reducible refine sdQ ?_
   refine hK _ ?_;clear hK K
   refine tn ?_
   refine Qa (st':=⟨[(1,.lst true 1 (Is unit_)),(2,.lst true 1 (Is join_)),(3,.adr 0 0 0),(7,.adr 1 0 0),(8,.val (.int .i64 s25)),(9,.val (.int .i64 (ix t_.ob s25)))],[(0,.mix 12 [(Fn.cells true t_)]),(1,.mix 5 [(Cat.cells true t_.s)])],2⟩) (Wk.r1 [(0,0),(1,1)] (by simp [hP,hhOk,back,Cat.cells,Fn.cells,UA,U1,IA,I1,LA,L1,BA,B1,EA,E1,E2,eB,eI,eL])) ?_
   refine Q6 ?_
   refine Q6 ?_
   replace h:=bind_some h
   obtain ⟨e28,h,h28⟩:=h
   refine Qm (fun b28:Bool=>⟨[(1,.lst true 1 (Is unit_)),(2,.lst true 1 (Is join_)),(3,.adr 0 0 0),(7,.adr 1 0 0),(8,.val (.int .i64 s25)),(9,.val (.int .i64 (ix t_.ob s25))),(54,.val (.bool b28))],[(0,.mix 12 [(Fn.cells true t_)]),(1,.mix 5 [(Cat.cells true t_.s)])],2⟩) (fun b28=>b28=e28) ?_ ?_
   ·refine runQ hN fun K hK=>?_
    replace h:=Q7 h
    obtain ⟨a29,h⟩:=h
    replace h:=Q7 h
    obtain ⟨a30,h⟩:=h
    replace h:=Q7 h
    obtain ⟨a31,h⟩:=h
    simp [-Q0,-Q8,-Q3,-Q9,-Q4,eL,eI,Q1,Q5,Qd,Cat.cells,Fn.cells,at_I a29,at_I a30,at_I a31]
    repeat with_reducible refine sdQ ?_
    replace h:=bind_some h
    obtain ⟨v32,hv32,h⟩:=h
    refine Q2 (Q18 _ _ _ v32 hv32) (.cons (.aggL (.cons .val (.cons .lst (.cons .lst (.cons .lst (.cons .lst .nil)))))) (.cons .val (.cons .val .nil))) ?_
    simp [-Q0,-Q8,-Q3,-Q9,-Q4,unk,unA,unE,unT,unC,flat,eL,eI,Q1,Q5,Qd,Cat.cells,Fn.cells,at_I a29,at_I a30,at_I a31]
    repeat with_reducible refine sdQ ?_
    replace h:=bind_some h
    obtain ⟨v33,hv33,h⟩:=h
    refine Q2 (Q5v _ _ v33 hv33) (.cons (.aggL (.cons .val (.cons .lst (.cons .lst (.cons .lst (.cons .lst .nil)))))) (.cons .val .nil)) ?_
    simp [-Q0,-Q8,-Q3,-Q9,-Q4,unk,unA,unE,unT,unC,flat,eL,eI,Q1,Q5,Qd,Cat.cells,Fn.cells,at_I a29,at_I a30,at_I a31]
    repeat with_reducible refine sdQ ?_
    refine Qq (fun g=>?_) (fun g=>?_)
    ·have g34:¬ (¬ (v33=true)):=gQ
     clear g
     replace h:=if_r g34 h
     replace h:=Q7 h
     obtain ⟨a35,h⟩:=h
     replace h:=Q7 h
     obtain ⟨a36,h⟩:=h
     simp [-Q0,-Q8,-Q3,-Q9,-Q4,eL,eI,Q1,Q5,Qd,Cat.cells,Fn.cells,at_I a29,at_I a30,at_I a31,at_I a35,at_I a36]
     repeat with_reducible refine sdQ ?_
     replace h:=bind_some h
     obtain ⟨v37,hv37,h⟩:=h
     refine Q2 (Q18 _ _ _ v37 hv37) (.cons (.aggL (.cons .val (.cons .lst (.cons .lst (.cons .lst (.cons .lst .nil)))))) (.cons .val (.cons .val .nil))) ?_
     simp [-Q0,-Q8,-Q3,-Q9,-Q4,unk,unA,unE,unT,unC,flat,eL,eI,Q1,Q5,Qd,Cat.cells,Fn.cells,at_I a29,at_I a30,at_I a31,at_I a35,at_I a36]
     repeat with_reducible refine sdQ ?_
     replace h:=bind_some h
     obtain ⟨v38,hv38,h⟩:=h
     refine Q2 (Q5v _ _ v38 hv38) (.cons (.aggL (.cons .val (.cons .lst (.cons .lst (.cons .lst (.cons .lst .nil)))))) (.cons .val .nil)) ?_
     simp [-Q0,-Q8,-Q3,-Q9,-Q4,unk,unA,unE,unT,unC,flat,eL,eI,Q1,Q5,Qd,Cat.cells,Fn.cells,at_I a29,at_I a30,at_I a31,at_I a35,at_I a36]
     repeat with_reducible refine sdQ ?_
     refine hK _ ?_
     exact jn (b:=!v38) (Option.some.inj h) (Wk.r1 [(0,0),(1,1)] (by simp [hP,hhOk,back,Cat.cells,Fn.cells,UA,U1,IA,I1,LA,L1,BA,B1,EA,E1,E2,eB,eI,eL]))
    have g34:¬ (v33=true):=gQ
    clear g
    replace h:=if_l g34 h
    simp [-Q0,-Q8,-Q3,-Q9,-Q4,eL,eI,Q1,Q5,Qd,Cat.cells,Fn.cells,at_I a29,at_I a30,at_I a31]
    repeat with_reducible refine sdQ ?_
    refine hK _ ?_
    exact jn (b:=true) (Option.some.inj h) (Wk.r1 [(0,0),(1,1)] (by simp [hP,hhOk,back,Cat.cells,Fn.cells,UA,U1,IA,I1,LA,L1,BA,B1,EA,E1,E2,eB,eI,eL]))
   intro b28 hb28
   have h:=h28
   rw [← hb28] at h
   clear h28
   try dsimp only at h
   refine Qg rfl (fun g=>?_) fun g=>?_
   ·have g39:b28=true:=gQ
    clear g
    replace h:=if_l g39 h
    refine Q6 ?_
    refine runQ hN fun K hK=>?_
    simp [-Q0,-Q8,-Q3,-Q9,-Q4,eL,eI,Q1,Q5,Qd,Cat.cells,Fn.cells]
    repeat with_reducible refine sdQ ?_
    refine hK _ ?_;clear hK K
    refine tn ?_
    refine Qa (st':=⟨[(6,.val (.bool false))],[],0⟩) (Wk.r1 [] (by simp [hP,hhOk,back,Cat.cells,Fn.cells,UA,U1,IA,I1,LA,L1,BA,B1,EA,E1,E2,eB,eI,eL])) ?_
    refine Qk ?_
    refine tr ?_
    refine br ?_
    refine tr ?_
    refine lr ?_
    refine br ?_
    refine tr ?_
    cases h
    have q:_=e1:=hk25
    have h:=h1
    rw [← q] at h
    clear q
    try dsimp only at h
    have hr:=Option.some.inj h
    rw [← hr]
    refine ⟨_,(.tmp .nil),?_⟩
    refine ⟨(.one rfl rfl .nil),[.val (.bool false)],[],by simp [Cat.cells,Fn.cells,UA,U1,IA,I1,LA,L1,BA,B1,EA,E1,E2,eB,eI,eL],by simp,(UpL.refl _)⟩
   have g39:¬ (b28=true):=gQ
   clear g
   replace h:=if_r g39 h
   refine Qh ?_
   refine tn ?_
   refine Q6 ?_
   refine runQ hN fun K hK=>?_
   replace h:=Q7 h
   obtain ⟨a40,h⟩:=h
   replace h:=Q7 h
   obtain ⟨a41,h⟩:=h
   replace h:=Q7 h
   obtain ⟨a42,h⟩:=h
   simp [-Q0,-Q8,-Q3,-Q9,-Q4,eL,eI,Q1,Q5,Qd,Cat.cells,Fn.cells,at_I a40,at_I a41,at_I a42]
   repeat with_reducible refine sdQ ?_
   replace h:=bind_some h
   obtain ⟨v43,hv43,h⟩:=h
   refine Q2 (Q18 _ _ _ v43 hv43) (.cons (.aggL (.cons .val (.cons .lst (.cons .lst (.cons .lst (.cons .lst .nil)))))) (.cons .val (.cons .val .nil))) ?_
   replace h:=Q7 h
   obtain ⟨a44,h⟩:=h
   replace h:=Q7 h
   obtain ⟨a45,h⟩:=h
   simp [-Q0,-Q8,-Q3,-Q9,-Q4,unk,unA,unE,unT,unC,flat,eL,eI,Q1,Q5,Qd,Cat.cells,Fn.cells,at_I a40,at_I a41,at_I a42,at_I a44,at_I a45]
   repeat with_reducible refine sdQ ?_
   replace h:=bind_some h
   obtain ⟨v46,hv46,h⟩:=h
   refine Q2 (Q18 _ _ _ v46 hv46) (.cons (.aggL (.cons .val (.cons .lst (.cons .lst (.cons .lst (.cons .lst .nil)))))) (.cons .val (.cons .val .nil))) ?_
   simp [-Q0,-Q8,-Q3,-Q9,-Q4,unk,unA,unE,unT,unC,flat,eL,eI,Q1,Q5,Qd,Cat.cells,Fn.cells,at_I a40,at_I a41,at_I a42,at_I a44,at_I a45]
   repeat with_reducible refine sdQ ?_
   refine hK _ ?_;clear hK K
   refine tn ?_
   refine Qa (st':=⟨[(1,.lst true 1 (Is unit_)),(2,.lst true 1 (Is join_)),(3,.adr 0 0 0),(7,.adr 1 0 0),(8,.val (.int .i64 s25)),(79,.val (.bool (v43 != v46)))],[(0,.mix 12 [(Fn.cells true t_)]),(1,.mix 5 [(Cat.cells true t_.s)])],2⟩) (Wk.r1 [(0,0),(1,1)] (by simp [hP,hhOk,back,Cat.cells,Fn.cells,UA,U1,IA,I1,LA,L1,BA,B1,EA,E1,E2,eB,eI,eL])) ?_
   refine Qg rfl (fun g=>?_) fun g=>?_
   ·have g47:¬ (v43=v46):=gQ
    clear g
    replace h:=if_l g47 h
    refine Q6 ?_
    refine runQ hN fun K hK=>?_
    simp [-Q0,-Q8,-Q3,-Q9,-Q4,eL,eI,Q1,Q5,Qd,Cat.cells,Fn.cells]
    repeat with_reducible refine sdQ ?_
    refine hK _ ?_;clear hK K
    refine tn ?_
    refine Qa (st':=⟨[(6,.val (.bool false))],[],0⟩) (Wk.r1 [] (by simp [hP,hhOk,back,Cat.cells,Fn.cells,UA,U1,IA,I1,LA,L1,BA,B1,EA,E1,E2,eB,eI,eL])) ?_
    refine Qk ?_
    refine br ?_
    refine tr ?_
    refine lr ?_
    refine br ?_
    refine tr ?_
    cases h
    have q:_=e1:=hk25
    have h:=h1
    rw [← q] at h
    clear q
    try dsimp only at h
    have hr:=Option.some.inj h
    rw [← hr]
    refine ⟨_,(.tmp .nil),?_⟩
    refine ⟨(.one rfl rfl .nil),[.val (.bool false)],[],by simp [Cat.cells,Fn.cells,UA,U1,IA,I1,LA,L1,BA,B1,EA,E1,E2,eB,eI,eL],by simp,(UpL.refl _)⟩
   have g47:¬ (¬ (v43=v46)):=gQ
   clear g
   replace h:=if_r g47 h
   refine Qh ?_
   refine bn ?_
   refine tn ?_
   refine runQ hN fun K hK=>?_
   replace h:=Q7 h
   obtain ⟨a48,h⟩:=h
   simp [-Q0,-Q8,-Q3,-Q9,-Q4,eL,eI,Q1,Q5,Qd,Cat.cells,Fn.cells,Qw a48]
   repeat with_reducible refine sdQ ?_
   refine hK _ ?_;clear hK K
   cases h
   exact rn (s':=s25+1) hk25 (Wk.r1 [(0,0),(1,1)] (by simp [hP,hhOk,back,Cat.cells,Fn.cells,UA,U1,IA,I1,LA,L1,BA,B1,EA,E1,E2,eB,eI,eL]))
  have g26:¬ (s25<t_.s.n):=gQ
  clear g
  replace h:=if_r g26 h
  refine Qp ?_
  refine tx ?_
  refine lx ?_
  refine bh ?_
  cases h
  exact jn (b:=()) hk25 (Wk.r1 [] (by simp [hP,hhOk,back,Cat.cells,Fn.cells,UA,U1,IA,I1,LA,L1,BA,B1,EA,E1,E2,eB,eI,eL]))
 intro b1 hb1
 have h:=h1
 rw [← hb1] at h
 clear h1
 try dsimp only at h
 refine Q6 ?_
 refine runQ hN fun K hK=>?_
 simp [-Q0,-Q8,-Q3,-Q9,-Q4,eL,eI,Q1,Q5,Qd,Cat.cells,Fn.cells]
 repeat with_reducible refine sdQ ?_
 refine hK _ ?_;clear hK K
 refine tn ?_
 refine Qa (st':=⟨[(6,.val (.bool true))],[],0⟩) (Wk.r1 [] (by simp [hP,hhOk,back,Cat.cells,Fn.cells,UA,U1,IA,I1,LA,L1,BA,B1,EA,E1,E2,eB,eI,eL])) ?_
 refine Qk ?_
 have hr:=Option.some.inj h
 rw [← hr]
 refine ⟨_,(.tmp .nil),?_⟩
 refine ⟨(.one rfl rfl .nil),[.val (.bool true)],[],by simp [Cat.cells,Fn.cells,UA,U1,IA,I1,LA,L1,BA,B1,EA,E1,E2,eB,eI,eL],by simp,(UpL.refl _)⟩
end Go.Vc.T
namespace Go.Vc.T
open Go Go.Vc Go.Proofs
noncomputable def Q2M (f_:Fn):Option Fn :=
 (Q2z f_ f_).bind fun v1 =>
 some v1
theorem Q7f (f_:Fn) (r:Fn) (h:Q2M f_=some r):Contract Tryz.prog 107 [.agg (f_.cells true)] (.agg (r.cells true)):=by
 refine Qi (rvs:=[.cell 2 33]) (rs:=[.agg (r.cells true)]) Tryz.func107 rfl rfl rfl rfl (by simp [Tryz.f107]) fun F hN hP=>?_
 unfold Q2M at h
 refine Q6 ?_
 refine runQ hN fun K hK=>?_
 simp [-Q0,-Q8,-Q3,-Q9,-Q4,eL,eI,Q1,Qd,Fn.cells]
 repeat with_reducible refine sdQ ?_
 refine hK _ ?_;clear hK K
 refine tn ?_
 refine Qa (st':=⟨[(1,.adr 0 0 0),(2,.adr 1 0 0)],[(0,.mix 12 [(Fn.cells true f_)]),(1,.mix 12 [[.val (.int .i64 0),.val (.slice none 0 0),.val (.slice none 0 0),.val (.slice none 0 0),.val (.slice none 0 0),.val (.int .i64 0),.val (.slice none 0 0),.val (.slice none 0 0),.val (.slice none 0 0),.val (.slice none 0 0),.val (.slice none 0 0),.val (.slice none 0 0)]])],2⟩) (Wk.r1 [(0,0),(1,1)] (by simp [hP,hhOk,back,Fn.cells,UA,U1,IA,I1,LA,L1,BA,B1,EA,E1,E2,eB,eI,eL])) ?_
 refine Q6 ?_
 refine runQ hN fun K hK=>?_
 simp [-Q0,-Q8,-Q3,-Q9,-Q4,eL,eI,Q1,Qd,Fn.cells]
 repeat with_reducible refine sdQ ?_
 replace h:=bind_some h
 obtain ⟨v1,hv1,h⟩:=h
 refine Q2 (Q7V _ _ v1 hv1) (.cons (.aggL (.cons .val (.cons .lst (.cons .lst (.cons .lst (.cons .lst (.cons .val (.cons .lst (.cons .lst (.cons .lst (.cons .lst (.cons .lst (.cons .lst .nil))))))))))))) (.cons (.aggL (.cons .val (.cons .lst (.cons .lst (.cons .lst (.cons .lst (.cons .val (.cons .lst (.cons .lst (.cons .lst (.cons .lst (.cons .lst (.cons .lst .nil))))))))))))) .nil)) ?_
 simp [-Q0,-Q8,-Q3,-Q9,-Q4,unk,unA,unE,unT,unC,flat,eL,eI,Q1,Qd,Fn.cells]
 repeat with_reducible refine sdQ ?_
 refine hK _ ?_;clear hK K
 refine tn ?_
 refine Qa (st':=⟨[(2,.adr 0 0 0)],[(0,.mix 12 [[.val (.int .i64 v1.s.n),.own 1 0 v1.s.fr.length,.own 2 0 v1.s.to.length,.own 3 0 v1.s.id.length,.own 4 0 v1.s.cs.length,.val (.int .i64 v1.t.n),.own 5 0 v1.t.fr.length,.own 6 0 v1.t.to.length,.own 7 0 v1.t.id.length,.own 8 0 v1.t.cs.length,.own 9 0 v1.ob.length,.own 10 0 v1.ar.length]]),(1,.row 1 (Is v1.s.fr)),(2,.row 1 (Is v1.s.to)),(3,.row 1 (Is v1.s.id)),(4,.row 1 (Ls v1.s.cs)),(5,.row 1 (Is v1.t.fr)),(6,.row 1 (Is v1.t.to)),(7,.row 1 (Is v1.t.id)),(8,.row 1 (Ls v1.t.cs)),(9,.row 1 (Is v1.ob)),(10,.row 1 (Is v1.ar))],11⟩) (Wk.r1 [(1,0),(3,1),(4,2),(5,3),(6,4),(8,5),(9,6),(10,7),(11,8),(12,9),(13,10)] (by simp [hP,hhOk,back,Fn.cells,UA,U1,IA,I1,LA,L1,BA,B1,EA,E1,E2,eB,eI,eL])) ?_
 refine Qk ?_
 have hr:=Option.some.inj h
 rw [← hr]
 refine ⟨_,(.cell Q6r rfl rfl rfl (by simp) (by simp) .nil),?_⟩
 refine ⟨(.agg rfl .nil),[.val (.int .i64 v1.s.n),.lst true 1 (Is v1.s.fr),.lst true 1 (Is v1.s.to),.lst true 1 (Is v1.s.id),.lst true 1 (Ls v1.s.cs),.val (.int .i64 v1.t.n),.lst true 1 (Is v1.t.fr),.lst true 1 (Is v1.t.to),.lst true 1 (Is v1.t.id),.lst true 1 (Ls v1.t.cs),.lst true 1 (Is v1.ob),.lst true 1 (Is v1.ar)],[1,2,3,4,5,6,7,8,9,10],by simp [Fn.cells,UA,U1,IA,I1,LA,L1,BA,B1,EA,E1,E2,eB,eI,eL],by simp,(UpL.refl _)⟩
end Go.Vc.T
namespace Go.Vc.T
open Go Go.Vc Go.Proofs
noncomputable def Q3y (m_:Mnd):Option Bool :=
 (
  (Q3x m_.f).bind fun v2 =>
  if ¬ (v2=true) then
   some true
  else
   (Q3b m_.f.s m_.f.t).bind fun v4 =>
   some (!v4):Option (Bool)).bind fun b1 =>
 if b1=true then
  some false
 else
  (
   (Q26 m_.f.s).bind fun v7 =>
   (Q1u v7 m_.f m_.u).bind fun v8 =>
   if ¬ (v8=true) then
    some true
   else
    (Q2M m_.f).bind fun v10 =>
    (Q1u v10 m_.f m_.j).bind fun v11 =>
    some (!v11):Option (Bool)).bind fun b6 =>
  if b6=true then
   some false
  else
   (Q2C m_.f m_.u m_.j).bind fun v13 =>
   some v13
theorem w_s_l16Is (m_:Mnd) (r:Bool) (h:Q3y m_=some r):Contract Tryz.prog 77 [.agg (m_.cells true)] (.val (.bool r)):=by
 refine Qi (rvs:=[.tmp 2]) (rs:=[.val (.bool r)]) Tryz.func77 rfl rfl rfl rfl (by simp [Tryz.f77]) fun F hN hP=>?_
 unfold Q3y at h
 refine Q6 ?_
 refine runQ hN fun K hK=>?_
 simp [-Q0,-Q8,-Q3,-Q9,-Q4,eL,eI,Q1,Q5,Qd,Qc,Cat.cells,Fn.cells,Mnd.cells]
 repeat with_reducible refine sdQ ?_
 refine hK _ ?_;clear hK K
 refine tn ?_
 refine Qa (st':=⟨[(1,.adr 0 0 0)],[(0,.mix 14 [(Mnd.cells true m_)])],1⟩) (Wk.r1 [(0,0)] (by simp [hP,hhOk,back,Cat.cells,Fn.cells,Mnd.cells,UA,U1,IA,I1,LA,L1,BA,B1,EA,E1,E2,eB,eI,eL])) ?_
 refine Q6 ?_
 refine runQ hN fun K hK=>?_
 simp [-Q0,-Q8,-Q3,-Q9,-Q4,eL,eI,Q1,Q5,Qd,Qc,Cat.cells,Fn.cells,Mnd.cells]
 repeat with_reducible refine sdQ ?_
 refine hK _ ?_;clear hK K
 refine tn ?_
 refine Qa (st':=⟨[(1,.adr 0 0 0),(3,.adr 1 0 0)],[(0,.mix 14 [(Mnd.cells true m_)]),(1,.mix 12 [(Fn.cells true m_.f)])],2⟩) (Wk.r1 [(0,0),(1,1)] (by simp [hP,hhOk,back,Cat.cells,Fn.cells,Mnd.cells,UA,U1,IA,I1,LA,L1,BA,B1,EA,E1,E2,eB,eI,eL])) ?_
 refine Q6 ?_
 refine Q6 ?_
 replace h:=bind_some h
 obtain ⟨e1,h,h1⟩:=h
 refine Qm (fun b1:Bool=>⟨[(1,.adr 0 0 0),(3,.adr 1 0 0),(16,.val (.bool b1))],[(0,.mix 14 [(Mnd.cells true m_)]),(1,.mix 12 [(Fn.cells true m_.f)])],2⟩) (fun b1=>b1=e1) ?_ ?_
 ·refine runQ hN fun K hK=>?_
  simp [-Q0,-Q8,-Q3,-Q9,-Q4,eL,eI,Q1,Q5,Qd,Qc,Cat.cells,Fn.cells,Mnd.cells]
  repeat with_reducible refine sdQ ?_
  replace h:=bind_some h
  obtain ⟨v2,hv2,h⟩:=h
  refine Q2 (w_s_l06Is _ v2 hv2) (.cons (.aggL (.cons .val (.cons .lst (.cons .lst (.cons .lst (.cons .lst (.cons .val (.cons .lst (.cons .lst (.cons .lst (.cons .lst (.cons .lst (.cons .lst .nil))))))))))))) .nil) ?_
  simp [-Q0,-Q8,-Q3,-Q9,-Q4,unk,unA,unE,unT,unC,flat,eL,eI,Q1,Q5,Qd,Qc,Cat.cells,Fn.cells,Mnd.cells]
  repeat with_reducible refine sdQ ?_
  refine Qq (fun g=>?_) (fun g=>?_)
  ·have g3:¬ (¬ (v2=true)):=gQ
   clear g
   replace h:=if_r g3 h
   simp [-Q0,-Q8,-Q3,-Q9,-Q4,eL,eI,Q1,Q5,Qd,Qc,Cat.cells,Fn.cells,Mnd.cells]
   repeat with_reducible refine sdQ ?_
   replace h:=bind_some h
   obtain ⟨v4,hv4,h⟩:=h
   refine Q2 (Q7U _ _ v4 hv4) (.cons (.aggL (.cons .val (.cons .lst (.cons .lst (.cons .lst (.cons .lst .nil)))))) (.cons (.aggL (.cons .val (.cons .lst (.cons .lst (.cons .lst (.cons .lst .nil)))))) .nil)) ?_
   simp [-Q0,-Q8,-Q3,-Q9,-Q4,unk,unA,unE,unT,unC,flat,eL,eI,Q1,Q5,Qd,Qc,Cat.cells,Fn.cells,Mnd.cells]
   repeat with_reducible refine sdQ ?_
   refine hK _ ?_
   exact jn (b:=!v4) (Option.some.inj h) (Wk.r1 [(0,0),(1,1)] (by simp [hP,hhOk,back,Cat.cells,Fn.cells,Mnd.cells,UA,U1,IA,I1,LA,L1,BA,B1,EA,E1,E2,eB,eI,eL]))
  have g3:¬ (v2=true):=gQ
  clear g
  replace h:=if_l g3 h
  simp [-Q0,-Q8,-Q3,-Q9,-Q4,eL,eI,Q1,Q5,Qd,Qc,Cat.cells,Fn.cells,Mnd.cells]
  repeat with_reducible refine sdQ ?_
  refine hK _ ?_
  exact jn (b:=true) (Option.some.inj h) (Wk.r1 [(0,0),(1,1)] (by simp [hP,hhOk,back,Cat.cells,Fn.cells,Mnd.cells,UA,U1,IA,I1,LA,L1,BA,B1,EA,E1,E2,eB,eI,eL]))
 intro b1 hb1
 have h:=h1
 rw [← hb1] at h
 clear h1
 try dsimp only at h
 refine Qg rfl (fun g=>?_) fun g=>?_
 ·have g5:b1=true:=gQ
  clear g
  replace h:=if_l g5 h
  refine Q6 ?_
  refine runQ hN fun K hK=>?_
  simp [-Q0,-Q8,-Q3,-Q9,-Q4,eL,eI,Q1,Q5,Qd,Qc,Cat.cells,Fn.cells,Mnd.cells]
  repeat with_reducible refine sdQ ?_
  refine hK _ ?_;clear hK K
  refine tn ?_
  refine Qa (st':=⟨[(2,.val (.bool false))],[],0⟩) (Wk.r1 [] (by simp [hP,hhOk,back,Cat.cells,Fn.cells,Mnd.cells,UA,U1,IA,I1,LA,L1,BA,B1,EA,E1,E2,eB,eI,eL])) ?_
  refine Qk ?_
  refine tr ?_
  have hr:=Option.some.inj h
  rw [← hr]
  refine ⟨_,(.tmp .nil),?_⟩
  refine ⟨(.one rfl rfl .nil),[.val (.bool false)],[],by simp [Cat.cells,Fn.cells,Mnd.cells,UA,U1,IA,I1,LA,L1,BA,B1,EA,E1,E2,eB,eI,eL],by simp,(UpL.refl _)⟩
 have g5:¬ (b1=true):=gQ
 clear g
 replace h:=if_r g5 h
 refine Qh ?_
 refine tn ?_
 refine Q6 ?_
 refine Q6 ?_
 replace h:=bind_some h
 obtain ⟨e6,h,h6⟩:=h
 refine Qm (fun b6:Bool=>⟨[(1,.adr 0 0 0),(3,.adr 1 0 0),(33,.val (.bool b6))],[(0,.mix 14 [(Mnd.cells true m_)]),(1,.mix 12 [(Fn.cells true m_.f)])],2⟩) (fun b6=>b6=e6) ?_ ?_
 ·refine runQ hN fun K hK=>?_
  simp [-Q0,-Q8,-Q3,-Q9,-Q4,eL,eI,Q1,Q5,Qd,Qc,Cat.cells,Fn.cells,Mnd.cells]
  repeat with_reducible refine sdQ ?_
  replace h:=bind_some h
  obtain ⟨v7,hv7,h⟩:=h
  refine Q2 (Q5w _ v7 hv7) (.cons (.aggL (.cons .val (.cons .lst (.cons .lst (.cons .lst (.cons .lst .nil)))))) .nil) ?_
  simp [-Q0,-Q8,-Q3,-Q9,-Q4,unk,unA,unE,unT,unC,flat,eL,eI,Q1,Q5,Qd,Qc,Cat.cells,Fn.cells,Mnd.cells]
  repeat with_reducible refine sdQ ?_
  replace h:=bind_some h
  obtain ⟨v8,hv8,h⟩:=h
  refine Q2 (Q3P _ _ _ v8 hv8) (.cons (.aggL (.cons .val (.cons (.whole (by simp) (by simp) (by simp)) (.cons (.whole (by simp) (by simp) (by simp)) (.cons (.whole (by simp) (by simp) (by simp)) (.cons (.whole (by simp) (by simp) (by simp)) (.cons .val (.cons (.whole (by simp) (by simp) (by simp)) (.cons (.whole (by simp) (by simp) (by simp)) (.cons (.whole (by simp) (by simp) (by simp)) (.cons (.whole (by simp) (by simp) (by simp)) (.cons (.whole (by simp) (by simp) (by simp)) (.cons (.whole (by simp) (by simp) (by simp)) .nil))))))))))))) (.cons (.aggL (.cons .val (.cons .lst (.cons .lst (.cons .lst (.cons .lst (.cons .val (.cons .lst (.cons .lst (.cons .lst (.cons .lst (.cons .lst (.cons .lst .nil))))))))))))) (.cons .lst .nil))) ?_
  simp [-Q0,-Q8,-Q3,-Q9,-Q4,unk,unA,unE,unT,unC,flat,eL,eI,Q1,Q5,Qd,Qc,Cat.cells,Fn.cells,Mnd.cells]
  repeat with_reducible refine sdQ ?_
  refine Qq (fun g=>?_) (fun g=>?_)
  ·have g9:¬ (¬ (v8=true)):=gQ
   clear g
   replace h:=if_r g9 h
   simp [-Q0,-Q8,-Q3,-Q9,-Q4,eL,eI,Q1,Q5,Qd,Qc,Cat.cells,Fn.cells,Mnd.cells]
   repeat with_reducible refine sdQ ?_
   replace h:=bind_some h
   obtain ⟨v10,hv10,h⟩:=h
   refine Q2 (Q7f _ v10 hv10) (.cons (.aggL (.cons .val (.cons .lst (.cons .lst (.cons .lst (.cons .lst (.cons .val (.cons .lst (.cons .lst (.cons .lst (.cons .lst (.cons .lst (.cons .lst .nil))))))))))))) .nil) ?_
   simp [-Q0,-Q8,-Q3,-Q9,-Q4,unk,unA,unE,unT,unC,flat,eL,eI,Q1,Q5,Qd,Qc,Cat.cells,Fn.cells,Mnd.cells]
   repeat with_reducible refine sdQ ?_
   replace h:=bind_some h
   obtain ⟨v11,hv11,h⟩:=h
   refine Q2 (Q3P _ _ _ v11 hv11) (.cons (.aggL (.cons .val (.cons (.whole (by simp) (by simp) (by simp)) (.cons (.whole (by simp) (by simp) (by simp)) (.cons (.whole (by simp) (by simp) (by simp)) (.cons (.whole (by simp) (by simp) (by simp)) (.cons .val (.cons (.whole (by simp) (by simp) (by simp)) (.cons (.whole (by simp) (by simp) (by simp)) (.cons (.whole (by simp) (by simp) (by simp)) (.cons (.whole (by simp) (by simp) (by simp)) (.cons (.whole (by simp) (by simp) (by simp)) (.cons (.whole (by simp) (by simp) (by simp)) .nil))))))))))))) (.cons (.aggL (.cons .val (.cons .lst (.cons .lst (.cons .lst (.cons .lst (.cons .val (.cons .lst (.cons .lst (.cons .lst (.cons .lst (.cons .lst (.cons .lst .nil))))))))))))) (.cons .lst .nil))) ?_
   simp [-Q0,-Q8,-Q3,-Q9,-Q4,unk,unA,unE,unT,unC,flat,eL,eI,Q1,Q5,Qd,Qc,Cat.cells,Fn.cells,Mnd.cells]
   repeat with_reducible refine sdQ ?_
   refine hK _ ?_
   exact jn (b:=!v11) (Option.some.inj h) (Wk.r1 [(0,0),(1,1)] (by simp [hP,hhOk,back,Cat.cells,Fn.cells,Mnd.cells,UA,U1,IA,I1,LA,L1,BA,B1,EA,E1,E2,eB,eI,eL]))
  have g9:¬ (v8=true):=gQ
  clear g
  replace h:=if_l g9 h
  simp [-Q0,-Q8,-Q3,-Q9,-Q4,eL,eI,Q1,Q5,Qd,Qc,Cat.cells,Fn.cells,Mnd.cells]
  repeat with_reducible refine sdQ ?_
  refine hK _ ?_
  exact jn (b:=true) (Option.some.inj h) (Wk.r1 [(0,0),(1,1)] (by simp [hP,hhOk,back,Cat.cells,Fn.cells,Mnd.cells,UA,U1,IA,I1,LA,L1,BA,B1,EA,E1,E2,eB,eI,eL]))
 intro b6 hb6
 have h:=h6
 rw [← hb6] at h
 clear h6
 try dsimp only at h
 refine Qg rfl (fun g=>?_) fun g=>?_
 ·have g12:b6=true:=gQ
  clear g
  replace h:=if_l g12 h
  refine Q6 ?_
  refine runQ hN fun K hK=>?_
  simp [-Q0,-Q8,-Q3,-Q9,-Q4,eL,eI,Q1,Q5,Qd,Qc,Cat.cells,Fn.cells,Mnd.cells]
  repeat with_reducible refine sdQ ?_
  refine hK _ ?_;clear hK K
  refine tn ?_
  refine Qa (st':=⟨[(2,.val (.bool false))],[],0⟩) (Wk.r1 [] (by simp [hP,hhOk,back,Cat.cells,Fn.cells,Mnd.cells,UA,U1,IA,I1,LA,L1,BA,B1,EA,E1,E2,eB,eI,eL])) ?_
  refine Qk ?_
  refine tr ?_
  have hr:=Option.some.inj h
  rw [← hr]
  refine ⟨_,(.tmp .nil),?_⟩
  refine ⟨(.one rfl rfl .nil),[.val (.bool false)],[],by simp [Cat.cells,Fn.cells,Mnd.cells,UA,U1,IA,I1,LA,L1,BA,B1,EA,E1,E2,eB,eI,eL],by simp,(UpL.refl _)⟩
 have g12:¬ (b6=true):=gQ
 clear g
 replace h:=if_r g12 h
 refine Qh ?_
 refine tn ?_
 refine Q6 ?_
 refine runQ hN fun K hK=>?_
 simp [-Q0,-Q8,-Q3,-Q9,-Q4,eL,eI,Q1,Q5,Qd,Qc,Cat.cells,Fn.cells,Mnd.cells]
 repeat with_reducible refine sdQ ?_
 replace h:=bind_some h
 obtain ⟨v13,hv13,h⟩:=h
 refine Q2 (Q7Y _ _ _ v13 hv13) (.cons (.aggL (.cons .val (.cons .lst (.cons .lst (.cons .lst (.cons .lst (.cons .val (.cons .lst (.cons .lst (.cons .lst (.cons .lst (.cons .lst (.cons .lst .nil))))))))))))) (.cons .lst (.cons .lst .nil))) ?_
 simp [-Q0,-Q8,-Q3,-Q9,-Q4,unk,unA,unE,unT,unC,flat,eL,eI,Q1,Q5,Qd,Qc,Cat.cells,Fn.cells,Mnd.cells]
 repeat with_reducible refine sdQ ?_
 refine hK _ ?_;clear hK K
 refine tn ?_
 refine Qa (st':=⟨[(2,.val (.bool v13))],[],0⟩) (Wk.r1 [] (by simp [hP,hhOk,back,Cat.cells,Fn.cells,Mnd.cells,UA,U1,IA,I1,LA,L1,BA,B1,EA,E1,E2,eB,eI,eL])) ?_
 refine Qk ?_
 have hr:=Option.some.inj h
 rw [← hr]
 refine ⟨_,(.tmp .nil),?_⟩
 refine ⟨(.one rfl rfl .nil),[.val (.bool v13)],[],by simp [Cat.cells,Fn.cells,Mnd.cells,UA,U1,IA,I1,LA,L1,BA,B1,EA,E1,E2,eB,eI,eL],by simp,(UpL.refl _)⟩
end Go.Vc.T
namespace Go.Vc.T
open Go Go.Vc Go.Proofs
structure Mnd.Pre (m:Mnd):Prop where
 f:m.f.Is
 e:m.f.s=m.f.t
 n1:NatT (Q2D m.f.s) m.f m.u
 n2:NatT (Q2T m.f m.f) m.f m.j
structure Mnd.Is (m:Mnd):Prop where
 pre:m.Pre
 l1:∀ x:Nat,x<m.f.ob.length→ix (rx m.f.s.cs (ix m.f.ar (ix m.u x))) (ix m.j x)=ix m.f.s.id (ix m.f.ob x)∧ix (rx m.f.s.cs (ix m.u (ix m.f.ob x))) (ix m.j x)=ix m.f.s.id (ix m.f.ob x)
 l2:∀ x:Nat,x<m.f.ob.length→ix (rx m.f.s.cs (ix m.f.ar (ix m.j x))) (ix m.j x)=ix (rx m.f.s.cs (ix m.j (ix m.f.ob x))) (ix m.j x)
theorem Mnd.Pre.len {m:Mnd} (h:m.Pre):m.u.length=m.f.ob.length∧m.j.length=m.f.ob.length∧(m.f.ob.length:Int)=m.f.s.n∧m.f.ar.length=m.f.s.fr.length∧(m.f.s.id.length:Int)=m.f.s.n∧m.f.s.cs.length=m.f.s.fr.length∧m.f.s.to.length=m.f.s.fr.length∧m.f.s.fr.length≤40∧m.f.ob.length≤8:=by
 have h1:=h.n1.lp
 have h2:=h.n2.lp
 have h3:=h.f.lo
 have h5:=h.f.la
 have h6:=h.f.s.1.li
 simp only [Q2D,Q2T,Q7z,Q4M] at h1 h2
 exact ⟨by omega,by omega,h3,h5,h6,h.f.s.1.lc,h.f.s.1.lt,h.f.s.1.m40,h.f.lob⟩
theorem Mnd.Pre.ob {m:Mnd} (h:m.Pre) {x:Int} (h0:0≤x) (h1:x<m.f.ob.length):0≤ix m.f.ob x∧ix m.f.ob x<m.f.ob.length:=by
 have:=Q6O h.f.ob h0 h1
 rw [← h.e,← h.f.lo] at this
 exact this
theorem Mnd.Pre.ar {m:Mnd} (h:m.Pre) {f:Int} (h0:0≤f) (h1:f<m.f.s.fr.length):(0≤ix m.f.ar f∧ix m.f.ar f<m.f.s.fr.length)∧ix m.f.s.fr (ix m.f.ar f)=ix m.f.ob (ix m.f.s.fr f)∧ix m.f.s.to (ix m.f.ar f)=ix m.f.ob (ix m.f.s.to f):=by
 have hla:=h.f.la
 have q1:=h.f.ar
 have q2:=h.f.ends
 rw [← h.e] at q1 q2
 obtain ⟨i,rfl⟩:∃ i:Nat,f=i:=⟨f.toNat,by omega⟩
 exact ⟨q1 i (by omega),q2 i (by omega)⟩
theorem Mnd.Pre.unit {m:Mnd} (h:m.Pre) {x:Int} (h0:0≤x) (h1:x<m.f.ob.length):(0≤ix m.u x∧ix m.u x<m.f.s.fr.length)∧ix m.f.s.fr (ix m.u x)=x∧ix m.f.s.to (ix m.u x)=ix m.f.ob x:=by
 obtain ⟨l1,l2,l3,l4,l5,l6,l7,l8,l9⟩:=h.len
 obtain ⟨i,rfl⟩:∃ i:Nat,x=i:=⟨x.toNat,by omega⟩
 have q1:=h.n1.bd i (by omega)
 have q2:=h.n1.ends i (by omega)
 simp only [Q2D] at q1 q2
 rw [Q2u _ (by omega) (by omega)] at q2
 exact ⟨q1,q2⟩
theorem Mnd.Pre.join {m:Mnd} (h:m.Pre) {x:Int} (h0:0≤x) (h1:x<m.f.ob.length):(0≤ix m.j x∧ix m.j x<m.f.s.fr.length)∧ix m.f.s.fr (ix m.j x)=ix m.f.ob (ix m.f.ob x)∧ix m.f.s.to (ix m.j x)=ix m.f.ob x:=by
 obtain ⟨l1,l2,l3,l4,l5,l6,l7,l8,l9⟩:=h.len
 obtain ⟨i,rfl⟩:∃ i:Nat,x=i:=⟨x.toNat,by omega⟩
 have q1:=h.n2.bd i (by omega)
 have q2:=h.n2.ends i (by omega)
 simp only [Q2T] at q1 q2
 rw [← h.e] at q1 q2
 rw [Q1Y _ _ (by omega) (by omega)] at q2
 exact ⟨q1,q2⟩
theorem Cat.Is.two {c:Cat} (h:c.Is) {f g:Int} (f0:0≤f∧f<c.fr.length) (g0:0≤g∧g<c.fr.length) (e:ix c.to f=ix c.fr g):(0≤ix (rx c.cs f) g∧ix (rx c.cs f) g<c.fr.length)∧ix c.fr (ix (rx c.cs f) g)=ix c.fr f∧ix c.to (ix (rx c.cs f) g)=ix c.to g:=by
 have:=(h.1.cell' f0.1 f0.2 g0.1 g0.2).2 e
 exact ⟨⟨this.1,this.2.1⟩,this.2.2⟩
theorem QT {c:Cat} (h:c.Is) {f g:Int} (f0:0≤f∧f<c.fr.length) (g0:0≤g∧g<c.fr.length):QG c f g=some (ix (rx c.cs f) g)∧Qo c f g=some (ix (rx c.cs f) g):=by
 have h1:=h.1.lc
 have h2:=h.1.row' f0.1 f0.2
 exact ⟨Q55 (by omega) (by omega),Q61 (by omega) (by omega)⟩
theorem Q2I {c:Cat} (h:c.Is) {f x:Int} (f0:0≤f∧f<c.fr.length) (e:ix c.fr f=x):Q1Q c f=some (bo (f=ix c.id x)):=by rw [e_l02Unit h f0.1 f0.2,e]
theorem mpara1 {f:Fn} (h:f.Is) (e:f.s=f.t):Para (Q2D f.s) f:=⟨self_is h.s,h,rfl,by simp [Q2D,e]⟩
theorem mpara2 {f:Fn} (h:f.Is) (e:f.s=f.t):Para (Q2T f f) f:=⟨then_is h h e.symm,h,rfl,by simp [Q2T]⟩
structure Mnd.At (m:Mnd) (x:Int):Prop where
 o:0≤ix m.f.ob x∧ix m.f.ob x<m.f.ob.length
 u:0≤ix m.u x∧ix m.u x<m.f.s.fr.length
 j:0≤ix m.j x∧ix m.j x<m.f.s.fr.length
 au:0≤ix m.f.ar (ix m.u x)∧ix m.f.ar (ix m.u x)<m.f.s.fr.length
 uo:0≤ix m.u (ix m.f.ob x)∧ix m.u (ix m.f.ob x)<m.f.s.fr.length
 aj:0≤ix m.f.ar (ix m.j x)∧ix m.f.ar (ix m.j x)<m.f.s.fr.length
 jo:0≤ix m.j (ix m.f.ob x)∧ix m.j (ix m.f.ob x)<m.f.s.fr.length
 c1:(0≤ix (rx m.f.s.cs (ix m.f.ar (ix m.u x))) (ix m.j x)∧ix (rx m.f.s.cs (ix m.f.ar (ix m.u x))) (ix m.j x)<m.f.s.fr.length)∧ix m.f.s.fr (ix (rx m.f.s.cs (ix m.f.ar (ix m.u x))) (ix m.j x))=ix m.f.ob x
 c2:(0≤ix (rx m.f.s.cs (ix m.u (ix m.f.ob x))) (ix m.j x)∧ix (rx m.f.s.cs (ix m.u (ix m.f.ob x))) (ix m.j x)<m.f.s.fr.length)∧ix m.f.s.fr (ix (rx m.f.s.cs (ix m.u (ix m.f.ob x))) (ix m.j x))=ix m.f.ob x
theorem Mnd.Pre.at {m:Mnd} (h:m.Pre) {x:Int} (h0:0≤x) (h1:x<m.f.ob.length):m.At x:=by
 have o:=h.ob h0 h1
 obtain ⟨u1,u2,u3⟩:=h.unit h0 h1
 obtain ⟨j1,j2,j3⟩:=h.join h0 h1
 obtain ⟨a1,a2,a3⟩:=h.ar u1.1 u1.2
 obtain ⟨v1,v2,v3⟩:=h.unit o.1 o.2
 obtain ⟨b1,b2,b3⟩:=h.ar j1.1 j1.2
 obtain ⟨k1,k2,k3⟩:=h.join o.1 o.2
 have c1:=h.f.s.two a1 j1 (by rw [a3,u3,j2])
 have c2:=h.f.s.two v1 j1 (by rw [v3,j2])
 exact ⟨o,u1,j1,a1,v1,b1,k1,⟨c1.1,by rw [c1.2.1,a2,u2]⟩,c2.1,by rw [c2.2.1,v2]⟩
theorem e_l16Laws {m:Mnd} (h:m.Pre):Q2C m.f m.u m.j=some (bo m.Is):=by
 obtain ⟨l1,l2,l3,l4,l5,l6,l7,l8,l9⟩:=h.len
 have hc:=h.f.s
 unfold Q2C
 refine Q19 m.f.ob.length (fun x:Nat=>(ix (rx m.f.s.cs (ix m.f.ar (ix m.u x))) (ix m.j x)=ix m.f.s.id (ix m.f.ob x)∧ix (rx m.f.s.cs (ix m.u (ix m.f.ob x))) (ix m.j x)=ix m.f.s.id (ix m.f.ob x))∧ix (rx m.f.s.cs (ix m.f.ar (ix m.j x))) (ix m.j x)=ix (rx m.f.s.cs (ix m.j (ix m.f.ob x))) (ix m.j x)) (eb:=Sum.inr false) (eg:=Sum.inl ()) (by omega) (fun x hi hq=>?_) (fun x hi hq=>?_) (by simp;try omega) (fun hx=>?_) fun q=>?_
 ·have a:=h.at (x:=x) (by omega) (by omega)
  obtain ⟨a1,a2,a3,a4,a5,a6,a7,a8,a9⟩:=a
  simp (disch:=omega) only [Qe,(QT hc a4 a3).1,(QT hc a5 a3).1,(QT hc a6 a3).1,(QT hc a7 a3).1,Q2I hc a8.1 a8.2,Q2I hc a9.1 a9.2,Option.bind_some]
  simp (disch:=omega) [Qe,B64,hq.1.1,hq.1.2,hq.2,bo];try omega
 ·have a:=h.at (x:=x) (by omega) (by omega)
  obtain ⟨a1,a2,a3,a4,a5,a6,a7,a8,a9⟩:=a
  by_cases q1:ix (rx m.f.s.cs (ix m.f.ar (ix m.u x))) (ix m.j x)=ix m.f.s.id (ix m.f.ob x)
  case neg =>
   simp (disch:=omega) only [Qe,(QT hc a4 a3).1,(QT hc a5 a3).1,(QT hc a6 a3).1,(QT hc a7 a3).1,Q2I hc a8.1 a8.2,Q2I hc a9.1 a9.2,Option.bind_some]
   simp (disch:=omega) [Qe,B64,q1,bo];try omega
  by_cases q2:ix (rx m.f.s.cs (ix m.u (ix m.f.ob x))) (ix m.j x)=ix m.f.s.id (ix m.f.ob x)
  case neg =>
   simp (disch:=omega) only [Qe,(QT hc a4 a3).1,(QT hc a5 a3).1,(QT hc a6 a3).1,(QT hc a7 a3).1,Q2I hc a8.1 a8.2,Q2I hc a9.1 a9.2,Option.bind_some]
   simp (disch:=omega) [Qe,B64,q1,q2,bo];try omega
  have q3:¬ ix (rx m.f.s.cs (ix m.f.ar (ix m.j x))) (ix m.j x)=ix (rx m.f.s.cs (ix m.j (ix m.f.ob x))) (ix m.j x):=fun q=>hq ⟨⟨q1,q2⟩,q⟩
  simp (disch:=omega) only [Qe,(QT hc a4 a3).1,(QT hc a5 a3).1,(QT hc a6 a3).1,(QT hc a7 a3).1,Q2I hc a8.1 a8.2,Q2I hc a9.1 a9.2,Option.bind_some]
  simp (disch:=omega) [Qe,B64,q1,q2,q3,bo];try omega
 ·rw [Qz (show ¬ m.Is from fun q=>hx fun x hi=>⟨q.l1 x hi,q.l2 x hi⟩)]
 rw [QN (show m.Is from ⟨h,fun x hi=>(q x hi).1,fun x hi=>(q x hi).2⟩)]
theorem Q8E {m:Mnd} (h:m.Pre):Q16 m=some (bo m.Is):=by
 obtain ⟨l1,l2,l3,l4,l5,l6,l7,l8,l9⟩:=h.len
 have hc:=h.f.s
 unfold Q16 Q12 QX
 refine Q19 m.f.ob.length (fun x:Nat=>(ix (rx m.f.s.cs (ix m.f.ar (ix m.u x))) (ix m.j x)=ix m.f.s.id (ix m.f.ob x)∧ix (rx m.f.s.cs (ix m.u (ix m.f.ob x))) (ix m.j x)=ix m.f.s.id (ix m.f.ob x))∧ix (rx m.f.s.cs (ix m.f.ar (ix m.j x))) (ix m.j x)=ix (rx m.f.s.cs (ix m.j (ix m.f.ob x))) (ix m.j x)) (eb:=Sum.inr false) (eg:=Sum.inl ()) (by omega) (fun x hi hq=>?_) (fun x hi hq=>?_) (by simp;try omega) (fun hx=>?_) fun q=>?_
 ·have a:=h.at (x:=x) (by omega) (by omega)
  obtain ⟨a1,a2,a3,a4,a5,a6,a7,a8,a9⟩:=a
  simp (disch:=omega) [Qe,B64,(QT hc a4 a3).2,(QT hc a5 a3).2,(QT hc a6 a3).2,(QT hc a7 a3).2,hq.1.1,hq.1.2,hq.2];try omega
 ·have a:=h.at (x:=x) (by omega) (by omega)
  obtain ⟨a1,a2,a3,a4,a5,a6,a7,a8,a9⟩:=a
  by_cases q1:ix (rx m.f.s.cs (ix m.f.ar (ix m.u x))) (ix m.j x)=ix m.f.s.id (ix m.f.ob x)
  case neg=>simp (disch:=omega) [Qe,B64,(QT hc a4 a3).2,(QT hc a5 a3).2,(QT hc a6 a3).2,(QT hc a7 a3).2,q1];try omega
  by_cases q2:ix (rx m.f.s.cs (ix m.u (ix m.f.ob x))) (ix m.j x)=ix m.f.s.id (ix m.f.ob x)
  case neg=>simp (disch:=omega) [Qe,B64,(QT hc a4 a3).2,(QT hc a5 a3).2,(QT hc a6 a3).2,(QT hc a7 a3).2,q1,q2];try omega
  have q3:¬ ix (rx m.f.s.cs (ix m.f.ar (ix m.j x))) (ix m.j x)=ix (rx m.f.s.cs (ix m.j (ix m.f.ob x))) (ix m.j x):=fun q=>hq ⟨⟨q1,q2⟩,q⟩
  simp (disch:=omega) [Qe,B64,(QT hc a4 a3).2,(QT hc a5 a3).2,(QT hc a6 a3).2,(QT hc a7 a3).2,q1,q2,q3];try omega
 ·rw [Qz (show ¬ m.Is from fun q=>hx fun x hi=>⟨q.l1 x hi,q.l2 x hi⟩)]
 rw [QN (show m.Is from ⟨h,fun x hi=>(q x hi).1,fun x hi=>(q x hi).2⟩)]
theorem e_l16Is (m:Mnd):Q3y m=some (bo m.Is):=by
 unfold Q3y Q3b Q2M
 rw [e_l06Is]
 by_cases h:m.f.Is
 case neg=>rw [Qz h,Qz (show ¬ m.Is from fun q=>h q.pre.f)];simp
 by_cases e:m.f.s=m.f.t
 case neg=>rw [QN h,Qz e,Qz (show ¬ m.Is from fun q=>e q.pre.e)];simp
 simp only [QN h,QN e,Option.bind_some,not_true_eq_false,if_false,Bool.not_true,Bool.false_eq_true,Q6A h.s,e_l06Then h h e.symm,Q4A (mpara1 h e),Q4A (mpara2 h e)]
 by_cases n1:NatT (Q2D m.f.s) m.f m.u
 case neg=>rw [Qz n1,Qz (show ¬ m.Is from fun q=>n1 q.pre.n1)];simp
 by_cases n2:NatT (Q2T m.f m.f) m.f m.j
 case neg=>rw [QN n1,Qz n2,Qz (show ¬ m.Is from fun q=>n2 q.pre.n2)];simp
 simp [QN n1,QN n2,e_l16Laws (m:=m) ⟨h,e,n1,n2⟩]
theorem e_isMonad (m:Mnd):Q1e m=some (bo m.Is):=by
 unfold Q1e
 rw [Q3S]
 by_cases h:m.f.Is
 case neg=>rw [Qz h,Qz (show ¬ m.Is from fun q=>h q.pre.f)];simp
 rw [Q56 h.s]
 by_cases e:m.f.s=m.f.t
 case neg=>rw [QN h,Qz e,Qz (show ¬ m.Is from fun q=>e q.pre.e)];simp
 simp only [QN h,QN e,Option.bind_some,not_true_eq_false,if_false,Bool.not_true,Bool.false_eq_true,Q8D h.s,e_Fthen h h e.symm]
 rw [Q6z _ (by simp)]
 by_cases hn:NatT (Q2D m.f.s) m.f m.u∧NatT (Q2T m.f m.f) m.f m.j
 case neg =>
  rw [Qz (show ¬ m.Is from fun q=>hn ⟨q.pre.n1,q.pre.n2⟩),Qz (show ¬ ∀ t∈[(⟨Q2D m.f.s,m.f,m.u⟩:Tra),⟨Q2T m.f m.f,m.f,m.j⟩],t.Is from fun q=>hn ⟨(Q8y (mpara1 h e)).1 (q _ (by simp)),(Q8y (mpara2 h e)).1 (q _ (by simp))⟩)]
  simp
 obtain ⟨n1,n2⟩:=hn
 rw [QN (show ∀ t∈[(⟨Q2D m.f.s,m.f,m.u⟩:Tra),⟨Q2T m.f m.f,m.f,m.j⟩],t.Is by
  intro t ht
  simp only [List.mem_cons,List.not_mem_nil,or_false] at ht
  rcases ht with rfl|rfl
  ·exact (Q8y (mpara1 h e)).2 n1
  exact (Q8y (mpara2 h e)).2 n2)]
 simp [Q8E (m:=m) ⟨h,e,n1,n2⟩]
end Go.Vc.T
namespace Go.Vc.T
open Go Go.Vc Go.Proofs
abbrev Ar (c:Cat) (f x y:Int):Prop:=(0≤f∧f<(c.fr.length:Int))∧ix c.fr f=x∧ix c.to f=y
theorem Ar.two {c:Cat} (hc:c.Is) {f g x y z:Int} (h1:Ar c f x y) (h2:Ar c g y z):Ar c (ix (rx c.cs f) g) x z:=by
 have:=hc.two h1.1 h2.1 (by rw [h1.2.2,h2.2.1])
 exact ⟨this.1,by rw [this.2.1,h1.2.1],by rw [this.2.2,h2.2.2]⟩
theorem Ar.thn {c:Cat} (hc:c.Is) {f g x y z:Int} (h1:Ar c f x y) (h2:Ar c g y z):QG c f g=some (ix (rx c.cs f) g)∧Qo c f g=some (ix (rx c.cs f) g):=QT hc h1.1 h2.1
theorem Mnd.Pre.Ao {m:Mnd} (h:m.Pre) {x:Int} (hx:0≤x∧x<(m.f.ob.length:Int)):0≤ix m.f.ob x∧ix m.f.ob x<(m.f.ob.length:Int):=h.ob hx.1 hx.2
theorem Mnd.Pre.Au {m:Mnd} (h:m.Pre) {c:Cat} (e:m.f.s=c) {x:Int} (hx:0≤x∧x<(m.f.ob.length:Int)):Ar c (ix m.u x) x (ix m.f.ob x):=by subst e;exact h.unit hx.1 hx.2
theorem Mnd.Pre.Aj {m:Mnd} (h:m.Pre) {c:Cat} (e:m.f.s=c) {x:Int} (hx:0≤x∧x<(m.f.ob.length:Int)):Ar c (ix m.j x) (ix m.f.ob (ix m.f.ob x)) (ix m.f.ob x):=by subst e;exact h.join hx.1 hx.2
theorem Mnd.Pre.Aa {m:Mnd} (h:m.Pre) {c:Cat} (e:m.f.s=c) {f x y:Int} (hf:Ar c f x y):Ar c (ix m.f.ar f) (ix m.f.ob x) (ix m.f.ob y):=by
 subst e
 have:=h.ar hf.1.1 hf.1.2
 exact ⟨this.1,by rw [this.2.1,hf.2.1],by rw [this.2.2,hf.2.2]⟩
end Go.Vc.T
namespace Go.Vc.T
open Go Go.Vc Go.Proofs
noncomputable def homL (c:Cat) (x y:Int):List Int:=flt c.fr.length fun a=>ix c.fr a=x∧ix c.to a=y
theorem homL_mem {c:Cat} {x y:Int}:∀ f∈homL c x y,Ar c f x y:=by
 intro f hf
 obtain ⟨i,h1,h2,rfl⟩:=mem_flt.1 hf
 exact ⟨by omega,h2⟩
theorem Q68 (c:Cat) (x y:Int):(homL c x y).length≤c.fr.length:=flt_len _ _
theorem e_homs {c:Cat} (h:c.Is) (x y:Int):Q30 c x y=some (homL c x y)∧QR c x y=some (homL c x y):=⟨by rw [e_l02Hom,e_hom h];rfl,e_hom h x y⟩
end Go.Vc.T
namespace Go.Vc.T
open Go Go.Vc Go.Proofs
noncomputable def Q2r (list_:List (List Int)) (i_:Int):Option (List Int) :=
 (QH (σ:=List Int × Int) (ε:=List Int) (fun s7 =>
  if s7.2<(list_.length:Int) then
   ass (0≤s7.2∧s7.2<(list_.length:Int)) <|
   ass (0≤i_∧i_<((rx list_ s7.2).length:Int)) <|
   ass ((s7.1++[ix (rx list_ s7.2) i_]).length≤1073741824) <|
   ass (B64 (s7.2+1)) <|
   some (Ctl.next (s7.1++[ix (rx list_ s7.2) i_],s7.2+1))
  else
   some (Ctl.ret s7.1)) fuel ([],0)).bind fun b1 =>
 some b1
theorem Q5U (list_:List (List Int)) (i_:Int) (r:List Int) (h:Q2r list_ i_=some r):Contract Tryz.prog 66 [.lst true 1 (Ls list_),.val (.int .i64 i_)] (.lst true 1 (Is r)):=by
 refine Qi (rvs:=[.tmp 4]) (rs:=[.lst true 1 (Is r)]) Tryz.func66 rfl rfl rfl rfl (by simp [Tryz.f66]) fun F hN hP=>?_
 unfold Q2r at h
 refine Q6 ?_
 refine runQ hN fun K hK=>?_
 simp [-Q0,-Q8,-Q3,-Q9,-Q4,eL,eI,Q1]
 repeat with_reducible refine sdQ ?_
 refine hK _ ?_;clear hK K
 refine tn ?_
 refine Qa (st':=⟨[(0,.lst true 1 (Ls list_)),(1,.val (.int .i64 i_))],[],0⟩) (Wk.r1 [] (by simp [hP,hhOk,back,UA,U1,IA,I1,LA,L1,BA,B1,EA,E1,E2,eB,eI,eL])) ?_
 refine Q6 ?_
 refine runQ hN fun K hK=>?_
 simp [-Q0,-Q8,-Q3,-Q9,-Q4,eL,eI,Q1]
 repeat with_reducible refine sdQ ?_
 refine hK _ ?_;clear hK K
 refine tn ?_
 refine Qa (st':=⟨[(0,.lst true 1 (Ls list_)),(1,.val (.int .i64 i_)),(5,.own 0 0 0)],[(0,.mix 1 [])],1⟩) (Wk.r1 [(0,0)] (by simp [hP,hhOk,back,UA,U1,IA,I1,LA,L1,BA,B1,EA,E1,E2,eB,eI,eL])) ?_
 refine Q6 ?_
 refine Q6 ?_
 refine runQ hN fun K hK=>?_
 simp [-Q0,-Q8,-Q3,-Q9,-Q4,eL,eI,Q1]
 repeat with_reducible refine sdQ ?_
 refine hK _ ?_;clear hK K
 refine tn ?_
 refine Qa (st':=⟨[(1,.val (.int .i64 i_)),(5,.own 0 0 0),(9,.lst true 1 (Ls list_)),(10,.val (.int .i64 (list_.length:Int))),(11,.val (.int .i64 0))],[(0,.mix 1 [])],1⟩) (Wk.r1 [(0,0)] (by simp [hP,hhOk,back,UA,U1,IA,I1,LA,L1,BA,B1,EA,E1,E2,eB,eI,eL])) ?_
 replace h:=bind_some h
 obtain ⟨e1,h,h1⟩:=h
 refine Qm (fun b1:List Int=>⟨[(5,.own 0 0 b1.length)],[(0,.row 1 (Is b1))],1⟩) (fun b1=>b1=e1) ?_ ?_
 ·refine Qf ?_
  refine Qy h (fun s7:List Int × Int=>⟨[(1,.val (.int .i64 i_)),(5,.own 0 0 s7.1.length),(9,.lst true 1 (Ls list_)),(10,.val (.int .i64 (list_.length:Int))),(11,.val (.int .i64 s7.2))],[(0,.row 1 (Is s7.1))],1⟩) (Q3h ⟨[(1,.val (.int .i64 i_)),(5,.own 0 0 0),(9,.lst true 1 (Ls list_)),(10,.val (.int .i64 (list_.length:Int))),(11,.val (.int .i64 0))],[(0,.row 1 (Is []))],1⟩ (Wk.nils [] (by simp) (by simp) (by simp [nlA]) (by simp [entN,nlL,nlA,UA,U1,IA,I1,LA,L1,BA,B1,EA,E1,E2,eB,eI,eL]) (by simp)) (Wk.r1 [(0,0)] (by simp [hP,hhOk,back,UA,U1,IA,I1,LA,L1,BA,B1,EA,E1,E2,eB,eI,eL]))) ?_
  clear h
  intro k7 s7 c7 h hk7
  refine Q6 ?_
  refine runQ hN fun K hK=>?_
  simp [-Q0,-Q8,-Q3,-Q9,-Q4,eL,eI,Q1]
  repeat with_reducible refine sdQ ?_
  refine hK _ ?_;clear hK K
  refine tn ?_
  refine Qa (st':=⟨[(1,.val (.int .i64 i_)),(5,.own 0 0 s7.1.length),(9,.lst true 1 (Ls list_)),(10,.val (.int .i64 (list_.length:Int))),(11,.val (.int .i64 s7.2)),(12,.val (.bool (decide (s7.2<(list_.length:Int)))))],[(0,.row 1 (Is s7.1))],1⟩) (Wk.r1 [(0,0)] (by simp [hP,hhOk,back,UA,U1,IA,I1,LA,L1,BA,B1,EA,E1,E2,eB,eI,eL])) ?_
  refine Q6 ?_
  refine Qg rfl (fun g=>?_) fun g=>?_
  ·have g8:s7.2<(list_.length:Int):=gQ
   clear g
   replace h:=if_l g8 h
   refine Qh ?_
   refine tn ?_
   refine Q6 ?_
   refine Qf ?_
   refine Q6 ?_
   refine runQ hN fun K hK=>?_
   replace h:=Q7 h
   obtain ⟨a9,h⟩:=h
   simp [-Q0,-Q8,-Q3,-Q9,-Q4,eL,eI,Q1,at_L a9]
   repeat with_reducible refine sdQ ?_
   refine hK _ ?_;clear hK K
   refine tn ?_
   refine Qa (st':=⟨[(1,.val (.int .i64 i_)),(5,.own 0 0 s7.1.length),(7,.lst true 1 (Is (rx list_ s7.2))),(9,.lst true 1 (Ls list_)),(10,.val (.int .i64 (list_.length:Int))),(11,.val (.int .i64 s7.2))],[(0,.row 1 (Is s7.1))],1⟩) (Wk.r1 [(0,0)] (by simp [hP,hhOk,back,UA,U1,IA,I1,LA,L1,BA,B1,EA,E1,E2,eB,eI,eL])) ?_
   refine runQ hN fun K hK=>?_
   replace h:=Q7 h
   obtain ⟨a10,h⟩:=h
   replace h:=Q7 h
   obtain ⟨a11,h⟩:=h
   try simp only [List.length_append,List.length_cons,List.length_nil] at a11
   simp [-Q0,-Q8,-Q3,-Q9,-Q4,eL,eI,Q1,at_I a10,a11]
   repeat with_reducible refine sdQ ?_
   refine hK _ ?_;clear hK K
   refine bn ?_
   refine tn ?_
   refine Qa (st':=⟨[(1,.val (.int .i64 i_)),(5,.own 0 0 ((s7.1++[ix (rx list_ s7.2) i_]).length)),(9,.lst true 1 (Ls list_)),(10,.val (.int .i64 (list_.length:Int))),(11,.val (.int .i64 s7.2))],[(0,.row 1 (Is (s7.1++[ix (rx list_ s7.2) i_])))],1⟩) (Wk.r1 [(2,0)] (by simp [hP,hhOk,back,UA,U1,IA,I1,LA,L1,BA,B1,EA,E1,E2,eB,eI,eL])) ?_
   refine runQ hN fun K hK=>?_
   replace h:=Q7 h
   obtain ⟨a12,h⟩:=h
   simp [-Q0,-Q8,-Q3,-Q9,-Q4,eL,eI,Q1,Qw a12]
   repeat with_reducible refine sdQ ?_
   refine hK _ ?_;clear hK K
   cases h
   exact rn (s':=(s7.1++[ix (rx list_ s7.2) i_],s7.2+1)) hk7 (Wk.r1 [(0,0)] (by simp [hP,hhOk,back,UA,U1,IA,I1,LA,L1,BA,B1,EA,E1,E2,eB,eI,eL]))
  have g8:¬ (s7.2<(list_.length:Int)):=gQ
  clear g
  replace h:=if_r g8 h
  refine Qp ?_
  refine tx ?_
  refine lx ?_
  refine bh ?_
  cases h
  exact jn (b:=s7.1) hk7 (Wk.r1 [(0,0)] (by simp [hP,hhOk,back,UA,U1,IA,I1,LA,L1,BA,B1,EA,E1,E2,eB,eI,eL]))
 intro b1 hb1
 have h:=h1
 rw [← hb1] at h
 clear h1
 try dsimp only at h
 refine Q6 ?_
 refine runQ hN fun K hK=>?_
 simp [-Q0,-Q8,-Q3,-Q9,-Q4,eL,eI,Q1]
 repeat with_reducible refine sdQ ?_
 refine hK _ ?_;clear hK K
 refine tn ?_
 refine Qa (st':=⟨[(4,.own 0 0 b1.length)],[(0,.row 1 (Is b1))],1⟩) (Wk.r1 [(0,0)] (by simp [hP,hhOk,back,UA,U1,IA,I1,LA,L1,BA,B1,EA,E1,E2,eB,eI,eL])) ?_
 refine Qk ?_
 have hr:=Option.some.inj h
 rw [← hr]
 refine ⟨_,(.tmp .nil),?_⟩
 refine ⟨(.one rfl rfl .nil),[.lst true 1 (Is b1)],[0],by simp [UA,U1,IA,I1,LA,L1,BA,B1,EA,E1,E2,eB,eI,eL],by simp,(UpL.refl _)⟩
end Go.Vc.T
namespace Go.Vc.T
open Go Go.Vc Go.Proofs
noncomputable def Q39 (lists_:List (List Int)):Option ByteArray :=
 (QH (σ:=List Int × Int) (ε:=List Int) (fun s16 =>
  if s16.2<(lists_.length:Int) then
   ass (0≤s16.2∧s16.2<(lists_.length:Int)) <|
   (QH (σ:=List Int × Int) (ε:=List Int) (fun s24 =>
    if s24.2<((rx lists_ s16.2).length:Int) then
     ass (0≤s24.2∧s24.2<((rx lists_ s16.2).length:Int)) <|
     ass ((s24.1++[IntKind.u8.wrap (ix (rx lists_ s16.2) s24.2)]).length≤1073741824) <|
     ass (B64 (s24.2+1)) <|
     some (Ctl.next (s24.1++[IntKind.u8.wrap (ix (rx lists_ s16.2) s24.2)],s24.2+1))
    else
     some (Ctl.ret s24.1)) fuel (s16.1,0)).bind fun b19 =>
   ass ((b19++[255]).length≤1073741824) <|
   ass (B64 (s16.2+1)) <|
   some (Ctl.next (b19++[255],s16.2+1))
  else
   some (Ctl.ret s16.1)) fuel ([],0)).bind fun b1 =>
 some (Q1W b1)
theorem Q5r (lists_:List (List Int)) (r:ByteArray) (h:Q39 lists_=some r):Contract Tryz.prog 53 [.lst true 1 (Ls lists_)] (.val (.string r)):=by
 refine Qi (rvs:=[.tmp 2]) (rs:=[.val (.string r)]) Tryz.func53 rfl rfl rfl rfl (by simp [Tryz.f53]) fun F hN hP=>?_
 unfold Q39 at h
 refine Q6 ?_
 refine runQ hN fun K hK=>?_
 simp [-Q0,-Q8,-Q3,-Q9,-Q4,eL,eI,Q1]
 repeat with_reducible refine sdQ ?_
 refine hK _ ?_;clear hK K
 refine tn ?_
 refine Qa (st':=⟨[(0,.lst true 1 (Ls lists_))],[],0⟩) (Wk.r1 [] (by simp [hP,hhOk,back,UA,U1,IA,I1,LA,L1,BA,B1,EA,E1,E2,eB,eI,eL])) ?_
 refine Q6 ?_
 refine runQ hN fun K hK=>?_
 simp [-Q0,-Q8,-Q3,-Q9,-Q4,eL,eI,Q1]
 repeat with_reducible refine sdQ ?_
 refine hK _ ?_;clear hK K
 refine tn ?_
 refine Qa (st':=⟨[(0,.lst true 1 (Ls lists_)),(3,.own 0 0 0)],[(0,.mix 1 [])],1⟩) (Wk.r1 [(0,0)] (by simp [hP,hhOk,back,UA,U1,IA,I1,LA,L1,BA,B1,EA,E1,E2,eB,eI,eL])) ?_
 refine Q6 ?_
 refine Q6 ?_
 refine runQ hN fun K hK=>?_
 simp [-Q0,-Q8,-Q3,-Q9,-Q4,eL,eI,Q1]
 repeat with_reducible refine sdQ ?_
 refine hK _ ?_;clear hK K
 refine tn ?_
 refine Qa (st':=⟨[(3,.own 0 0 0),(9,.lst true 1 (Ls lists_)),(10,.val (.int .i64 (lists_.length:Int))),(11,.val (.int .i64 0))],[(0,.mix 1 [])],1⟩) (Wk.r1 [(0,0)] (by simp [hP,hhOk,back,UA,U1,IA,I1,LA,L1,BA,B1,EA,E1,E2,eB,eI,eL])) ?_
 replace h:=bind_some h
 obtain ⟨e1,h,h1⟩:=h
 refine Qm (fun b1:List Int=>⟨[(3,.own 0 0 b1.length)],[(0,.row 1 (Us b1))],1⟩) (fun b1=>b1=e1) ?_ ?_
 ·refine Qf ?_
  refine Qy h (fun s16:List Int × Int=>⟨[(3,.own 0 0 s16.1.length),(9,.lst true 1 (Ls lists_)),(10,.val (.int .i64 (lists_.length:Int))),(11,.val (.int .i64 s16.2))],[(0,.row 1 (Us s16.1))],1⟩) (Q3h ⟨[(3,.own 0 0 0),(9,.lst true 1 (Ls lists_)),(10,.val (.int .i64 (lists_.length:Int))),(11,.val (.int .i64 0))],[(0,.row 1 (Us []))],1⟩ (Wk.nils [] (by simp) (by simp) (by simp [nlA]) (by simp [entN,nlL,nlA,UA,U1,IA,I1,LA,L1,BA,B1,EA,E1,E2,eB,eI,eL]) (by simp)) (Wk.r1 [(0,0)] (by simp [hP,hhOk,back,UA,U1,IA,I1,LA,L1,BA,B1,EA,E1,E2,eB,eI,eL]))) ?_
  clear h
  intro k16 s16 c16 h hk16
  refine Q6 ?_
  refine runQ hN fun K hK=>?_
  simp [-Q0,-Q8,-Q3,-Q9,-Q4,eL,eI,Q1]
  repeat with_reducible refine sdQ ?_
  refine hK _ ?_;clear hK K
  refine tn ?_
  refine Qa (st':=⟨[(3,.own 0 0 s16.1.length),(9,.lst true 1 (Ls lists_)),(10,.val (.int .i64 (lists_.length:Int))),(11,.val (.int .i64 s16.2)),(12,.val (.bool (decide (s16.2<(lists_.length:Int)))))],[(0,.row 1 (Us s16.1))],1⟩) (Wk.r1 [(0,0)] (by simp [hP,hhOk,back,UA,U1,IA,I1,LA,L1,BA,B1,EA,E1,E2,eB,eI,eL])) ?_
  refine Q6 ?_
  refine Qg rfl (fun g=>?_) fun g=>?_
  ·have g17:s16.2<(lists_.length:Int):=gQ
   clear g
   replace h:=if_l g17 h
   refine Qh ?_
   refine tn ?_
   refine Q6 ?_
   refine Qf ?_
   refine Q6 ?_
   refine runQ hN fun K hK=>?_
   replace h:=Q7 h
   obtain ⟨a18,h⟩:=h
   simp [-Q0,-Q8,-Q3,-Q9,-Q4,eL,eI,Q1,at_L a18]
   repeat with_reducible refine sdQ ?_
   refine hK _ ?_;clear hK K
   refine tn ?_
   refine Qa (st':=⟨[(3,.own 0 0 s16.1.length),(5,.lst true 1 (Is (rx lists_ s16.2))),(9,.lst true 1 (Ls lists_)),(10,.val (.int .i64 (lists_.length:Int))),(11,.val (.int .i64 s16.2))],[(0,.row 1 (Us s16.1))],1⟩) (Wk.r1 [(0,0)] (by simp [hP,hhOk,back,UA,U1,IA,I1,LA,L1,BA,B1,EA,E1,E2,eB,eI,eL])) ?_
   refine Q6 ?_
   refine Q6 ?_
   refine runQ hN fun K hK=>?_
   simp [-Q0,-Q8,-Q3,-Q9,-Q4,eL,eI,Q1]
   repeat with_reducible refine sdQ ?_
   refine hK _ ?_;clear hK K
   refine tn ?_
   refine Qa (st':=⟨[(3,.own 0 0 s16.1.length),(9,.lst true 1 (Ls lists_)),(10,.val (.int .i64 (lists_.length:Int))),(11,.val (.int .i64 s16.2)),(15,.lst true 1 (Is (rx lists_ s16.2))),(16,.val (.int .i64 ((rx lists_ s16.2).length:Int))),(17,.val (.int .i64 0))],[(0,.row 1 (Us s16.1))],1⟩) (Wk.r1 [(0,0)] (by simp [hP,hhOk,back,UA,U1,IA,I1,LA,L1,BA,B1,EA,E1,E2,eB,eI,eL])) ?_
   replace h:=bind_some h
   obtain ⟨e19,h,h19⟩:=h
   refine Qm (fun b19:List Int=>⟨[(3,.own 0 0 b19.length),(9,.lst true 1 (Ls lists_)),(10,.val (.int .i64 (lists_.length:Int))),(11,.val (.int .i64 s16.2))],[(0,.row 1 (Us b19))],1⟩) (fun b19=>b19=e19) ?_ ?_
   ·refine Qf ?_
    refine Qy h (fun s24:List Int × Int=>⟨[(3,.own 0 0 s24.1.length),(9,.lst true 1 (Ls lists_)),(10,.val (.int .i64 (lists_.length:Int))),(11,.val (.int .i64 s16.2)),(15,.lst true 1 (Is (rx lists_ s16.2))),(16,.val (.int .i64 ((rx lists_ s16.2).length:Int))),(17,.val (.int .i64 s24.2))],[(0,.row 1 (Us s24.1))],1⟩) (Wk.r1 [(0,0)] (by simp [hP,hhOk,back,UA,U1,IA,I1,LA,L1,BA,B1,EA,E1,E2,eB,eI,eL])) ?_
    clear h
    intro k24 s24 c24 h hk24
    refine Q6 ?_
    refine runQ hN fun K hK=>?_
    simp [-Q0,-Q8,-Q3,-Q9,-Q4,eL,eI,Q1]
    repeat with_reducible refine sdQ ?_
    refine hK _ ?_;clear hK K
    refine tn ?_
    refine Qa (st':=⟨[(3,.own 0 0 s24.1.length),(9,.lst true 1 (Ls lists_)),(10,.val (.int .i64 (lists_.length:Int))),(11,.val (.int .i64 s16.2)),(15,.lst true 1 (Is (rx lists_ s16.2))),(16,.val (.int .i64 ((rx lists_ s16.2).length:Int))),(17,.val (.int .i64 s24.2)),(18,.val (.bool (decide (s24.2<((rx lists_ s16.2).length:Int)))))],[(0,.row 1 (Us s24.1))],1⟩) (Wk.r1 [(0,0)] (by simp [hP,hhOk,back,UA,U1,IA,I1,LA,L1,BA,B1,EA,E1,E2,eB,eI,eL])) ?_
    refine Q6 ?_
    refine Qg rfl (fun g=>?_) fun g=>?_
    ·have g25:s24.2<((rx lists_ s16.2).length:Int):=gQ
     clear g
     replace h:=if_l g25 h
     refine Qh ?_
     refine tn ?_
     refine Q6 ?_
     refine Qf ?_
     refine Q6 ?_
     refine runQ hN fun K hK=>?_
     replace h:=Q7 h
     obtain ⟨a26,h⟩:=h
     simp [-Q0,-Q8,-Q3,-Q9,-Q4,eL,eI,Q1,at_I a26]
     repeat with_reducible refine sdQ ?_
     refine hK _ ?_;clear hK K
     refine tn ?_
     refine Qa (st':=⟨[(3,.own 0 0 s24.1.length),(7,.val (.int .i64 (ix (rx lists_ s16.2) s24.2))),(9,.lst true 1 (Ls lists_)),(10,.val (.int .i64 (lists_.length:Int))),(11,.val (.int .i64 s16.2)),(15,.lst true 1 (Is (rx lists_ s16.2))),(16,.val (.int .i64 ((rx lists_ s16.2).length:Int))),(17,.val (.int .i64 s24.2))],[(0,.row 1 (Us s24.1))],1⟩) (Wk.r1 [(0,0)] (by simp [hP,hhOk,back,UA,U1,IA,I1,LA,L1,BA,B1,EA,E1,E2,eB,eI,eL])) ?_
     refine runQ hN fun K hK=>?_
     replace h:=Q7 h
     obtain ⟨a27,h⟩:=h
     try simp only [List.length_append,List.length_cons,List.length_nil] at a27
     simp [-Q0,-Q8,-Q3,-Q9,-Q4,eL,eI,Q1,a27]
     repeat with_reducible refine sdQ ?_
     refine hK _ ?_;clear hK K
     refine bn ?_
     refine tn ?_
     refine Qa (st':=⟨[(3,.own 0 0 ((s24.1++[IntKind.u8.wrap (ix (rx lists_ s16.2) s24.2)]).length)),(9,.lst true 1 (Ls lists_)),(10,.val (.int .i64 (lists_.length:Int))),(11,.val (.int .i64 s16.2)),(15,.lst true 1 (Is (rx lists_ s16.2))),(16,.val (.int .i64 ((rx lists_ s16.2).length:Int))),(17,.val (.int .i64 s24.2))],[(0,.row 1 (Us (s24.1++[IntKind.u8.wrap (ix (rx lists_ s16.2) s24.2)])))],1⟩) (Wk.r1 [(2,0)] (by simp [hP,hhOk,back,UA,U1,IA,I1,LA,L1,BA,B1,EA,E1,E2,eB,eI,eL])) ?_
     refine runQ hN fun K hK=>?_
     replace h:=Q7 h
     obtain ⟨a28,h⟩:=h
     simp [-Q0,-Q8,-Q3,-Q9,-Q4,eL,eI,Q1,Qw a28]
     repeat with_reducible refine sdQ ?_
     refine hK _ ?_;clear hK K
     cases h
     exact rn (s':=(s24.1++[IntKind.u8.wrap (ix (rx lists_ s16.2) s24.2)],s24.2+1)) hk24 (Wk.r1 [(0,0)] (by simp [hP,hhOk,back,UA,U1,IA,I1,LA,L1,BA,B1,EA,E1,E2,eB,eI,eL]))
    have g25:¬ (s24.2<((rx lists_ s16.2).length:Int)):=gQ
    clear g
    replace h:=if_r g25 h
    refine Qp ?_
    refine tx ?_
    refine lx ?_
    refine bh ?_
    cases h
    exact jn (b:=s24.1) hk24 (Wk.r1 [(0,0)] (by simp [hP,hhOk,back,UA,U1,IA,I1,LA,L1,BA,B1,EA,E1,E2,eB,eI,eL]))
   intro b19 hb19
   have h:=h19
   rw [← hb19] at h
   clear h19
   try dsimp only at h
   refine runQ hN fun K hK=>?_
   replace h:=Q7 h
   obtain ⟨a29,h⟩:=h
   try simp only [List.length_append,List.length_cons,List.length_nil] at a29
   simp [-Q0,-Q8,-Q3,-Q9,-Q4,eL,eI,Q1,a29]
   repeat with_reducible refine sdQ ?_
   refine hK _ ?_;clear hK K
   refine bn ?_
   refine tn ?_
   refine Qa (st':=⟨[(3,.own 0 0 ((b19++[255]).length)),(9,.lst true 1 (Ls lists_)),(10,.val (.int .i64 (lists_.length:Int))),(11,.val (.int .i64 s16.2))],[(0,.row 1 (Us (b19++[255])))],1⟩) (Wk.r1 [(2,0)] (by simp [hP,hhOk,back,UA,U1,IA,I1,LA,L1,BA,B1,EA,E1,E2,eB,eI,eL])) ?_
   refine runQ hN fun K hK=>?_
   replace h:=Q7 h
   obtain ⟨a30,h⟩:=h
   simp [-Q0,-Q8,-Q3,-Q9,-Q4,eL,eI,Q1,Qw a30]
   repeat with_reducible refine sdQ ?_
   refine hK _ ?_;clear hK K
   cases h
   exact rn (s':=(b19++[255],s16.2+1)) hk16 (Wk.r1 [(0,0)] (by simp [hP,hhOk,back,UA,U1,IA,I1,LA,L1,BA,B1,EA,E1,E2,eB,eI,eL]))
  have g17:¬ (s16.2<(lists_.length:Int)):=gQ
  clear g
  replace h:=if_r g17 h
  refine Qp ?_
  refine tx ?_
  refine lx ?_
  refine bh ?_
  cases h
  exact jn (b:=s16.1) hk16 (Wk.r1 [(0,0)] (by simp [hP,hhOk,back,UA,U1,IA,I1,LA,L1,BA,B1,EA,E1,E2,eB,eI,eL]))
 intro b1 hb1
 have h:=h1
 rw [← hb1] at h
 clear h1
 try dsimp only at h
 refine Q6 ?_
 refine QV [32] mo (by rw [hN];decide) fun K hK=>?_
 simp [-Q0,-Q8,-Q3,-Q9,-Q4,eL,eI,Q1]
 repeat with_reducible refine sdQ ?_
 refine hK _ ?_;clear hK K
 refine tn ?_
 refine Qa (st':=⟨[(2,.val (.string (Q1W b1)))],[],0⟩) (Wk.r1 [] (by simp [hP,hhOk,back,UA,U1,IA,I1,LA,L1,BA,B1,EA,E1,E2,eB,eI,eL])) ?_
 refine Qk ?_
 have hr:=Option.some.inj h
 rw [← hr]
 refine ⟨_,(.tmp .nil),?_⟩
 refine ⟨(.one rfl rfl .nil),[.val (.string (Q1W b1))],[],by simp [UA,U1,IA,I1,LA,L1,BA,B1,EA,E1,E2,eB,eI,eL],by simp,(UpL.refl _)⟩
end Go.Vc.T
namespace Go.Vc.T
open Go Go.Vc Go.Proofs
noncomputable def Q2s (list_:List (List Int)):Option (List (ByteArray × Int)) :=
 (QH (σ:=(List (ByteArray × Int)) × Int) (ε:=List (ByteArray × Int)) (fun s7 =>
  if s7.2<(list_.length:Int) then
   ass (0≤s7.2∧s7.2<(list_.length:Int)) <|
   (Q39 [rx list_ s7.2]).bind fun v10 =>
   ass (s7.1.length<1099511627776) <|
   ass (B64 (s7.2+1)) <|
   some (Ctl.next (tset v10 s7.2 s7.1,s7.2+1))
  else
   some (Ctl.ret s7.1)) fuel ([],0)).bind fun b1 =>
 some b1
theorem Q5V (list_:List (List Int)) (r:List (ByteArray × Int)) (h:Q2s list_=some r):FContract Tryz.prog false 52 [.lst true 1 (Ls list_)] (.cmap .str (Msi r)):=by
 refine Q57 false (ts:=[2]) (rs:=[.cmap .str (Msi r)]) Tryz.func52 rfl rfl rfl rfl (by simp [Tryz.f52]) fun F hN hP=>?_
 unfold Q2s at h
 refine Q6 ?_
 refine QV [] mo (by rw [hN];decide) fun K hK=>?_
 simp [-Q0,-Q8,-Q3,-Q9,-Q4,eL,eI,Q1]
 repeat with_reducible refine sdQ ?_
 refine hK _ ?_;clear hK K
 refine tn ?_
 refine Qa (st':=⟨[(0,.lst true 1 (Ls list_))],[],0⟩) (Wk.r1 [] (by simp [hP,hhOk,back,UA,U1,IA,I1,LA,L1,BA,B1,EA,E1,E2,eB,eI,eL])) ?_
 refine Q6 ?_
 refine QV [] mo (by rw [hN];decide) fun K hK=>?_
 simp [-Q0,-Q8,-Q3,-Q9,-Q4,eL,eI,Q1]
 repeat with_reducible refine sdQ ?_
 refine hK _ ?_;clear hK K
 refine tn ?_
 refine Qa (st':=⟨[(0,.lst true 1 (Ls list_)),(3,.mp 0)],[(0,.mapE .str (Msi []))],1⟩) (Wk.r1 [(0,0)] (by simp [hP,hhOk,back,UA,U1,IA,I1,LA,L1,BA,B1,EA,E1,E2,eB,eI,eL])) ?_
 refine Q6 ?_
 refine Q6 ?_
 refine QV [] mo (by rw [hN];decide) fun K hK=>?_
 simp [-Q0,-Q8,-Q3,-Q9,-Q4,eL,eI,Q1]
 repeat with_reducible refine sdQ ?_
 refine hK _ ?_;clear hK K
 refine tn ?_
 refine Qa (st':=⟨[(3,.mp 0),(7,.lst true 1 (Ls list_)),(8,.val (.int .i64 (list_.length:Int))),(9,.val (.int .i64 0))],[(0,.mapE .str (Msi []))],1⟩) (Wk.r1 [(0,0)] (by simp [hP,hhOk,back,UA,U1,IA,I1,LA,L1,BA,B1,EA,E1,E2,eB,eI,eL])) ?_
 replace h:=bind_some h
 obtain ⟨e1,h,h1⟩:=h
 refine Qm (fun b1:List (ByteArray × Int)=>⟨[(3,.mp 0)],[(0,.mapE .str (Msi b1))],1⟩) (fun b1=>b1=e1) ?_ ?_
 ·refine Qf ?_
  refine Qy h (fun s7:(List (ByteArray × Int)) × Int=>⟨[(3,.mp 0),(7,.lst true 1 (Ls list_)),(8,.val (.int .i64 (list_.length:Int))),(9,.val (.int .i64 s7.2))],[(0,.mapE .str (Msi s7.1))],1⟩) (Wk.r1 [(0,0)] (by simp [hP,hhOk,back,UA,U1,IA,I1,LA,L1,BA,B1,EA,E1,E2,eB,eI,eL])) ?_
  clear h
  intro k7 s7 c7 h hk7
  refine Q6 ?_
  refine QV [] mo (by rw [hN];decide) fun K hK=>?_
  simp [-Q0,-Q8,-Q3,-Q9,-Q4,eL,eI,Q1]
  repeat with_reducible refine sdQ ?_
  refine hK _ ?_;clear hK K
  refine tn ?_
  refine Qa (st':=⟨[(3,.mp 0),(7,.lst true 1 (Ls list_)),(8,.val (.int .i64 (list_.length:Int))),(9,.val (.int .i64 s7.2)),(10,.val (.bool (decide (s7.2<(list_.length:Int)))))],[(0,.mapE .str (Msi s7.1))],1⟩) (Wk.r1 [(0,0)] (by simp [hP,hhOk,back,UA,U1,IA,I1,LA,L1,BA,B1,EA,E1,E2,eB,eI,eL])) ?_
  refine Q6 ?_
  refine Qg rfl (fun g=>?_) fun g=>?_
  ·have g8:s7.2<(list_.length:Int):=gQ
   clear g
   replace h:=if_l g8 h
   refine Qh ?_
   refine tn ?_
   refine Q6 ?_
   refine Qf ?_
   refine Q6 ?_
   refine QV [] mo (by rw [hN];decide) fun K hK=>?_
   replace h:=Q7 h
   obtain ⟨a9,h⟩:=h
   simp [-Q0,-Q8,-Q3,-Q9,-Q4,eL,eI,Q1,at_L a9]
   repeat with_reducible refine sdQ ?_
   refine hK _ ?_;clear hK K
   refine tn ?_
   refine Qa (st':=⟨[(3,.mp 0),(4,.val (.int .i64 s7.2)),(5,.lst true 1 (Is (rx list_ s7.2))),(7,.lst true 1 (Ls list_)),(8,.val (.int .i64 (list_.length:Int))),(9,.val (.int .i64 s7.2))],[(0,.mapE .str (Msi s7.1))],1⟩) (Wk.r1 [(0,0)] (by simp [hP,hhOk,back,UA,U1,IA,I1,LA,L1,BA,B1,EA,E1,E2,eB,eI,eL])) ?_
   refine QV [] mo (by rw [hN];decide) fun K hK=>?_
   simp [-Q0,-Q8,-Q3,-Q9,-Q4,eL,eI,Q1]
   repeat with_reducible refine sdQ ?_
   replace h:=bind_some h
   obtain ⟨v10,hv10,h⟩:=h
   refine Q1h (fz:=[]) (Q5r _ v10 hv10) (.cons (.lits (es:=_) rfl (.cons rfl (.cons .lst .nil) .nil) rfl) .nil) ?_
   replace h:=Q7 h
   obtain ⟨a11,h⟩:=h
   simp [-Q0,-Q8,-Q3,-Q9,-Q4,unk,unA,unE,unT,unC,flat,eL,eI,Q1,a11]
   repeat with_reducible refine sdQ ?_
   refine hK _ ?_;clear hK K
   refine bn ?_
   refine tn ?_
   refine Qa (st':=⟨[(3,.mp 0),(7,.lst true 1 (Ls list_)),(8,.val (.int .i64 (list_.length:Int))),(9,.val (.int .i64 s7.2))],[(0,.mapE .str (Msi (tset v10 s7.2 s7.1)))],1⟩) (Wk.r1 [(0,0)] (by simp [hP,hhOk,back,UA,U1,IA,I1,LA,L1,BA,B1,EA,E1,E2,eB,eI,eL])) ?_
   refine QV [] mo (by rw [hN];decide) fun K hK=>?_
   replace h:=Q7 h
   obtain ⟨a12,h⟩:=h
   simp [-Q0,-Q8,-Q3,-Q9,-Q4,eL,eI,Q1,Qw a12]
   repeat with_reducible refine sdQ ?_
   refine hK _ ?_;clear hK K
   cases h
   exact rn (s':=(tset v10 s7.2 s7.1,s7.2+1)) hk7 (Wk.r1 [(0,0)] (by simp [hP,hhOk,back,UA,U1,IA,I1,LA,L1,BA,B1,EA,E1,E2,eB,eI,eL]))
  have g8:¬ (s7.2<(list_.length:Int)):=gQ
  clear g
  replace h:=if_r g8 h
  refine Qp ?_
  refine tx ?_
  refine lx ?_
  refine bh ?_
  cases h
  exact jn (b:=s7.1) hk7 (Wk.r1 [(0,0)] (by simp [hP,hhOk,back,UA,U1,IA,I1,LA,L1,BA,B1,EA,E1,E2,eB,eI,eL]))
 intro b1 hb1
 have h:=h1
 rw [← hb1] at h
 clear h1
 try dsimp only at h
 refine Q6 ?_
 refine QV [] mo (by rw [hN];decide) fun K hK=>?_
 simp [-Q0,-Q8,-Q3,-Q9,-Q4,eL,eI,Q1]
 repeat with_reducible refine sdQ ?_
 refine hK _ ?_;clear hK K
 refine tn ?_
 refine Qa (st':=⟨[(2,.mp 0)],[(0,.mapE .str (Msi b1))],1⟩) (Wk.r1 [(0,0)] (by simp [hP,hhOk,back,UA,U1,IA,I1,LA,L1,BA,B1,EA,E1,E2,eB,eI,eL])) ?_
 refine Qk ?_
 have hr:=Option.some.inj h
 rw [← hr]
 exact (.one (by simp [ownB]) (.mp rfl) .nil)
end Go.Vc.T
namespace Go.Vc.T
open Go Go.Vc Go.Proofs
noncomputable def Q1C (lists_:List (List Int)) (k_:Int):Option (List Int) :=
 (QH (σ:=List Int × Int) (ε:=List Int) (fun s7 =>
  if s7.2<(lists_.length:Int) then
   ass (0≤s7.2∧s7.2<(lists_.length:Int)) <|
   ass (0≤k_∧k_<((rx lists_ s7.2).length:Int)) <|
   ass ((s7.1++[ix (rx lists_ s7.2) k_]).length≤1073741824) <|
   ass (B64 (s7.2+1)) <|
   some (Ctl.next (s7.1++[ix (rx lists_ s7.2) k_],s7.2+1))
  else
   some (Ctl.ret s7.1)) fuel ([],0)).bind fun b1 =>
 some b1
theorem Q4k (lists_:List (List Int)) (k_:Int) (r:List Int) (h:Q1C lists_ k_=some r):Contract Tryz.prog 62 [.lst true 1 (Ls lists_),.val (.int .i64 k_)] (.lst true 1 (Is r)):=by
 refine Qi (rvs:=[.tmp 4]) (rs:=[.lst true 1 (Is r)]) Tryz.func62 rfl rfl rfl rfl (by simp [Tryz.f62]) fun F hN hP=>?_
 unfold Q1C at h
 refine Q6 ?_
 refine runQ hN fun K hK=>?_
 simp [-Q0,-Q8,-Q3,-Q9,-Q4,eL,eI,Q1]
 repeat with_reducible refine sdQ ?_
 refine hK _ ?_;clear hK K
 refine tn ?_
 refine Qa (st':=⟨[(0,.lst true 1 (Ls lists_)),(1,.val (.int .i64 k_))],[],0⟩) (Wk.r1 [] (by simp [hP,hhOk,back,UA,U1,IA,I1,LA,L1,BA,B1,EA,E1,E2,eB,eI,eL])) ?_
 refine Q6 ?_
 refine runQ hN fun K hK=>?_
 simp [-Q0,-Q8,-Q3,-Q9,-Q4,eL,eI,Q1]
 repeat with_reducible refine sdQ ?_
 refine hK _ ?_;clear hK K
 refine tn ?_
 refine Qa (st':=⟨[(0,.lst true 1 (Ls lists_)),(1,.val (.int .i64 k_)),(5,.own 0 0 0)],[(0,.mix 1 [])],1⟩) (Wk.r1 [(0,0)] (by simp [hP,hhOk,back,UA,U1,IA,I1,LA,L1,BA,B1,EA,E1,E2,eB,eI,eL])) ?_
 refine Q6 ?_
 refine Q6 ?_
 refine runQ hN fun K hK=>?_
 simp [-Q0,-Q8,-Q3,-Q9,-Q4,eL,eI,Q1]
 repeat with_reducible refine sdQ ?_
 refine hK _ ?_;clear hK K
 refine tn ?_
 refine Qa (st':=⟨[(0,.lst true 1 (Ls lists_)),(1,.val (.int .i64 k_)),(5,.own 0 0 0),(6,.val (.int .i64 0))],[(0,.mix 1 [])],1⟩) (Wk.r1 [(0,0)] (by simp [hP,hhOk,back,UA,U1,IA,I1,LA,L1,BA,B1,EA,E1,E2,eB,eI,eL])) ?_
 replace h:=bind_some h
 obtain ⟨e1,h,h1⟩:=h
 refine Qm (fun b1:List Int=>⟨[(5,.own 0 0 b1.length)],[(0,.row 1 (Is b1))],1⟩) (fun b1=>b1=e1) ?_ ?_
 ·refine Qf ?_
  refine Qy h (fun s7:List Int × Int=>⟨[(0,.lst true 1 (Ls lists_)),(1,.val (.int .i64 k_)),(5,.own 0 0 s7.1.length),(6,.val (.int .i64 s7.2))],[(0,.row 1 (Is s7.1))],1⟩) (Q3h ⟨[(0,.lst true 1 (Ls lists_)),(1,.val (.int .i64 k_)),(5,.own 0 0 0),(6,.val (.int .i64 0))],[(0,.row 1 (Is []))],1⟩ (Wk.nils [] (by simp) (by simp) (by simp [nlA]) (by simp [entN,nlL,nlA,UA,U1,IA,I1,LA,L1,BA,B1,EA,E1,E2,eB,eI,eL]) (by simp)) (Wk.r1 [(0,0)] (by simp [hP,hhOk,back,UA,U1,IA,I1,LA,L1,BA,B1,EA,E1,E2,eB,eI,eL]))) ?_
  clear h
  intro k7 s7 c7 h hk7
  refine Q6 ?_
  refine Q6 ?_
  refine runQ hN fun K hK=>?_
  simp [-Q0,-Q8,-Q3,-Q9,-Q4,eL,eI,Q1]
  repeat with_reducible refine sdQ ?_
  refine hK _ ?_;clear hK K
  refine tn ?_
  refine Qa (st':=⟨[(0,.lst true 1 (Ls lists_)),(1,.val (.int .i64 k_)),(5,.own 0 0 s7.1.length),(6,.val (.int .i64 s7.2)),(11,.val (.bool (decide (s7.2<(lists_.length:Int)))))],[(0,.row 1 (Is s7.1))],1⟩) (Wk.r1 [(0,0)] (by simp [hP,hhOk,back,UA,U1,IA,I1,LA,L1,BA,B1,EA,E1,E2,eB,eI,eL])) ?_
  refine Qg rfl (fun g=>?_) fun g=>?_
  ·have g8:s7.2<(lists_.length:Int):=gQ
   clear g
   replace h:=if_l g8 h
   refine Qh ?_
   refine tn ?_
   refine Q6 ?_
   refine Qf ?_
   refine runQ hN fun K hK=>?_
   replace h:=Q7 h
   obtain ⟨a9,h⟩:=h
   replace h:=Q7 h
   obtain ⟨a10,h⟩:=h
   replace h:=Q7 h
   obtain ⟨a11,h⟩:=h
   try simp only [List.length_append,List.length_cons,List.length_nil] at a11
   simp [-Q0,-Q8,-Q3,-Q9,-Q4,eL,eI,Q1,at_L a9,at_I a10,a11]
   repeat with_reducible refine sdQ ?_
   refine hK _ ?_;clear hK K
   refine bn ?_
   refine tn ?_
   refine Qa (st':=⟨[(0,.lst true 1 (Ls lists_)),(1,.val (.int .i64 k_)),(5,.own 0 0 ((s7.1++[ix (rx lists_ s7.2) k_]).length)),(6,.val (.int .i64 s7.2))],[(0,.row 1 (Is (s7.1++[ix (rx lists_ s7.2) k_])))],1⟩) (Wk.r1 [(2,0)] (by simp [hP,hhOk,back,UA,U1,IA,I1,LA,L1,BA,B1,EA,E1,E2,eB,eI,eL])) ?_
   refine runQ hN fun K hK=>?_
   replace h:=Q7 h
   obtain ⟨a12,h⟩:=h
   simp [-Q0,-Q8,-Q3,-Q9,-Q4,eL,eI,Q1,Qw a12]
   repeat with_reducible refine sdQ ?_
   refine hK _ ?_;clear hK K
   cases h
   exact rn (s':=(s7.1++[ix (rx lists_ s7.2) k_],s7.2+1)) hk7 (Wk.r1 [(0,0)] (by simp [hP,hhOk,back,UA,U1,IA,I1,LA,L1,BA,B1,EA,E1,E2,eB,eI,eL]))
  have g8:¬ (s7.2<(lists_.length:Int)):=gQ
  clear g
  replace h:=if_r g8 h
  refine Qp ?_
  refine tx ?_
  refine lx ?_
  refine bh ?_
  cases h
  exact jn (b:=s7.1) hk7 (Wk.r1 [(0,0)] (by simp [hP,hhOk,back,UA,U1,IA,I1,LA,L1,BA,B1,EA,E1,E2,eB,eI,eL]))
 intro b1 hb1
 have h:=h1
 rw [← hb1] at h
 clear h1
 try dsimp only at h
 refine Q6 ?_
 refine runQ hN fun K hK=>?_
 simp [-Q0,-Q8,-Q3,-Q9,-Q4,eL,eI,Q1]
 repeat with_reducible refine sdQ ?_
 refine hK _ ?_;clear hK K
 refine tn ?_
 refine Qa (st':=⟨[(4,.own 0 0 b1.length)],[(0,.row 1 (Is b1))],1⟩) (Wk.r1 [(0,0)] (by simp [hP,hhOk,back,UA,U1,IA,I1,LA,L1,BA,B1,EA,E1,E2,eB,eI,eL])) ?_
 refine Qk ?_
 have hr:=Option.some.inj h
 rw [← hr]
 refine ⟨_,(.tmp .nil),?_⟩
 refine ⟨(.one rfl rfl .nil),[.lst true 1 (Is b1)],[0],by simp [UA,U1,IA,I1,LA,L1,BA,B1,EA,E1,E2,eB,eI,eL],by simp,(UpL.refl _)⟩
end Go.Vc.T
namespace Go.Vc.T
open Go Go.Vc Go.Proofs
noncomputable def Q1A (lists_:List (List Int)) (list_:List Int):Option Int :=
 (QH (σ:=Int) (ε:=Unit ⊕ Int) (fun s7 =>
  if s7<(lists_.length:Int) then
   ass (0≤s7∧s7<(lists_.length:Int)) <|
   (Q3a (rx lists_ s7) list_).bind fun v10 =>
   if v10=true then
    some (Ctl.ret (Sum.inr s7))
   else
    ass (B64 (s7+1)) <|
    some (Ctl.next (s7+1))
  else
   some (Ctl.ret (Sum.inl ()))) fuel 0).bind fun e1 =>
 match e1 with
 | .inl b1 =>
  some (-1)
 | .inr p1 =>
  some p1
theorem Q3g (lists_:List (List Int)) (list_:List Int) (r:Int) (h:Q1A lists_ list_=some r):Contract Tryz.prog 45 [.lst true 1 (Ls lists_),.lst true 1 (Is list_)] (.val (.int .i64 r)):=by
 refine Qi (rvs:=[.tmp 4]) (rs:=[.val (.int .i64 r)]) Tryz.func45 rfl rfl rfl rfl (by simp [Tryz.f45]) fun F hN hP=>?_
 unfold Q1A at h
 refine Q6 ?_
 refine runQ hN fun K hK=>?_
 simp [-Q0,-Q8,-Q3,-Q9,-Q4,eL,eI,Q1]
 repeat with_reducible refine sdQ ?_
 refine hK _ ?_;clear hK K
 refine tn ?_
 refine Qa (st':=⟨[(0,.lst true 1 (Ls lists_)),(1,.lst true 1 (Is list_))],[],0⟩) (Wk.r1 [] (by simp [hP,hhOk,back,UA,U1,IA,I1,LA,L1,BA,B1,EA,E1,E2,eB,eI,eL])) ?_
 refine Q6 ?_
 refine Q6 ?_
 refine runQ hN fun K hK=>?_
 simp [-Q0,-Q8,-Q3,-Q9,-Q4,eL,eI,Q1]
 repeat with_reducible refine sdQ ?_
 refine hK _ ?_;clear hK K
 refine tn ?_
 refine Qa (st':=⟨[(0,.lst true 1 (Ls lists_)),(1,.lst true 1 (Is list_)),(5,.val (.int .i64 0))],[],0⟩) (Wk.r1 [] (by simp [hP,hhOk,back,UA,U1,IA,I1,LA,L1,BA,B1,EA,E1,E2,eB,eI,eL])) ?_
 replace h:=bind_some h
 obtain ⟨e1,h,h1⟩:=h
 refine Qm (fun b1:Unit=>⟨[],[],0⟩) (fun b1=>Sum.inl b1=e1) ?_ ?_
 ·refine Qf ?_
  refine Qy h (fun s7:Int=>⟨[(0,.lst true 1 (Ls lists_)),(1,.lst true 1 (Is list_)),(5,.val (.int .i64 s7))],[],0⟩) (Wk.r1 [] (by simp [hP,hhOk,back,UA,U1,IA,I1,LA,L1,BA,B1,EA,E1,E2,eB,eI,eL])) ?_
  clear h
  intro k7 s7 c7 h hk7
  refine Q6 ?_
  refine Q6 ?_
  refine runQ hN fun K hK=>?_
  simp [-Q0,-Q8,-Q3,-Q9,-Q4,eL,eI,Q1]
  repeat with_reducible refine sdQ ?_
  refine hK _ ?_;clear hK K
  refine tn ?_
  refine Qa (st':=⟨[(0,.lst true 1 (Ls lists_)),(1,.lst true 1 (Is list_)),(5,.val (.int .i64 s7)),(9,.val (.bool (decide (s7<(lists_.length:Int)))))],[],0⟩) (Wk.r1 [] (by simp [hP,hhOk,back,UA,U1,IA,I1,LA,L1,BA,B1,EA,E1,E2,eB,eI,eL])) ?_
  refine Qg rfl (fun g=>?_) fun g=>?_
  ·have g8:s7<(lists_.length:Int):=gQ
   clear g
   replace h:=if_l g8 h
   refine Qh ?_
   refine tn ?_
   refine Q6 ?_
   refine Qf ?_
   refine Q6 ?_
   refine runQ hN fun K hK=>?_
   replace h:=Q7 h
   obtain ⟨a9,h⟩:=h
   simp [-Q0,-Q8,-Q3,-Q9,-Q4,eL,eI,Q1,at_L a9]
   repeat with_reducible refine sdQ ?_
   replace h:=bind_some h
   obtain ⟨v10,hv10,h⟩:=h
   refine Q2 (Q7T _ _ v10 hv10) (.cons .lst (.cons .lst .nil)) ?_
   simp [-Q0,-Q8,-Q3,-Q9,-Q4,unk,unA,unE,unT,unC,flat,eL,eI,Q1,at_L a9]
   repeat with_reducible refine sdQ ?_
   refine hK _ ?_;clear hK K
   refine tn ?_
   refine Qa (st':=⟨[(0,.lst true 1 (Ls lists_)),(1,.lst true 1 (Is list_)),(5,.val (.int .i64 s7)),(17,.val (.bool v10))],[],0⟩) (Wk.r1 [] (by simp [hP,hhOk,back,UA,U1,IA,I1,LA,L1,BA,B1,EA,E1,E2,eB,eI,eL])) ?_
   refine Qg rfl (fun g=>?_) fun g=>?_
   ·have g11:v10=true:=gQ
    clear g
    replace h:=if_l g11 h
    refine Q6 ?_
    refine runQ hN fun K hK=>?_
    simp [-Q0,-Q8,-Q3,-Q9,-Q4,eL,eI,Q1]
    repeat with_reducible refine sdQ ?_
    refine hK _ ?_;clear hK K
    refine tn ?_
    refine Qa (st':=⟨[(4,.val (.int .i64 s7))],[],0⟩) (Wk.r1 [] (by simp [hP,hhOk,back,UA,U1,IA,I1,LA,L1,BA,B1,EA,E1,E2,eB,eI,eL])) ?_
    refine Qk ?_
    refine br ?_
    refine tr ?_
    refine lr ?_
    refine br ?_
    refine tr ?_
    cases h
    have q:_=e1:=hk7
    have h:=h1
    rw [← q] at h
    clear q
    try dsimp only at h
    have hr:=Option.some.inj h
    rw [← hr]
    refine ⟨_,(.tmp .nil),?_⟩
    refine ⟨(.one rfl rfl .nil),[.val (.int .i64 s7)],[],by simp [UA,U1,IA,I1,LA,L1,BA,B1,EA,E1,E2,eB,eI,eL],by simp,(UpL.refl _)⟩
   have g11:¬ (v10=true):=gQ
   clear g
   replace h:=if_r g11 h
   refine Qh ?_
   refine bn ?_
   refine tn ?_
   refine runQ hN fun K hK=>?_
   replace h:=Q7 h
   obtain ⟨a12,h⟩:=h
   simp [-Q0,-Q8,-Q3,-Q9,-Q4,eL,eI,Q1,Qw a12]
   repeat with_reducible refine sdQ ?_
   refine hK _ ?_;clear hK K
   cases h
   exact rn (s':=s7+1) hk7 (Wk.r1 [] (by simp [hP,hhOk,back,UA,U1,IA,I1,LA,L1,BA,B1,EA,E1,E2,eB,eI,eL]))
  have g8:¬ (s7<(lists_.length:Int)):=gQ
  clear g
  replace h:=if_r g8 h
  refine Qp ?_
  refine tx ?_
  refine lx ?_
  refine bh ?_
  cases h
  exact jn (b:=()) hk7 (Wk.r1 [] (by simp [hP,hhOk,back,UA,U1,IA,I1,LA,L1,BA,B1,EA,E1,E2,eB,eI,eL]))
 intro b1 hb1
 have h:=h1
 rw [← hb1] at h
 clear h1
 try dsimp only at h
 refine Q6 ?_
 refine runQ hN fun K hK=>?_
 simp [-Q0,-Q8,-Q3,-Q9,-Q4,eL,eI,Q1]
 repeat with_reducible refine sdQ ?_
 refine hK _ ?_;clear hK K
 refine tn ?_
 refine Qa (st':=⟨[(4,.val (.int .i64 (-1)))],[],0⟩) (Wk.r1 [] (by simp [hP,hhOk,back,UA,U1,IA,I1,LA,L1,BA,B1,EA,E1,E2,eB,eI,eL])) ?_
 refine Qk ?_
 have hr:=Option.some.inj h
 rw [← hr]
 refine ⟨_,(.tmp .nil),?_⟩
 refine ⟨(.one rfl rfl .nil),[.val (.int .i64 (-1))],[],by simp [UA,U1,IA,I1,LA,L1,BA,B1,EA,E1,E2,eB,eI,eL],by simp,(UpL.refl _)⟩
end Go.Vc.T
namespace Go.Vc.T
open Go Go.Vc Go.Proofs
theorem Q9a {α β:Type} [DecidableEq α] (k k':α) (v:β) (m:List (α × β)):Q1E k (tset k' v m)=if k'=k then some v else Q1E k m:=by
 induction m with
 | nil=>simp [tset,Q1E]
 | cons p r ih =>
  obtain ⟨a,x⟩:=p
  unfold tset
  by_cases h:a=k'
  ·subst h
   rw [if_pos rfl]
   by_cases h2:a=k<;>simp [Q1E,h2]
  rw [if_neg h]
  simp only [Q1E,ih]
  by_cases h2:a=k
  ·subst h2
   rw [if_pos rfl,if_pos rfl,if_neg (fun e=>h e.symm)]
  rw [if_neg h2,if_neg h2]
theorem tset_len {α β:Type} [DecidableEq α] (k:α) (v:β) (m:List (α × β)):(tset k v m).length≤m.length+1:=by
 induction m with
 | nil=>simp [tset]
 | cons p r ih =>
  obtain ⟨a,x⟩:=p
  unfold tset
  split<;>simp
  exact ih
def plM {α:Type} [DecidableEq α] (k:Nat→α):Nat→List (α × Int)
 | 0=>[]
 | n+1=>tset (k n) (n:Int) (plM k n)
theorem plM_len {α:Type} [DecidableEq α] (k:Nat→α) (n:Nat):(plM k n).length≤n:=by
 induction n with
 | zero=>simp [plM]
 | succ n ih=>exact Nat.le_trans (tset_len _ _ _) (by omega)
theorem plM_find {α:Type} [DecidableEq α] {k:Nat→α} {n:Nat} (h:∀ a b,a<n→b<n→k a=k b→a=b) {j:Nat} (hj:j<n):Q1E (k j) (plM k n)=some (j:Int):=by
 induction n with
 | zero=>omega
 | succ n ih =>
  rw [plM,Q9a]
  by_cases e:k n=k j
  ·rw [if_pos e,h n j (by omega) hj e]
  rw [if_neg e]
  have:j ≠ n:=fun q=>e (by rw [q])
  exact ih (fun a b ha hb=>h a b (by omega) (by omega)) (by omega)
theorem Q7j (ns:List Int):(Q1W ns).data.toList=ns.map fun n=>UInt8.ofNat n.toNat:=by
 have:∀ (ns:List Int) (s:ByteArray),(ns.foldl (fun r n=>r.push (UInt8.ofNat n.toNat)) s).data.toList=s.data.toList++ns.map fun n=>UInt8.ofNat n.toNat:=by
  intro ns
  induction ns with
  | nil=>intro s;simp
  | cons n ns ih=>intro s;simp only [List.foldl_cons,ih,List.map_cons];simp [ByteArray.push]
 simpa [Q1W] using this ns ByteArray.empty
theorem Q6V {α β:Type} {f:α→β}:∀ {a b:List α},(∀ x∈a,∀ y∈b,f x=f y→x=y)→a.map f=b.map f→a=b:=by
 intro a
 induction a with
 | nil=>intro b _ h;cases b with|nil=>rfl|cons=>simp at h
 | cons x a ih =>
  intro b hi h
  cases b with
  | nil=>simp at h
  | cons y b =>
   simp only [List.map_cons,List.cons.injEq] at h
   rw [hi x (by simp) y (by simp) h.1,ih (fun u hu v hv=>hi u (by simp [hu]) v (by simp [hv])) h.2]
theorem Q8B {a b:List Int} (ha:∀ x∈a,0≤x∧x<256) (hb:∀ x∈b,0≤x∧x<256) (h:Q1W a=Q1W b):a=b:=by
 have h1:=congrArg (fun s=>s.data.toList) h
 simp only [Q7j] at h1
 refine Q6V (fun x hx y hy e=>?_) h1
 have e2:=congrArg UInt8.toNat e
 have p1:=ha x hx
 have p2:=hb y hy
 simp only [UInt8.toNat_ofNat'] at e2
 omega
theorem wrap8 {n:Int} (h0:0≤n) (h1:n<256):IntKind.u8.wrap n=n:=by
 simp [IntKind.wrap,IntKind.signed,IntKind.bits]
 omega
theorem wrap8_b (n:Int):0≤IntKind.u8.wrap n∧IntKind.u8.wrap n<256:=by
 simp [IntKind.wrap,IntKind.signed,IntKind.bits]
 omega
def keyB (x:List Int):ByteArray:=Q1W (x.map IntKind.u8.wrap++[255])
theorem keyB_inj {x y:List Int} (hx:∀ a∈x,0≤a∧a<256) (hy:∀ a∈y,0≤a∧a<256) (h:keyB x=keyB y):x=y:=by
 have hw:∀ x:List Int,∀ a∈x.map IntKind.u8.wrap++[255],0≤a∧a<256:=by
  intro x a ha
  rcases List.mem_append.1 ha with ha|ha
  ·obtain ⟨b,_,rfl⟩:=List.mem_map.1 ha
   exact wrap8_b b
  rw [List.mem_singleton.1 ha];omega
 have h1:=Q8B (hw x) (hw y) h
 have h2:=(List.append_inj' h1 rfl).1
 refine Q6V (fun a ha b hb e=>?_) h2
 rwa [wrap8 (hx a ha).1 (hx a ha).2,wrap8 (hy b hb).1 (hy b hb).2] at e
structure Keyed (L:List (List Int)):Prop where
 nd:L.Nodup
 sm:∀ x∈L,∀ a∈x,0≤a∧a<256
noncomputable def posL (L:List (List Int)) (x:List Int):Int:=fstN L.length fun i=>rx L i=x
theorem Q6t {L:List (List Int)} {i:Nat} (h:i<L.length):rx L i∈L:=by
 rw [← Q1V _ _ h];exact List.getElem_mem h
theorem Keyed.inj {L:List (List Int)} (h:Keyed L) {i j:Nat} (hi:i<L.length) (hj:j<L.length) (e:rx L i=rx L j):i=j:=by
 rw [← Q1V _ _ hi,← Q1V _ _ hj] at e
 rcases Nat.lt_trichotomy i j with q|q|q
 ·exact absurd e (List.pairwise_iff_getElem.1 h.nd i j hi hj q)
 ·exact q
 exact absurd e.symm (List.pairwise_iff_getElem.1 h.nd j i hj hi q)
theorem Keyed.at {L:List (List Int)} (h:Keyed L) {x:List Int} (hx:x∈L):∃ j:Nat,j<L.length∧rx L j=x∧posL L x=j∧Q1E (keyB x) (plM (fun i=>keyB (rx L i)) L.length)=some (j:Int):=by
 obtain ⟨j,hj,rfl⟩:=List.getElem_of_mem hx
 refine ⟨j,hj,(Q1V _ _ hj).symm,?_,?_⟩
 ·unfold posL
  rcases Q8c L.length (fun i=>rx L i=L[j]) with ⟨_,h2⟩|⟨k,hk,h2,h3⟩
  ·exact absurd (Q1V _ _ hj).symm (h2 j hj)
  rw [h3,h.inj hk hj (by rw [h2,Q1V _ _ hj])]
 have:=plM_find (k:=fun i=>keyB (rx L i)) (n:=L.length) (fun a b ha hb e=>h.inj ha hb (keyB_inj (h.sm _ (Q6t ha)) (h.sm _ (Q6t hb)) e)) hj
 rw [Q1V _ _ hj]
 exact this
theorem flt_nodup (n:Nat) (p:Nat→Prop):(flt n p).Nodup:=by
 unfold flt
 refine List.Pairwise.map (R:=fun a b=>a ≠ b) Int.ofNat (fun a b h e=>h (Int.ofNat.inj e)) ?_
 exact List.nodup_range.filter _
theorem Q5g {α β:Type} {xs:List α} {f:α→List β} (h1:∀ x∈xs,(f x).Nodup) (h2:xs.Nodup) (h3:∀ x y,x ≠ y→∀ a∈f x,∀ b∈f y,a ≠ b):(xs.flatMap f).Nodup:=by
 refine List.pairwise_flatMap.2 ⟨h1,?_⟩
 exact List.Pairwise.imp (fun {a b} hne=>h3 a b hne) h2
theorem fstN_at {n:Nat} {p:Nat→Prop} {m:Nat} (hm:m<n) (hp:p m) (hlt:∀ k,k<m→¬ p k):fstN n p=(m:Int):=by
 unfold fstN
 rw [show ((List.range n).find? fun i=>bo (p i))=some m from List.find?_eq_some_iff_getElem.2 ⟨by rw [bo_tt];exact hp,m,by simpa using hm,by simp,fun j hj=>by simp [Qz (hlt j hj)]⟩]
 rfl
theorem fstN_no {n:Nat} {p:Nat→Prop} (h:∀ i,i<n→¬ p i):fstN n p = -1:=by
 rcases Q8c n p with ⟨h1,_⟩|⟨k,h1,h2,_⟩
 ·exact h1
 exact absurd h2 (h k h1)
theorem fst_bind {ε β:Type} {body:Int→Option (Ctl Int ε)} {K:ε→Option β} {r:Option β} (n:Nat) (p:Nat→Prop) {eb:Nat→ε} {eg:ε} (hn:n<4611686018427387904) (h1:∀ i:Nat,i<n→¬ p i→body (i:Int)=some (.next ((i:Int)+1))) (h2:∀ i:Nat,i<n→p i→body (i:Int)=some (.ret (eb i))) (h3:body (n:Int)=some (.ret eg))
  (hb:∀ m,m<n→p m→(∀ k,k<m→¬ p k)→K (eb m)=r) (hg:(∀ i,i<n→¬ p i)→K eg=r):(QH body fuel 0).bind K=r:=by
 rcases Q8i n (fun i=>¬ p i) hn h1 (fun i hi h=>h2 i hi (Classical.byContradiction h)) h3 with ⟨h,e⟩|⟨m,hm,hq,hlt,e⟩
 ·rw [e];exact hg h
 rw [e];exact hb m hm (Classical.byContradiction hq) hlt
theorem Q87 {L:List (List Int)} (hn:L.length<1000000) (x:List Int):Q1A L x=some (posL L x):=by
 unfold Q1A Q3a posL
 refine fst_bind L.length (fun i=>rx L i=x) (eb:=fun i=>Sum.inr (i:Int)) (eg:=Sum.inl ()) (by omega) (fun i hi h=>?_) (fun i hi h=>?_) (by simp) (fun m hm hp hlt=>?_) fun h=>?_
 ·rw [if_pos (by omega),Qe (by omega)]
  simp only [Option.bind_some,decide_eq_true_eq,if_neg h]
  rw [Qe (by unfold B64;omega)]
 ·rw [if_pos (by omega),Qe (by omega)]
  simp only [Option.bind_some,decide_eq_true_eq,if_pos h]
 ·simp only;rw [fstN_at hm hp hlt]
 simp only;rw [fstN_no h]
theorem take_rx {L:List (List Int)} {i:Nat} (h:i<L.length):L.take (i+1)=L.take i++[rx L i]:=by rw [List.take_succ_eq_append_getElem h,Q1V _ _ h]
theorem e_key {x:List Int} (h:x.length≤1000):Q39 [x]=some (keyB x):=by
 unfold Q39 keyB
 refine QM 1 (fun i=>if i=0 then [] else x.map IntKind.u8.wrap++[255]) (e:=x.map IntKind.u8.wrap++[255]) (by simp) (by omega) (fun i hi=>?_) (by simp) rfl
 have:i=0:=by omega
 subst this
 have hx:rx [x] ((0:Nat):Int)=x:=by simp [rx]
 simp only [hx]
 rw [if_pos (by simp),Qe (by simp)]
 refine QM x.length (fun k=>(x.take k).map IntKind.u8.wrap) (e:=x.map IntKind.u8.wrap) (by simp) (by omega) (fun k hk=>?_) (by simp) ?_
 ·have hs:x.take (k+1)=x.take k++[ix x k]:=by rw [List.take_succ_eq_append_getElem hk,Q1F _ _ hk]
  simp (disch:=omega) [Qe,B64,hs];try omega
 simp (disch:=omega) [Qe,B64];try omega
noncomputable def plL (L:List (List Int)):List (ByteArray × Int):=plM (fun i=>keyB (rx L i)) L.length
theorem Q88 {L:List (List Int)} (hn:L.length<1000000) (hx:∀ x∈L,x.length≤1000):Q2s L=some (plL L):=by
 unfold Q2s plL
 refine QM L.length (fun i=>plM (fun i=>keyB (rx L i)) i) (e:=plM (fun i=>keyB (rx L i)) L.length) rfl (by omega) (fun i hi=>?_) (by simp) rfl
 have h1:=plM_len (fun i:Nat=>keyB (rx L i)) i
 simp only
 rw [if_pos (by omega),Qe (by omega),e_key (hx _ (Q6t hi))]
 simp only [Option.bind_some]
 rw [Qe (by omega),Qe (by unfold B64;omega)]
 rfl
theorem Q4W {L:List (List Int)} {k:Int} (hn:L.length<1000000) (h0:0≤k) (hx:∀ x∈L,k<x.length):Q2r L k=some (L.map (ix · k))∧Q1C L k=some (L.map (ix · k)):=by
 unfold Q2r Q1C
 constructor <;>
 ·refine QM L.length (fun i=>(L.take i).map (ix · k)) (e:=L.map (ix · k)) (by simp) (by omega) (fun i hi=>?_) (by simp) rfl
  have h1:=hx _ (Q6t hi)
  have h2:=take_rx hi
  simp (disch:=omega) [Qe,B64,h2];try omega
end Go.Vc.T
namespace Go.Vc.T
open Go Go.Vc Go.Proofs
theorem homL_in {c:Cat} {f x y:Int} (h:Ar c f x y):f∈homL c x y:=by
 unfold homL
 rw [mem_flt]
 refine ⟨f.toNat,by omega,?_,by omega⟩
 rw [Int.toNat_of_nonneg h.1.1]
 exact h.2
noncomputable def klF (m:Mnd) (x y:Nat):List (List Int):=(homL m.f.s x (ix m.f.ob y)).map fun f=>[(x:Int),(y:Int),f]
noncomputable def klX (m:Mnd) (x k:Nat):List (List Int):=(List.range k).flatMap (klF m x)
noncomputable def klN (m:Mnd) (n k:Nat):List (List Int):=(List.range k).flatMap fun x=>klX m x n
noncomputable def klL (m:Mnd):List (List Int):=klN m m.f.s.n.toNat m.f.s.n.toNat
theorem Q6b (m:Mnd) (x k:Nat):klX m x (k+1)=klX m x k++klF m x k:=by simp [klX,List.range_succ]
theorem Q6a (m:Mnd) (n k:Nat):klN m n (k+1)=klN m n k++klX m k n:=by simp [klN,List.range_succ]
theorem klF_len (m:Mnd) (h:m.f.s.fr.length≤40) (x y:Nat):(klF m x y).length≤40:=by
 have:=Q68 m.f.s x (ix m.f.ob y)
 simp only [klF,List.length_map]
 omega
theorem Q7B (m:Mnd) (h:m.f.s.fr.length≤40) (x k:Nat):(klX m x k).length≤k * 40:=by
 induction k with
 | zero=>simp [klX]
 | succ k ih =>
  have:=klF_len m h x k
  rw [Q6b,List.length_append]
  omega
theorem Q69 (m:Mnd) (h:m.f.s.fr.length≤40) (n k:Nat) (hn:n≤8):(klN m n k).length≤k * 320:=by
 induction k with
 | zero=>simp [klN]
 | succ k ih =>
  have:=Q7B m h k n
  rw [Q6a,List.length_append]
  omega
theorem mem_kl {m:Mnd} {a:List Int}:a∈klL m↔∃ x y f:Int,(0≤x∧x<m.f.s.n)∧(0≤y∧y<m.f.s.n)∧Ar m.f.s f x (ix m.f.ob y)∧a=[x,y,f]:=by
 simp only [klL,klN,klX,klF,List.mem_flatMap,List.mem_map,List.mem_range]
 constructor
 ·rintro ⟨x,hx,y,hy,f,hf,rfl⟩
  exact ⟨x,y,f,by omega,by omega,homL_mem f hf,rfl⟩
 rintro ⟨x,y,f,hx,hy,hf,rfl⟩
 refine ⟨x.toNat,by omega,y.toNat,by omega,f,?_,?_⟩
 ·rw [Int.toNat_of_nonneg hx.1,Int.toNat_of_nonneg hy.1];exact homL_in hf
 rw [Int.toNat_of_nonneg hx.1,Int.toNat_of_nonneg hy.1]
theorem Q8f {m:Mnd} (h1:m.f.s.fr.length≤40) (h2:m.f.s.n≤8):Keyed (klL m):=by
 refine ⟨?_,fun a ha b hb=>?_⟩
 ·refine Q5g (fun x _=>Q5g (fun y _=>?_) List.nodup_range fun y z hne a ha b hb=>?_) List.nodup_range fun x z hne a ha b hb=>?_
  ·exact List.Pairwise.map (R:=fun a b=>a ≠ b) _ (fun f g hne e=>hne (by simpa using e)) (flt_nodup _ _)
  ·obtain ⟨f,_,rfl⟩:=List.mem_map.1 ha
   obtain ⟨g,_,rfl⟩:=List.mem_map.1 hb
   intro e
   simp only [List.cons.injEq] at e
   omega
  simp only [klX,klF,List.mem_flatMap,List.mem_map,List.mem_range] at ha hb
  obtain ⟨_,_,f,_,rfl⟩:=ha
  obtain ⟨_,_,g,_,rfl⟩:=hb
  intro e
  simp only [List.cons.injEq] at e
  omega
 obtain ⟨x,y,f,hx,hy,hf,rfl⟩:=mem_kl.1 ha
 have:=hf.1
 simp only [List.mem_cons,List.not_mem_nil,or_false] at hb
 rcases hb with rfl|rfl|rfl<;>omega
def Q3n (m:Mnd) (z f g:Int):Int:=ix (rx m.f.s.cs (ix (rx m.f.s.cs f) (ix m.f.ar g))) (ix m.j z)
theorem kl_bind {m:Mnd} (hm:m.Is) {f g x y z:Int} (hf:Ar m.f.s f x (ix m.f.ob y)) (hg:Ar m.f.s g y (ix m.f.ob z)) (hz:0≤z∧z<(m.f.ob.length:Int)):Ar m.f.s (Q3n m z f g) x (ix m.f.ob z) :=
 ((hf.two hm.pre.f.s (hm.pre.Aa rfl hg)).two hm.pre.f.s (hm.pre.Aj rfl hz))
noncomputable def bC (n:Int) (L:List (List Int)) (idv:Nat→Int) (cmp:List Int→List Int→Int):Cat :=
 ⟨n,L.map (ix · 0),L.map (ix · 1),tab n.toNat fun x=>posL L [(x:Int),(x:Int),idv x],
  tab L.length fun i=>tab L.length fun j=>if ix (rx L i) 1=ix (rx L j) 0 then posL L [ix (rx L i) 0,ix (rx L j) 1,cmp (rx L i) (rx L j)] else -1⟩
theorem bC_ok {n:Int} {L:List (List Int)} {idv:Nat→Int} {cmp:List Int→List Int→Int} (hn:n≤8) (hl:L.length≤40):(bC n L idv cmp).ok∧(bC n L idv cmp).size≤2000:=by
 have hr:∀ xs∈(bC n L idv cmp).cs,xs.length≤40:=by
  intro xs hx
  obtain ⟨i,hi,rfl⟩:=List.mem_map.1 hx
  simpa using hl
 have h7:=sumL_b hr
 have h8:(bC n L idv cmp).cs.length=L.length:=by simp [bC]
 have h9:(bC n L idv cmp).cs.length * 40≤40 * 40:=Nat.mul_le_mul_right _ (by omega)
 have e1:(bC n L idv cmp).fr.length=L.length:=by simp [bC]
 have e2:(bC n L idv cmp).to.length=L.length:=by simp [bC]
 have e3:(bC n L idv cmp).id.length=n.toNat:=by simp [bC]
 refine ⟨⟨by omega,by omega,by omega,by omega,fun xs hx=>by have:=hr xs hx;omega,by omega⟩,?_⟩
 simp only [Cat.size]
 omega
end Go.Vc.T
namespace Go.Vc.T
open Go Go.Vc Go.Proofs
def mixr {α:Type} (m g:Nat) (v:Nat→α) (z:α):List α:=tab m fun j=>if j<g then v j else z
@[simp] theorem mixr_length {α:Type} (m g:Nat) (v:Nat→α) (z:α):(mixr m g v z).length=m:=by simp [mixr]
theorem Q6e {α:Type} {m g:Nat} {v:Nat→α} {z:α}:(mixr m g v z).set g (v g)=mixr m (g+1) v z:=by
 refine List.ext_getElem (by simp) fun j h1 h2=>?_
 simp only [mixr,tab,List.getElem_set,List.getElem_map,List.getElem_range]
 by_cases h:g=j
 ·subst h;simp
 have:(j<g)=(j<g+1):=propext ⟨fun _=>by omega,fun _=>by omega⟩
 simp [h,this]
theorem Q6Z {α:Type} (m:Nat) (v:Nat→α) (z:α):mixr m 0 v z=List.replicate m z:=by
 refine List.ext_getElem (by simp) fun j h1 h2=>?_
 simp [mixr,tab]
theorem Q8n {α:Type} (m:Nat) (v:Nat→α) (z:α):mixr m m v z=tab m v:=by
 refine List.ext_getElem (by simp) fun j h1 h2=>?_
 have:j<m:=by simpa using h1
 simp [mixr,tab,this]
theorem rx_set {xs:List (List Int)} {i:Nat} (h:i<xs.length) (r:List Int):rx (xs.set i r) (i:Int)=r:=by
 simp [rx,List.getD_eq_getElem?_getD,h]
end Go.Vc.T
namespace Go.Vc.T
open Go Go.Vc Go.Proofs
noncomputable def QE (z_:Int) (f_:Int) (g_:Int) (c0_:Cat) (c1_:Mnd):Option Int :=
 ass (0≤g_∧g_<(c1_.f.ar.length:Int)) <|
 (Qo c0_ f_ (ix c1_.f.ar g_)).bind fun v2 =>
 ass (0≤z_∧z_<(c1_.j.length:Int)) <|
 (Qo c0_ v2 (ix c1_.j z_)).bind fun v4 =>
 some v4
theorem Q2G (z_:Int) (f_:Int) (g_:Int) (c0_:Cat) (c1_:Mnd) (r:Int) (h:QE z_ f_ g_ c0_ c1_=some r):Contract Tryz.prog 144 [.val (.int .i64 z_),.val (.int .i64 f_),.val (.int .i64 g_),.rptr [.rptr (Cat.cells true c0_)],.rptr [.rptr (Mnd.cells true c1_)]] (.val (.int .i64 r)):=by
 refine Qi (rvs:=[.tmp 8]) (rs:=[.val (.int .i64 r)]) Tryz.func144 rfl rfl rfl rfl (by simp [Tryz.f144]) fun F hN hP=>?_
 unfold QE at h
 refine Q6 ?_
 refine runQ hN fun K hK=>?_
 simp [-Q0,-Q8,-Q3,-Q9,-Q4,eL,eI,Q1,Q5,Qc,Cat.cells,Mnd.cells]
 repeat with_reducible refine sdQ ?_
 refine hK _ ?_;clear hK K
 refine tn ?_
 refine Qa (st':=⟨[(0,.val (.int .i64 z_)),(1,.val (.int .i64 f_)),(2,.val (.int .i64 g_)),(3,.rptr [.rptr (Cat.cells true c0_)]),(4,.rptr [.rptr (Mnd.cells true c1_)])],[],0⟩) (Wk.r1 [] (by simp [hP,hhOk,back,Cat.cells,Mnd.cells,UA,U1,IA,I1,LA,L1,BA,B1,EA,E1,E2,eB,eI,eL])) ?_
 refine Q6 ?_
 refine runQ hN fun K hK=>?_
 replace h:=Q7 h
 obtain ⟨a1,h⟩:=h
 simp [-Q0,-Q8,-Q3,-Q9,-Q4,eL,eI,Q1,Q5,Qc,Cat.cells,Mnd.cells,at_I a1]
 repeat with_reducible refine sdQ ?_
 replace h:=bind_some h
 obtain ⟨v2,hv2,h⟩:=h
 refine Q2 (QB _ _ _ v2 hv2) (.cons (.preT (by simp [Cat.cells,Mnd.cells])) (.cons .val (.cons .val .nil))) ?_
 replace h:=Q7 h
 obtain ⟨a3,h⟩:=h
 simp [-Q0,-Q8,-Q3,-Q9,-Q4,unk,unA,unE,unT,unC,flat,eL,eI,Q1,Q5,Qc,Cat.cells,Mnd.cells,at_I a1,at_I a3]
 repeat with_reducible refine sdQ ?_
 replace h:=bind_some h
 obtain ⟨v4,hv4,h⟩:=h
 refine Q2 (QB _ _ _ v4 hv4) (.cons (.preT (by simp [Cat.cells,Mnd.cells])) (.cons .val (.cons .val .nil))) ?_
 simp [-Q0,-Q8,-Q3,-Q9,-Q4,unk,unA,unE,unT,unC,flat,eL,eI,Q1,Q5,Qc,Cat.cells,Mnd.cells,at_I a1,at_I a3]
 repeat with_reducible refine sdQ ?_
 refine hK _ ?_;clear hK K
 refine tn ?_
 refine Qa (st':=⟨[(8,.val (.int .i64 v4))],[],0⟩) (Wk.r1 [] (by simp [hP,hhOk,back,Cat.cells,Mnd.cells,UA,U1,IA,I1,LA,L1,BA,B1,EA,E1,E2,eB,eI,eL])) ?_
 refine Qk ?_
 have hr:=Option.some.inj h
 rw [← hr]
 refine ⟨_,(.tmp .nil),?_⟩
 refine ⟨(.one rfl rfl .nil),[.val (.int .i64 v4)],[],by simp [Cat.cells,Mnd.cells,UA,U1,IA,I1,LA,L1,BA,B1,EA,E1,E2,eB,eI,eL],by simp,(UpL.refl _)⟩
end Go.Vc.T
